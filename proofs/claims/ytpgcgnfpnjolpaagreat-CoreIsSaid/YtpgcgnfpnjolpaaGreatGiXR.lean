/- part 75 -/
import Derived.Test.YtpgcgnfpnjolpaaGreatGiXS
import Derived.Test.YtpgcgnfpnjolpaaGreatGiAbE
import Derived.Test.YtpgcgnfpnjolpaaGreatProg
set_option linter.unusedVariables false
set_option maxRecDepth 100000
set_option maxHeartbeats 4000000
namespace Go.Ab.Gi
open Go.RowKit Go.Lib Go.Proofs Go.Proofs.Tryz
noncomputable section
theorem dQ:prog.follows .mixedOrders=true:=by kernel_rfl
abbrev n0:qA:=⟨[],[],[],true⟩
theorem e0:wL ⟨prog,fun _=>false,jA []⟩:=jk (l:=[]) dQ trivial
theorem e1 {a0}(h0:zD prog a0):wL ⟨prog,fun _=>false,jA [a0]⟩:=jk (l:=[a0]) dQ ⟨h0,trivial⟩
theorem e2 {a0 a1}(h0:zD prog a0)(h1:zD prog a1):wL ⟨prog,fun _=>false,jA [a0,a1]⟩:=jk (l:=[a0,a1]) dQ ⟨h0,h1,trivial⟩
theorem e3 {a0 a1 a2}(h0:zD prog a0)(h1:zD prog a1)(h2:zD prog a2):wL ⟨prog,fun _=>false,jA [a0,a1,a2]⟩:=jk (l:=[a0,a1,a2]) dQ ⟨h0,h1,h2,trivial⟩
theorem e4 {a0 a1 a2 a3}(h0:zD prog a0)(h1:zD prog a1)(h2:zD prog a2)(h3:zD prog a3):wL ⟨prog,fun _=>false,jA [a0,a1,a2,a3]⟩:=jk (l:=[a0,a1,a2,a3]) dQ ⟨h0,h1,h2,h3,trivial⟩
theorem e5 {a0 a1 a2 a3 a4}(h0:zD prog a0)(h1:zD prog a1)(h2:zD prog a2)(h3:zD prog a3)(h4:zD prog a4):wL ⟨prog,fun _=>false,jA [a0,a1,a2,a3,a4]⟩:=jk (l:=[a0,a1,a2,a3,a4]) dQ ⟨h0,h1,h2,h3,h4,trivial⟩
theorem e6 {a0 a1 a2 a3 a4 a5}(h0:zD prog a0)(h1:zD prog a1)(h2:zD prog a2)(h3:zD prog a3)(h4:zD prog a4)(h5:zD prog a5):wL ⟨prog,fun _=>false,jA [a0,a1,a2,a3,a4,a5]⟩:=jk (l:=[a0,a1,a2,a3,a4,a5]) dQ ⟨h0,h1,h2,h3,h4,h5,trivial⟩
theorem e8 {a0 a1 a2 a3 a4 a5 a6 a7}(h0:zD prog a0)(h1:zD prog a1)(h2:zD prog a2)(h3:zD prog a3)(h4:zD prog a4)(h5:zD prog a5)(h6:zD prog a6)(h7:zD prog a7):wL ⟨prog,fun _=>false,jA [a0,a1,a2,a3,a4,a5,a6,a7]⟩:=jk (l:=[a0,a1,a2,a3,a4,a5,a6,a7]) dQ ⟨h0,h1,h2,h3,h4,h5,h6,h7,trivial⟩
theorem e9 {a0 a1 a2 a3 a4 a5 a6 a7 a8}(h0:zD prog a0)(h1:zD prog a1)(h2:zD prog a2)(h3:zD prog a3)(h4:zD prog a4)(h5:zD prog a5)(h6:zD prog a6)(h7:zD prog a7)(h8:zD prog a8):wL ⟨prog,fun _=>false,jA [a0,a1,a2,a3,a4,a5,a6,a7,a8]⟩:=jk (l:=[a0,a1,a2,a3,a4,a5,a6,a7,a8]) dQ ⟨h0,h1,h2,h3,h4,h5,h6,h7,h8,trivial⟩
def SB:=zJ 5 [.agg jX,.agg fL] (.c .bool) (fun k d=>Cg k (yE d) (jx d)) (fun x=>(x,())) (fun d=>d.1)
theorem F0q:zD prog SB:=fA f5 n0 e0 loops0
def R1q:=zJ 15 [.c .i,.c .i,.c .i] (.c .bool) (fun k d=>mS k d.1 d.2.1 d.2.2.1) (fun x=>(x,())) (fun d=>d.1)
theorem SC:zD prog R1q:=fA f15 n0 e0 loops0
def SD:zF:=sp [sP 1 0,sI 3] [oB jH]
def SE:zF:=sp [sP 1 0] [oB jH]
def SF:zF:=sp [(2,.c .bool)] []
def SG (f:Ii)(d:SD.den):=f d.1.2.1.1 (yE d.2.1)
def Ij:qB:=⟨[SD],[(.exit 0,SE),(.ret,SF)],Ik,fun k d=>SG (pq k k) d,fun b x _ K=>match x with|.inl x=>K (.exit 0) (zL b SE (((),()),((gw x ()),())))|.inr x=>K .ret (zL b SF (((x,()),()),()))⟩
def SH:qA:=⟨[],[(4,Ij)],[],true⟩
theorem yOm:zY prog 1000 0 58 (zV (zW f6) 0) Ij:=lp (A:=SH) Ij (fun d=>match d with|.inl d=>.inl (yE d.2.1)|.inr d=>.inr d.1.1.1) SG pq tw (e1 SC) loops0
def SI:=zJ 6 [.agg jX] (.c .bool) (fun k d=>Cf k (yE d)) (fun x=>(x,())) (fun d=>d.1)
theorem F2q:zD prog SI:=fA f6 SH (e1 SC) (qD yOm)
def R3q:=zJ 16 [.c .i,.c .i,.c .i] (.c .bool) (fun k d=>yU k d.1 d.2.1 d.2.2.1) (fun x=>(x,())) (fun d=>d.1)
theorem wK:zD prog R3q:=fA f16 n0 e0 loops0
def R4q:=zJ 48 [.agg iy] (.c .bool) (fun k d=>A8 k d.1 d.2.1 d.2.2.1) (fun x=>(x,())) (fun d=>d.1)
theorem SJ:zD prog R4q:=fA f48 ⟨[],[],[],false⟩ e0 loops0
def R5q:=zJ 47 [.agg iy] (.c .bool) (fun k d=>GW k d.1 d.2.1 d.2.2.1) (fun x=>(x,())) (fun d=>d.1)
theorem SK:zD prog R5q:=fA f47 ⟨[],[],[],false⟩ (e1 SJ) loops0
def SM:zF:=sp [(0,.c (.dat false qY)),(1,.c (.lit (.fn 47 []))),sI 7,sI 8] []
def SN:zF:=sp [] []
def SO:zF:=sp [sI 4] []
def SP (f:Il)(d:SM.den):=f d.1.1.1 d.1.2.2.1.1 d.1.2.2.2.1.1
def Im:qB:=⟨[SM],[(.exit 0,SN),(.ret,SO)],(Unit⊕Int),fun k d=>SP (wm k k) d,fun b x _ K=>match x with|.inl x=>K (.exit 0) (zL b SN ((),()))|.inr x=>K .ret (zL b SO (((x,()),()),()))⟩
def SQ:qA:=⟨[],[(2,Im)],[],false⟩
theorem yC7:zY prog 1000 0 19 (zV (zW f110) 0) Im:=lp (A:=SQ) Im (fun d=>match d with|.inl d=>.inl ()|.inr d=>.inr d.1.1.1) SP wm sb (e1 SK) loops0
def R6q:=zJ 110 [.c (.dat false qY),.c (.fn 47)] (.c .i) (fun k d=>GX k d.1) (fun x=>(x,())) (fun d=>d.1)
theorem F6q:zD prog R6q:=fA f110 SQ (e1 SK) (qD yC7)
def R7q:=zJ 49 [.c (.dat false qY),.c (.fn 47)] (.c .bool) (fun k d=>Ba k d.1) (fun x=>(x,())) (fun d=>d.1)
theorem F7q:zD prog R7q:=fA f49 ⟨[],[],[],false⟩ (e1 F6q) loops0
def R8q:=zJ 51 [.c .i] (.c .bool) (fun k d=>GU k d.1) (fun x=>(x,())) (fun d=>d.1)
theorem F8q:zD prog R8q:=fA f51 ⟨[],[],[],false⟩ e0 loops0
def R9q:=zJ 111 [.c .i,.ptr [.fn 51]] (.c .bool) (fun k d=>GY k d.1) (fun x=>(x,())) (fun d=>d.1)
theorem SR:zD prog R9q:=fA f111 ⟨[],[],[],false⟩ (e1 F8q) loops0
def SS:zF:=sp [(0,.c (.dat false .i)),(1,.c (.lit (.fn 111 [1001000]))),sI 7,sI 8] [.robox [.lit (.fn 51 [])]]
def SX (f:Io)(d:SS.den):=f d.1.1.1 d.1.2.2.1.1 d.1.2.2.2.1.1
def Ip:qB:=⟨[SS],[(.exit 0,SN),(.ret,SO)],(Unit⊕Int),fun k d=>SX (wo k k) d,fun b x _ K=>match x with|.inl x=>K (.exit 0) (zL b SN ((),()))|.inr x=>K .ret (zL b SO (((x,()),()),()))⟩
def SY:qA:=⟨[],[(2,Ip)],[],false⟩
theorem yIb:zY prog 1000 0 19 (zV (zW f112) 0) Ip:=lp (A:=SY) Ip (fun d=>match d with|.inl d=>.inl ()|.inr d=>.inr d.1.1.1) SX wo sd (e1 SR) loops0
def yLx:=zJ 112 [.c (.dat false .i),.fn 111 [[.fn 51]]] (.c .i) (fun k d=>GZ k d.1) (fun x=>(x,())) (fun d=>d.1)
theorem yD7:zD prog yLx:=fA f112 SY (e1 SR) (qD yIb)
def yPe:=zJ 55 [.c (.dat false .i),.fn 111 [[.fn 51]]] (.c .bool) (fun k d=>Bb k d.1) (fun x=>(x,())) (fun d=>d.1)
theorem yE0:zD prog yPe:=fA f55 ⟨[],[],[],false⟩ (e1 yD7) loops0
def yMh:=zJ 52 [.c (.dat false .i),.c .i,.c (.fn 51)] (.c .bool) (fun k d=>wu k d.1 d.2.1) (fun x=>(x,())) (fun d=>d.1)
theorem Iq:zD prog yMh:=fA f52 ⟨[],[],[],false⟩ (e1 yE0) loops0
def SZ:zF:=sp [sI 1,(2,.c (.lit (.fn 51 []))),(13,.c (.dat false (.sl .i))),sI 14,sI 15] []
def S1:zF:=sp [(6,.c .bool)] []
def S2 (f:Ir)(d:SZ.den):=f d.1.1.1 d.1.2.2.1.1 d.1.2.2.2.1.1 d.1.2.2.2.2.1.1
def Is:qB:=⟨[SZ],[(.exit 0,SN),(.ret,S1)],(Unit⊕Bool),fun k d=>S2 (wv k k) d,fun b x _ K=>match x with|.inl x=>K (.exit 0) (zL b SN ((),()))|.inr x=>K .ret (zL b S1 (((x,()),()),()))⟩
def S3:qA:=⟨[],[(4,Is)],[],false⟩
theorem yJv:zY prog 1000 0 25 (zV (zW f50) 0) Is:=lp (A:=S3) Is (fun d=>match d with|.inl d=>.inl ()|.inr d=>.inr d.1.1.1) S2 wv sf (e1 Iq) loops0
def yMy:=zJ 50 [.c (.dat false (.sl .i)),.c .i,.c (.fn 51)] (.c .bool) (fun k d=>Be k d.1 d.2.1) (fun x=>(x,())) (fun d=>d.1)
theorem yF2:zD prog yMy:=fA f50 S3 (e1 Iq) (qD yJv)
def yEg:=zJ 53 [.c .i] (.c .bool) (fun k d=>A9 k d.1) (fun x=>(x,())) (fun d=>d.1)
theorem yKg:zD prog yEg:=fA f53 ⟨[],[],[],false⟩ e0 loops0
def yRp:=zJ 111 [.c .i,.ptr [.fn 53]] (.c .bool) (fun k d=>G0 k d.1) (fun x=>(x,())) (fun d=>d.1)
theorem S4:zD prog yRp:=fA f111 ⟨[],[],[],false⟩ (e1 yKg) loops0
def S5:zF:=sp [(0,.c (.dat false .i)),(1,.c (.lit (.fn 111 [1001000]))),sI 7,sI 8] [.robox [.lit (.fn 53 [])]]
def S8 (f:Io)(d:S5.den):=f d.1.1.1 d.1.2.2.1.1 d.1.2.2.2.1.1
def Iv:qB:=⟨[S5],[(.exit 0,SN),(.ret,SO)],(Unit⊕Int),fun k d=>S8 (wq k k) d,fun b x _ K=>match x with|.inl x=>K (.exit 0) (zL b SN ((),()))|.inr x=>K .ret (zL b SO (((x,()),()),()))⟩
def S9:qA:=⟨[],[(2,Iv)],[],false⟩
theorem ySf:zY prog 1000 0 19 (zV (zW f112) 0) Iv:=lp (A:=S9) Iv (fun d=>match d with|.inl d=>.inl ()|.inr d=>.inr d.1.1.1) S8 wq se (e1 S4) loops0
def yHa:=zJ 112 [.c (.dat false .i),.fn 111 [[.fn 53]]] (.c .i) (fun k d=>G1 k d.1) (fun x=>(x,())) (fun d=>d.1)
theorem yEc:zD prog yHa:=fA f112 S9 (e1 S4) (qD ySf)
def yMf:=zJ 55 [.c (.dat false .i),.fn 111 [[.fn 53]]] (.c .bool) (fun k d=>Bc k d.1) (fun x=>(x,())) (fun d=>d.1)
theorem yB3:zD prog yMf:=fA f55 ⟨[],[],[],false⟩ (e1 yEc) loops0
def yMt:=zJ 52 [.c (.dat false .i),.c .i,.c (.fn 53)] (.c .bool) (fun k d=>Bd k d.1 d.2.1) (fun x=>(x,())) (fun d=>d.1)
theorem Ta:zD prog yMt:=fA f52 ⟨[],[],[],false⟩ (e1 yB3) loops0
def Tb:zF:=sp [sI 1,(2,.c (.lit (.fn 53 []))),(13,.c (.dat false (.sl .i))),sI 14,sI 15] []
def Te (f:Ir)(d:Tb.den):=f d.1.1.1 d.1.2.2.1.1 d.1.2.2.2.1.1 d.1.2.2.2.2.1.1
def Ix:qB:=⟨[Tb],[(.exit 0,SN),(.ret,S1)],(Unit⊕Bool),fun k d=>Te (wx k k) d,fun b x _ K=>match x with|.inl x=>K (.exit 0) (zL b SN ((),()))|.inr x=>K .ret (zL b S1 (((x,()),()),()))⟩
def Tf:qA:=⟨[],[(4,Ix)],[],false⟩
theorem yPf:zY prog 1000 0 25 (zV (zW f50) 0) Ix:=lp (A:=Tf) Ix (fun d=>match d with|.inl d=>.inl ()|.inr d=>.inr d.1.1.1) Te wx sg (e1 Ta) loops0
def ySh:=zJ 50 [.c (.dat false (.sl .i)),.c .i,.c (.fn 53)] (.c .bool) (fun k d=>Bf k d.1 d.2.1) (fun x=>(x,())) (fun d=>d.1)
theorem yNu:zD prog ySh:=fA f50 Tf (e1 Ta) (qD yPf)
def Tg:zF:=sp [(0,.c (.dat false (.sl .i))),sI 3,(7,.c (.dat false (.sl .i))),sI 8,sI 9,(14,.c (.dat false .i)),sI 15,sI 16] []
def Th:zF:=sp [(0,.c (.dat false (.sl .i))),(7,.c (.dat false (.sl .i))),sI 8,sI 9] []
def Tj (f:Iy)(d:Tg.den):=f d.1.1.1 d.1.2.1.1 d.1.2.2.1.1 d.1.2.2.2.1.1 d.1.2.2.2.2.1.1 d.1.2.2.2.2.2.1.1 d.1.2.2.2.2.2.2.1.1 d.1.2.2.2.2.2.2.2.1.1
def Iz:qB:=⟨[Tg],[(.exit 2,Th),(.ret,SF)],IA,fun k d=>Tj (si k k) d,fun b x _ K=>match x with|.inl x=>K (.exit 2) (zL b Th (((x.1,()),(x.2.1,()),(x.2.2.1,()),(x.2.2.2,()),()),()))|.inr x=>K .ret (zL b SF (((x,()),()),()))⟩
def Tn (f:IB)(d:Th.den):=f d.1.1.1 d.1.2.1.1 d.1.2.2.1.1 d.1.2.2.2.1.1
def IC:qB:=⟨[Th],[(.exit 0,SN),(.ret,SF)],(Unit⊕Bool),fun k d=>Tn (wy k k) d,fun b x _ K=>match x with|.inl x=>K (.exit 0) (zL b SN ((),()))|.inr x=>K .ret (zL b SF (((x,()),()),()))⟩
def ID:qA:=⟨[],[(5,Iz),(2,IC)],[],false⟩
theorem yQm:zY prog 1000 0 33 (zV (zV (zW f54) 0) 0) Iz:=lp (A:=ID) Iz (fun d=>match d with|.inl d=>.inl (d.1.1.1,d.1.2.1.1,d.1.2.2.1.1,d.1.2.2.2.1.1)|.inr d=>.inr d.1.1.1) Tj si sj e0 loops0
theorem yFr:zY prog 1000 0 33 (zV (zW f54) 0) IC:=lp (A:=ID) IC (fun d=>match d with|.inl d=>.inl ()|.inr d=>.inr d.1.1.1) Tn wy sk e0 (qD yQm)
def yK3:=zJ 54 [.c (.dat false (.sl .i))] (.c .bool) (fun k d=>Bg k d.1) (fun x=>(x,())) (fun d=>d.1)
theorem yTe:zD prog yK3:=fA f54 ID e0 (qD yFr)
def yR6:=zJ 17 [.agg jD] (.c .bool) (fun k d=>(vQ (sm k) d)) (fun x=>(x,())) (fun d=>d.1)
theorem Ck:zD prog yR6:=fA f17 ⟨[],[],[],false⟩ (e5 F7q yF2 Iq yNu yTe) loops0
def yFi:=zJ 56 [.c .i] (.c .bool) (fun k d=>H9 k d.1) (fun x=>(x,())) (fun d=>d.1)
theorem To:zD prog yFi:=fA f56 n0 (e1 wK) loops0
def Tp:zF:=sp [(0,.c (.dat false .i)),(1,.c (.lit (.fn 56 []))),sI 7,sI 8] []
def Tt (f:Io)(d:Tp.den):=f d.1.1.1 d.1.2.2.1.1 d.1.2.2.2.1.1
def IF:qB:=⟨[Tp],[(.exit 0,SN),(.ret,SO)],(Unit⊕Int),fun k d=>Tt (pn k k) d,fun b x _ K=>match x with|.inl x=>K (.exit 0) (zL b SN ((),()))|.inr x=>K .ret (zL b SO (((x,()),()),()))⟩
def Tu:qA:=⟨[],[(2,IF)],[],false⟩
theorem yP9:zY prog 1000 0 19 (zV (zW f112) 0) IF:=lp (A:=Tu) IF (fun d=>match d with|.inl d=>.inl ()|.inr d=>.inr d.1.1.1) Tt pn tp (e1 To) loops0
def yH4:=zJ 112 [.c (.dat false .i),.c (.fn 56)] (.c .i) (fun k d=>Ia k d.1) (fun x=>(x,())) (fun d=>d.1)
theorem yR8:zD prog yH4:=fA f112 Tu (e1 To) (qD yP9)
def yMm:=zJ 55 [.c (.dat false .i),.c (.fn 56)] (.c .bool) (fun k d=>xN k d.1) (fun x=>(x,())) (fun d=>d.1)
theorem Tv:zD prog yMm:=fA f55 ⟨[],[],[],false⟩ (e1 yR8) loops0
def yAv:=zJ 158 [.c .i] (.c .bool) (fun k d=>xj k d.1) (fun x=>(x,())) (fun d=>d.1)
theorem yPi:zD prog yAv:=fA f158 n0 e0 loops0
def yA9:=zJ 159 [.c (.int .u64),.c (.int .u64)] (.tup [(false,[.int .u64]),(false,[.int .u64])]) (fun k d=>oQ k d.1 d.2.1) (fun x=>(x.1,x.2,())) (fun d=>(d.1,d.2.1))
theorem yKe:zD prog yA9:=fA f159 n0 e0 loops0
def yOp:=zJ 221 [.c (.int .u64)] (.c .i) (fun k d=>Tw k d.1) (fun x=>(x,())) (fun d=>d.1)
theorem yBm:zD prog yOp:=fA f221 n0 e0 loops0
def yLc:=zJ 193 [.c (.int .u64)] (.c .i) (fun k d=>H5 k d.1) (fun x=>(x,())) (fun d=>d.1)
theorem IG:zD prog yLc:=fA f193 n0 (e1 yBm) loops0
def Tx:zF:=sp [(2,.c (.int .u64)),(8,.c (.int .u64)),(9,.c (.int .u64)),(10,.c (.int .u64)),(11,.c (.int .u64)),(13,.c (.int .u64)),(14,.c (.int .u64)),(15,.c (.int .u64)),(16,.c (.int .u64))] []
def Tz:zF:=sp [(2,.c (.int .u64)),(8,.c (.int .u64)),(9,.c (.int .u64)),(10,.c (.int .u64)),(11,.c (.int .u64)),(13,.c (.int .u64)),(14,.c (.int .u64)),(15,.c (.int .u64))] []
def TA (f:IH)(d:Tx.den):=f d.1.1.1 d.1.2.1.1 d.1.2.2.1.1 d.1.2.2.2.1.1 d.1.2.2.2.2.1.1 d.1.2.2.2.2.2.1.1 d.1.2.2.2.2.2.2.1.1 d.1.2.2.2.2.2.2.2.1.1 d.1.2.2.2.2.2.2.2.2.1.1
def Cl:qB:=⟨[Tx],[(.exit 0,Tz)],yP,fun k d=>TA (mP k k) d,fun b x _ K=>K (.exit 0) (zL b Tz (((x.1,()),(x.2.1,()),(x.2.2.1,()),(x.2.2.2.1,()),(x.2.2.2.2.1,()),(x.2.2.2.2.2.1,()),(x.2.2.2.2.2.2.1,()),(x.2.2.2.2.2.2.2,()),()),()))⟩
def TB:zF:=sp [(2,.c (.int .u64)),(8,.c (.int .u64)),(9,.c (.int .u64)),(10,.c (.int .u64)),(14,.c (.int .u64)),(15,.c (.int .u64)),(16,.c (.int .u64)),(17,.c (.int .u64)),(18,.c (.int .u64))] []
def TC:zF:=sp [(2,.c (.int .u64)),(8,.c (.int .u64)),(14,.c (.int .u64)),(15,.c (.int .u64)),(17,.c (.int .u64)),(18,.c (.int .u64))] []
def TD (f:II)(d:TB.den):=f d.1.1.1 d.1.2.1.1 d.1.2.2.1.1 d.1.2.2.2.1.1 d.1.2.2.2.2.1.1 d.1.2.2.2.2.2.1.1 d.1.2.2.2.2.2.2.1.1 d.1.2.2.2.2.2.2.2.1.1 d.1.2.2.2.2.2.2.2.2.1.1
def Cm:qB:=⟨[TB],[(.exit 2,TC)],xI,fun k d=>TD (mQ k k) d,fun b x _ K=>K (.exit 2) (zL b TC (((x.1,()),(x.2.1,()),(x.2.2.1,()),(x.2.2.2.1,()),(x.2.2.2.2.1,()),(x.2.2.2.2.2,()),()),()))⟩
def IJ:qA:=⟨[],[(17,Cl),(24,Cm)],[],true⟩
theorem yP1:zY prog 1000 0 135 (zV (zW f160) 0) Cl:=lp (A:=IJ) Cl (fun d=>(d.1.1.1,d.1.2.1.1,d.1.2.2.1.1,d.1.2.2.2.1.1,d.1.2.2.2.2.1.1,d.1.2.2.2.2.2.1.1,d.1.2.2.2.2.2.2.1.1,d.1.2.2.2.2.2.2.2.1.1)) TA mP xF (e1 IG) loops0
theorem yCf:zY prog 1000 0 135 (zV (zW f160) 1) Cm:=lp (A:=IJ) Cm (fun d=>(d.1.1.1,d.1.2.1.1,d.1.2.2.1.1,d.1.2.2.2.1.1,d.1.2.2.2.2.1.1,d.1.2.2.2.2.2.1.1)) TD mQ xG (e1 IG) loops0
def yD1:=zJ 160 [.c (.int .u64),.c (.int .u64),.c (.int .u64)] (.tup [(false,[.int .u64]),(false,[.int .u64])]) (fun k d=>sK k d.1 d.2.1 d.2.2.1) (fun x=>(x.1,x.2,())) (fun d=>(d.1,d.2.1))
theorem yM5:zD prog yD1:=fA f160 IJ (e1 IG) (lY (n:=2) (by kernel_rfl) fun i hi=>match i,hi with|0,_=>⟨Cl,by kernel_rfl,yP1⟩|1,_=>⟨Cm,by kernel_rfl,yCf⟩|i+2,hi=>absurd hi (by omega))
def yDb:=(65,AY)
theorem IK:zD prog yDb:=yFs (fn:=f65)
def yKd:=zJ 113 [.c .i,.c .i,.c .i] (.tup [(false,vM),(false,[.bool])]) (fun k d=>sL k d.1 d.2.1 d.2.2.1) (fun x=>(x.1,x.2,())) (fun d=>(d.1,d.2.1))
theorem TE:zD prog yKd:=fA f113 n0 (e4 yPi yKe yM5 IK) loops0
def TF:zF:=sp [sI 4,(5,.c (.int .u64)),(9,.c (.dat false .i)),sI 10,sI 11] []
def TG:zF:=sp [sI 4,(5,.c (.int .u64))] []
def TH (f:IL)(d:TF.den):=f d.1.1.1 d.1.2.1.1 d.1.2.2.1.1 d.1.2.2.2.1.1 d.1.2.2.2.2.1.1
def IM:qB:=⟨[TF],[(.exit 0,TG)],vA,fun k d=>TH (sG k k) d,fun b x _ K=>K (.exit 0) (zL b TG (((x.1,()),(x.2,()),()),()))⟩
def TI:qA:=⟨[],[(4,IM)],[],false⟩
theorem yJr:zY prog 1000 0 37 (zV (zW f20) 0) IM:=lp (A:=TI) IM (fun d=>(d.1.1.1,d.1.2.1.1)) TH sG sH (e1 IK) loops0
def yTd:=zJ 20 [.c (.dat false .i)] (.tup [(false,vM),(false,[.bool])]) (fun k d=>sF k d.1) (fun x=>(x.1,x.2,())) (fun d=>(d.1,d.2.1))
theorem Cn:zD prog yTd:=fA f20 TI (e1 IK) (qD yJr)
def TJ:zF:=⟨[(1,.c (.dat false .i)),(2,.c (.dat false .i)),sO 8 0,(25,.c (.dat false wZ)),sI 26,sI 27],[oA .i],[(8,none,.i,false)]⟩
def TK:zF:=sp [sO 8 0] [oA .i]
def TL:zF:=sp [sI 6,(7,.c .bool)] []
def TM (f:IN)(d:TJ.den):=f d.1.1.1 d.1.2.1.1 d.1.2.2.2.1.1 d.1.2.2.2.2.1.1 d.1.2.2.2.2.2.1.1 d.2.1
def IP:qB:=⟨[TJ],[(.exit 0,TK),(.ret,TL)],(AC⊕vJ),fun k d=>TM (iq k k) d,fun b x _ K=>match x with|.inl x=>K (.exit 0) (zL b TK (((),()),(x,())))|.inr x=>K .ret (zL b TL (((x.1,()),(x.2,()),()),()))⟩
def TN:qA:=⟨[],[(5,IP)],[],true⟩
theorem yMn:zY prog 1000 0 57 (zV (zW f57) 0) IP:=lp (A:=TN) IP (fun d=>match d with|.inl d=>.inl d.2.1|.inr d=>.inr (d.1.1.1,d.1.2.1.1)) TM iq jt (e2 TE Cn) loops0
def yE9:=zJ 57 [.c (.dat false wZ),.c (.dat false .i),.c (.dat false .i)] (.tup [(false,vM),(false,[.bool])]) (fun k d=>gp k d.1 d.2.1 d.2.2.1) (fun x=>(x.1,x.2,())) (fun d=>(d.1,d.2.1))
theorem mT:zD prog yE9:=fA f57 TN (e2 TE Cn) (qD yMn)
def yK7:=zJ 58 [.c .i] (.c .bool) (fun k d=>Ib k d.1) (fun x=>(x,())) (fun d=>d.1)
theorem TO:zD prog yK7:=fA f58 n0 e0 loops0
def TP:zF:=sp [(0,.c (.dat false .i)),(1,.c (.lit (.fn 58 []))),sI 7,sI 8] []
def TS (f:Io)(d:TP.den):=f d.1.1.1 d.1.2.2.1.1 d.1.2.2.2.1.1
def IS:qB:=⟨[TP],[(.exit 0,SN),(.ret,SO)],(Unit⊕Int),fun k d=>TS (po k k) d,fun b x _ K=>match x with|.inl x=>K (.exit 0) (zL b SN ((),()))|.inr x=>K .ret (zL b SO (((x,()),()),()))⟩
def TT:qA:=⟨[],[(2,IS)],[],false⟩
theorem yPy:zY prog 1000 0 19 (zV (zW f112) 0) IS:=lp (A:=TT) IS (fun d=>match d with|.inl d=>.inl ()|.inr d=>.inr d.1.1.1) TS po tq (e1 TO) loops0
def yGx:=zJ 112 [.c (.dat false .i),.c (.fn 58)] (.c .i) (fun k d=>Ic k d.1) (fun x=>(x,())) (fun d=>d.1)
theorem yKl:zD prog yGx:=fA f112 TT (e1 TO) (qD yPy)
def yBo:=zJ 55 [.c (.dat false .i),.c (.fn 58)] (.c .bool) (fun k d=>Cd k d.1) (fun x=>(x,())) (fun d=>d.1)
theorem TU:zD prog yBo:=fA f55 ⟨[],[],[],false⟩ (e1 yKl) loops0
def TV:zF:=sp [sP 2 0,sP 3 1,(28,.c (.dat false (.sl .i))),sI 29,sI 30] [oB jH,oB gx]
def TX:zF:=sp [(4,.c .bool)] []
def TY (f:IT)(d:TV.den):=f d.1.2.2.1.1 d.1.2.2.2.1.1 d.1.2.2.2.2.1.1 (yE d.2.1) (vD d.2.2.1)
def IU:qB:=⟨[TV],[(.exit 0,SN),(.ret,TX)],(Unit⊕Bool),fun k d=>TY (mR k k) d,fun b x _ K=>match x with|.inl x=>K (.exit 0) (zL b SN ((),()))|.inr x=>K .ret (zL b TX (((x,()),()),()))⟩
def TZ:qA:=⟨[],[(6,IU)],[],true⟩
theorem ySq:zY prog 1000 0 66 (zV (zW f18) 0) IU:=lp (A:=TZ) IU (fun d=>match d with|.inl d=>.inl ()|.inr d=>.inr d.1.1.1) TY mR tt (e3 Tv mT TU) loops0
def yO4:=zJ 18 [.agg jX,.agg fL] (.c .bool) (fun k d=>xO k (yE d) (jx d)) (fun x=>(x,())) (fun d=>d.1)
theorem T0:zD prog yO4:=fA f18 TZ (e3 Tv mT TU) (qD ySq)
def yOt:=zJ 94 [.agg yR,.ptr [.i]] (.c .bool) (fun k d=>(jy (Ht k) d)) (fun x=>(x,())) (fun d=>d.1)
theorem T1:zD prog yOt:=fA f94 ⟨[],[],[],false⟩ e0 loops0
def T2:zF:=sp [(0,.c (.dat false zH)),(1,.c (.lit (.fn 94 [1001000]))),sI 7,sI 8] [.robox [.i]]
def T5 (f:IV)(d:T2.den):=f d.1.1.1 d.1.2.2.1.1 d.1.2.2.2.1.1 d.2.1.1
def IW:qB:=⟨[T2],[(.exit 0,SN),(.ret,SO)],(Unit⊕Int),fun k d=>T5 (sB k k) d,fun b x _ K=>match x with|.inl x=>K (.exit 0) (zL b SN ((),()))|.inr x=>K .ret (zL b SO (((x,()),()),()))⟩
def T6:qA:=⟨[],[(2,IW)],[],false⟩
theorem ySo:zY prog 1000 0 19 (zV (zW f93) 0) IW:=lp (A:=T6) IW (fun d=>match d with|.inl d=>.inl ()|.inr d=>.inr d.1.1.1) T5 sB sC (e1 T1) loops0
def yDc:=zJ 93 [.c (.dat false zH),.fn 94 [[.i]]] (.c .i) (fun k d=>Hu k d.1 d.2.1) (fun x=>(x,())) (fun d=>d.1)
theorem yIo:zD prog yDc:=fA f93 T6 (e1 T1) (qD ySo)
def yN2:=zJ 36 [.c (.dat false zH),.c .i] (.c .i) (fun k d=>jo k d.1 d.2.1) (fun x=>(x,())) (fun d=>d.1)
theorem mU:zD prog yN2:=fA f36 ⟨[],[],[],false⟩ (e1 yIo) loops0
def yHq:=zJ 195 [.c .i] (.c .bool) (fun k d=>Bz k d.1) (fun x=>(x,())) (fun d=>d.1)
theorem yM4:zD prog yHq:=fA f195 ⟨[],[],[],false⟩ e0 loops0
def yId:=zJ 164 [.c .i,.c .i] (.c .i) (fun k d=>xg k d.1 d.2.1) (fun x=>(x,())) (fun d=>d.1)
theorem yRd:zD prog yId:=fA f164 ⟨[],[],[],false⟩ (e1 yM4) loops0
def T7:zF:=sp [sI 3,(6,.c (.dat false .i)),sI 7,sI 8] []
def T8:zF:=sp [sI 3] []
def T9:zF:=sp [sI 2] []
def Ua (f:IX)(d:T7.den):=f d.1.1.1 d.1.2.1.1 d.1.2.2.1.1 d.1.2.2.2.1.1
def IY:qB:=⟨[T7],[(.exit 0,T8),(.ret,T9)],(Int⊕Int),fun k d=>Ua (xf k k) d,fun b x _ K=>match x with|.inl x=>K (.exit 0) (zL b T8 (((x,()),()),()))|.inr x=>K .ret (zL b T9 (((x,()),()),()))⟩
def Ub:qA:=⟨[],[(3,IY)],[],false⟩
theorem yC8:zY prog 1000 0 18 (zV (zW f163) 0) IY:=lp (A:=Ub) IY (fun d=>match d with|.inl d=>.inl d.1.1.1|.inr d=>.inr d.1.1.1) Ua xf Uc e0 loops0
def yJt:=zJ 163 [.c (.dat false .i)] (.c .i) (fun k d=>By k d.1) (fun x=>(x,())) (fun d=>d.1)
theorem yDe:zD prog yJt:=fA f163 Ub e0 (qD yC8)
def yS9:=zJ 116 [.agg yR,.agg yR] (.c .i) (fun k d=>(tx (sD k) d)) (fun x=>(x,())) (fun d=>d.1)
theorem tz:zD prog yS9:=fA f116 ⟨[],[],[],false⟩ (e2 yRd yDe) loops0
def Ud:zF:=sp [(0,.c (.dat false zH)),(1,.c (.lit (.fn 116 []))),sI 5] []
def Ug (f:IZ)(d:Ud.den):=f d.1.1.1 d.1.2.2.1.1
def I1:qB:=⟨[Ud],[(.exit 0,SN),(.ret,TX)],(Unit⊕Bool),fun k d=>Ug (ph k k) d,fun b x _ K=>match x with|.inl x=>K (.exit 0) (zL b SN ((),()))|.inr x=>K .ret (zL b TX (((x,()),()),()))⟩
def Uh:qA:=⟨[],[(2,I1)],[],true⟩
theorem yGl:zY prog 1000 0 25 (zV (zW f115) 0) I1:=lp (A:=Uh) I1 (fun d=>match d with|.inl d=>.inl ()|.inr d=>.inr d.1.1.1) Ug ph Cb (e1 tz) loops0
def yKa:=zJ 115 [.c (.dat false zH),.c (.fn 116)] (.c .bool) (fun k d=>Ca k d.1) (fun x=>(x,())) (fun d=>d.1)
theorem Ui:zD prog yKa:=fA f115 Uh (e1 tz) (qD yGl)
def Uj:zF:=sp [(0,.c (.dat false zH)),(5,.c (.dat false zH)),sI 6,sI 7] []
def Uk:zF:=sp [(0,.c (.dat false zH))] []
def Um (f:I2)(d:Uj.den):=f d.1.1.1 d.1.2.1.1 d.1.2.2.1.1 d.1.2.2.2.1.1
def I3:qB:=⟨[Uj],[(.exit 0,Uk),(.ret,SF)],I4,fun k d=>Um (pg k k) d,fun b x _ K=>match x with|.inl x=>K (.exit 0) (zL b Uk (((x,()),()),()))|.inr x=>K .ret (zL b SF (((x,()),()),()))⟩
def Un:qA:=⟨[],[(2,I3)],[],false⟩
theorem yNq:zY prog 1000 0 26 (zV (zW f62) 0) I3:=lp (A:=Un) I3 (fun d=>match d with|.inl d=>.inl d.1.1.1|.inr d=>.inr d.1.1.1) Um pg tl (e2 mU Ui) loops0
def yKz:=zJ 62 [.c (.dat false zH)] (.c .bool) (fun k d=>xJ k d.1) (fun x=>(x,())) (fun d=>d.1)
theorem yMv:zD prog yKz:=fA f62 Un (e2 mU Ui) (qD yNq)
def Uo:zF:=sp [(0,.c (.dat false .i)),sI 3,(6,.c (.dat false .i)),sI 7,sI 8] []
def Uq:zF:=sp [(0,.c (.dat false .i))] []
def Us (f:I5)(d:Uo.den):=f d.1.1.1 d.1.2.1.1 d.1.2.2.1.1 d.1.2.2.2.1.1 d.1.2.2.2.2.1.1
def I6:qB:=⟨[Uo],[(.exit 0,Uq),(.ret,SF)],(AC⊕Bool),fun k d=>Us (lg k k) d,fun b x _ K=>match x with|.inl x=>K (.exit 0) (zL b Uq (((x,()),()),()))|.inr x=>K .ret (zL b SF (((x,()),()),()))⟩
def Ut:qA:=⟨[],[(3,I6)],[],true⟩
theorem yS0:zY prog 1000 0 20 (zV (zW f63) 0) I6:=lp (A:=Ut) I6 (fun d=>match d with|.inl d=>.inl d.1.1.1|.inr d=>.inr d.1.1.1) Us lg tm e0 loops0
def yIx:=zJ 63 [.c (.dat false .i)] (.c .bool) (fun k d=>xK k d.1) (fun x=>(x,())) (fun d=>d.1)
theorem yNw:zD prog yIx:=fA f63 Ut e0 (qD yS0)
def yOb:=zJ 60 [.agg jD,.agg yR] (.c .bool) (fun k d=>(jz (so k) d)) (fun x=>(x,())) (fun d=>d.1)
theorem I7:zD prog yOb:=fA f60 ⟨[],[],[],false⟩ e0 loops0
def yMg:=zJ 194 [.c .i] (.c .bool) (fun k d=>BB k d.1) (fun x=>(x,())) (fun d=>d.1)
theorem yEr:zD prog yMg:=fA f194 n0 e0 loops0
def yN8:=zJ 161 [.c .i,.c .i] (.c .bool) (fun k d=>BA k d.1 d.2.1) (fun x=>(x,())) (fun d=>d.1)
theorem Uu:zD prog yN8:=fA f161 n0 (e1 yEr) loops0
def yKw:=zJ 162 [.c .i] (.c .bool) (fun k d=>BD k d.1) (fun x=>(x,())) (fun d=>d.1)
theorem Uv:zD prog yKw:=fA f162 n0 e0 loops0
def Uw:zF:=sp [(0,.c (.dat false .i)),sI 1,sI 6,sI 7,sI 8] []
def Ux:zF:=sp [(0,.c (.dat false .i)),sI 1,sI 6,sI 7] []
def Uy (f:I8)(d:Uw.den):=f d.1.1.1 d.1.2.1.1 d.1.2.2.1.1 d.1.2.2.2.1.1 d.1.2.2.2.2.1.1
def I9:qB:=⟨[Uw],[(.exit 0,Ux)],Ja,fun k d=>Uy (xh k k) d,fun b x _ K=>K (.exit 0) (zL b Ux (((x.1,()),(x.2.1,()),(x.2.2.1,()),(x.2.2.2,()),()),()))⟩
def Uz:qA:=⟨[],[(3,I9)],[],true⟩
theorem yJl:zY prog 1000 0 54 (zV (zW f114) 0) I9:=lp (A:=Uz) I9 (fun d=>(d.1.1.1,d.1.2.1.1,d.1.2.2.1.1,d.1.2.2.2.1.1)) Uy xh BC (e2 Uu Uv) loops0
def yFm:=zJ 114 [.c (.dat false .i),.c .i] (.tup [(false,vM),(false,[.bool])]) (fun k d=>sE k d.1 d.2.1) (fun x=>(x.1,x.2,())) (fun d=>(d.1,d.2.1))
theorem UA:zD prog yFm:=fA f114 Uz (e2 Uu Uv) (qD yJl)
def yHj:=zJ 61 [.c (.dat false .i),.c .i] (.c .bool) (fun k d=>BE k d.1 d.2.1) (fun x=>(x,())) (fun d=>d.1)
theorem yIr:zD prog yHj:=fA f61 n0 (e1 UA) loops0
def yK8:=zJ 59 [.agg yR,.ptr fL] (.c .bool) (fun k d=>Cc k (jF d) (yNy d)) (fun x=>(x,())) (fun d=>d.1)
theorem UB:zD prog yK8:=fA f59 n0 (e3 I7 wK yIr) loops0
def UC:zF:=sp [(0,.c (.dat false zH)),(1,.c (.lit (.fn 59 [1001000]))),sI 7,sI 8] [.robox gx]
def UF (f:Jb)(d:UC.den):=(jz (f d.1.1.1 d.1.2.2.1.1 d.1.2.2.2.1.1) d.2.1)
def Jc:qB:=⟨[UC],[(.exit 0,SN),(.ret,SO)],(Unit⊕Int),fun k d=>UF (pj k k) d,fun b x _ K=>match x with|.inl x=>K (.exit 0) (zL b SN ((),()))|.inr x=>K .ret (zL b SO (((x,()),()),()))⟩
def UG:qA:=⟨[],[(2,Jc)],[],false⟩
theorem yEz:zY prog 1000 0 19 (zV (zW f93) 0) Jc:=lp (A:=UG) Jc (fun d=>match d with|.inl d=>.inl ()|.inr d=>.inr d.1.1.1) UF pj tn (e1 UB) loops0
def yBx:=zJ 93 [.c (.dat false zH),.fn 59 [fL]] (.c .i) (fun k d=>(Co (H8 k) d)) (fun x=>(x,())) (fun d=>d.1)
theorem yBj:zD prog yBx:=fA f93 UG (e1 UB) (qD yEz)
def yJ4:=zJ 64 [.c (.dat false zH),.fn 59 [fL]] (.c .bool) (fun k d=>(Co (xM k) d)) (fun x=>(x,())) (fun d=>d.1)
theorem yC3:zD prog yJ4:=fA f64 ⟨[],[],[],false⟩ (e1 yBj) loops0
def yNz:=zJ 19 [.agg fL] (.c .bool) (fun k d=>xL k (vD d)) (fun x=>(x,())) (fun d=>d.1)
theorem UH:zD prog yNz:=fA f19 n0 (e3 yMv yNw yC3) loops0
def yKq:=zJ 21 [.agg jX,.c .i] (.c .bool) (fun k d=>(j0 (xQ k) d)) (fun x=>(x,())) (fun d=>d.1)
theorem Cp:zD prog yKq:=fA f21 ⟨[],[],[],false⟩ e0 loops0
def UI:zF:=⟨[sP 2 0,sP 3 1,sO 5 2,(44,.c (.dat false qY)),sI 45,sI 46],[oB jH,oB gx,oA .i],[(5,none,.i,false)]⟩
def UJ:zF:=sp [sP 2 0,sP 3 1,sO 5 2] [oB jH,oB gx,oA .i]
def UK (f:Jd)(d:UI.den):=f d.1.2.2.2.1.1 d.1.2.2.2.2.1.1 d.1.2.2.2.2.2.1.1 (yE d.2.1) (vD d.2.2.1) d.2.2.2.1
def Je:qB:=⟨[UI],[(.exit 0,UJ)],Jf,fun k d=>UK (tu k k) d,fun b x _ K=>K (.exit 0) (zL b UJ (((),(),(),()),((gw x.1 ()),(iz x.2.1 ()),x.2.2,())))⟩
def UL:qA:=⟨[],[(5,Je)],[],true⟩
theorem yBc:zY prog 1000 0 92 (zV (zW f7) 0) Je:=lp (A:=UL) Je (fun d=>((yE d.2.1),(vD d.2.2.1),d.2.2.2.1)) UK tu tv (e6 wK Ck T0 UH Cn Cp) loops0
def UM:=zJ 7 [.agg jX,.agg fL] (.c .bool) (fun k d=>xP k (yE d) (jx d)) (fun x=>(x,())) (fun d=>d.1)
theorem yFz:zD prog UM:=fA f7 UL (e6 wK Ck T0 UH Cn Cp) (qD yBc)
def UN:zF:=sp [(0,.c (.dat false (.sl .i))),sI 1,sI 5] []
def UQ (f:Jg)(d:UN.den):=f d.1.1.1 d.1.2.1.1 d.1.2.2.1.1
def Jh:qB:=⟨[UN],[(.exit 0,SN),(.ret,TX)],(Unit⊕Bool),fun k d=>UQ (wk k k) d,fun b x _ K=>match x with|.inl x=>K (.exit 0) (zL b SN ((),()))|.inr x=>K .ret (zL b TX (((x,()),()),()))⟩
def UR:qA:=⟨[],[(4,Jh)],[],false⟩
theorem yE8:zY prog 1000 0 22 (zV (zW f66) 0) Jh:=lp (A:=UR) Jh (fun d=>match d with|.inl d=>.inl ()|.inr d=>.inr d.1.1.1) UQ wk rT e0 loops0
def yJ7:=zJ 66 [.c (.dat false (.sl .i)),.c .i] (.c .bool) (fun k d=>wj k d.1 d.2.1) (fun x=>(x,())) (fun d=>d.1)
theorem Ji:zD prog yJ7:=fA f66 UR e0 (qD yE8)
def yJ6:=zJ 67 [.agg iy] (.c .bool) (fun k d=>A7 k d.1 d.2.1 d.2.2.1) (fun x=>(x,())) (fun d=>d.1)
theorem Jj:zD prog yJ6:=fA f67 ⟨[],[],[],false⟩ e0 loops0
def yJz:=zJ 68 [.c .i] (.c .bool) (fun k d=>wi k d.1) (fun x=>(x,())) (fun d=>d.1)
theorem Jk:zD prog yJz:=fA f68 ⟨[],[],[],false⟩ e0 loops0
def US:zF:=sp [sP 1 0,sI 3,sI 4,sI 5] [oB fh]
def UT:zF:=sp [sP 1 0,sI 3,sI 4] [oB fh]
def UW (f:Jl)(d:US.den):=(vQ (f d.1.2.1.1 d.1.2.2.1.1 d.1.2.2.2.1.1) d.2.1)
def Jm:qB:=⟨[US],[(.exit 2,UT),(.ret,SF)],Jn,fun k d=>UW (rU k k) d,fun b x _ K=>match x with|.inl x=>K (.exit 2) (zL b UT (((),(x.1,()),(x.2.1,()),()),((UX x ()),())))|.inr x=>K .ret (zL b SF (((x,()),()),()))⟩
def U1 (f:Jo)(d:UT.den):=(vQ (f d.1.2.1.1 d.1.2.2.1.1) d.2.1)
def Jp:qB:=⟨[UT],[(.exit 0,SN),(.ret,SF)],(Unit⊕Bool),fun k d=>U1 (rW k k) d,fun b x _ K=>match x with|.inl x=>K (.exit 0) (zL b SN ((),()))|.inr x=>K .ret (zL b SF (((x,()),()),()))⟩
def Jq:qA:=⟨[],[(10,Jm),(5,Jp)],[],false⟩
theorem yRr:zY prog 1000 0 114 (zV (zV (zW f22) 0) 0) Jm:=lp (A:=Jq) Jm (fun d=>match d with|.inl d=>.inl (d.1.2.1.1,d.1.2.2.1.1,(tA d.2.1))|.inr d=>.inr d.1.1.1) UW rU rV (e3 Ji Jj Jk) loops0
theorem yHi:zY prog 1000 0 114 (zV (zW f22) 0) Jp:=lp (A:=Jq) Jp (fun d=>match d with|.inl d=>.inl ()|.inr d=>.inr d.1.1.1) U1 rW rY (e3 Ji Jj Jk) (qD yRr)
def yP7:=zJ 22 [.agg jD] (.c .bool) (fun k d=>(vQ (rZ k) d)) (fun x=>(x,())) (fun d=>d.1)
theorem U2:zD prog yP7:=fA f22 Jq (e3 Ji Jj Jk) (qD yHi)
def yK4:=zJ 196 [.c .i] (.c (.own .i)) (fun k d=>BU k d.1) (fun x=>(x,())) (fun d=>d.1)
theorem Jr:zD prog yK4:=fA f196 n0 e0 loops0
def U3:zF:=sp [sO 0 0,sI 3] [oA .i]
def U4:zF:=sp [sO 0 0] [oA .i]
def U5 (f:Int→AC→Option AC)(d:U3.den):=f d.1.2.1.1 d.2.1
def Js:qB:=⟨[U3],[(.exit 0,U4)],AC,fun k d=>U5 (Jt k k) d,fun b x _ K=>K (.exit 0) (zL b U4 (((),()),(x,())))⟩
def U6:qA:=⟨[],[(2,Js)],[],true⟩
theorem yLw:zY prog 1000 0 35 (zV (zW f197) 0) Js:=lp (A:=U6) Js (fun d=>d.2.1) U5 Jt U7 e0 loops0
def yQd:=vL 197 [.c (.own .i)] (.c (.own .i)) [] 0 (fun k d=>sS k d.1) (fun x=>(x,())) (fun d=>d.1)
theorem xU:zD prog yQd:=fX f197 U6 0 e0 (qD yLw)
def U8:zF:=sp [sI 1,sO 5 0,sO 6 1,sI 7,sI 8] [oA .i,oA .i]
def U9:zF:=sp [sI 1,sO 5 0,sO 6 1,sI 7] [oA .i,oA .i]
def Va (f:Ju)(d:U8.den):=f d.1.1.1 d.1.2.2.2.1.1 d.1.2.2.2.2.1.1 d.2.1 d.2.2.1
def Jv:qB:=⟨[U8],[(.exit 2,U9)],Jw,fun k d=>Va (Jx k k) d,fun b x _ K=>K (.exit 2) (zL b U9 (((x.1,()),(),(),(x.2.1,()),()),(x.2.2.1,x.2.2.2,())))⟩
def Vc:zF:=sp [sO 6 0] [oA .i]
def Vd (f:Jy)(d:U9.den):=f d.1.1.1 d.1.2.2.2.1.1 d.2.1 d.2.2.1
def Jz:qB:=⟨[U9],[(.exit 0,Vc)],AC,fun k d=>Vd (BR k k) d,fun b x _ K=>K (.exit 0) (zL b Vc (((),()),(x,())))⟩
def JA:qA:=⟨[],[(7,Jv),(4,Jz)],[],true⟩
theorem yCv:zY prog 1000 0 47 (zV (zV (zW f165) 0) 0) Jv:=lp (A:=JA) Jv (fun d=>(d.1.1.1,d.1.2.2.2.1.1,d.2.1,d.2.2.1)) Va Jx Ve (e2 Jr xU) loops0
theorem yHy:zY prog 1000 0 47 (zV (zW f165) 0) Jz:=lp (A:=JA) Jz (fun d=>d.2.1) Vd BR Vf (e2 Jr xU) (qD yCv)
def yJj:=zJ 165 [.c .i,.c .i] (.c (.own .i)) (fun k d=>BS k d.1 d.2.1) (fun x=>(x,())) (fun d=>d.1)
theorem yJp:zD prog yJj:=fA f165 JA (e2 Jr xU) (qD yHy)
def Vg:zF:=sp [sO 0 0,sI 1,sI 5] [oA .i]
def Vi (f:Int→Int→AC→Option AC)(d:Vg.den):=f d.1.2.1.1 d.1.2.2.1.1 d.2.1
def JB:qB:=⟨[Vg],[(.exit 0,U4)],AC,fun k d=>Vi (BP k k) d,fun b x _ K=>K (.exit 0) (zL b U4 (((),()),(x,())))⟩
def Vj:qA:=⟨[],[(2,JB)],[],true⟩
theorem yRj:zY prog 1000 0 23 (zV (zW f166) 0) JB:=lp (A:=Vj) JB (fun d=>d.2.1) Vi BP Vk (e1 xU) loops0
def yNd:=vL 166 [.c (.own .i),.c (.p .i)] (.c (.own .i)) [] 0 (fun k d=>BO k d.1 d.2.1) (fun x=>(x,())) (fun d=>d.1)
theorem yEk:zD prog yNd:=fX f166 Vj 0 (e1 xU) (qD yRj)
def Vl:zF:=sp [sO 0 0,sI 1,sI 6,sI 7] [oA .i]
def Vn (f:JC)(d:Vl.den):=f d.1.2.1.1 d.1.2.2.1.1 d.1.2.2.2.1.1 d.2.1
def Cq:qB:=⟨[Vl],[(.exit 0,U4)],AC,fun k d=>Vn (xo k k) d,fun b x _ K=>K (.exit 0) (zL b U4 (((),()),(x,())))⟩
def Vo:zF:=sp [sO 0 0,sI 9] [oA .i]
def Vq:zF:=sp [sI 4,(5,.c .bool)] []
def Vr (f:JD)(d:Vo.den):=f d.1.2.1.1 d.2.1
def Cr:qB:=⟨[Vo],[(.exit 2,U4),(.ret,Vq)],(AC⊕vJ),fun k d=>Vr (sU k k) d,fun b x _ K=>match x with|.inl x=>K (.exit 2) (zL b U4 (((),()),(x,())))|.inr x=>K .ret (zL b Vq (((x.1,()),(x.2,()),()),()))⟩
def JE:qA:=⟨[],[(3,Cq),(9,Cr)],[],true⟩
theorem yLk:zY prog 1000 0 66 (zV (zW f167) 0) Cq:=lp (A:=JE) Cq (fun d=>d.2.1) Vn xo Vs e0 loops0
theorem yOz:zY prog 1000 0 66 (zV (zW f167) 1) Cr:=lp (A:=JE) Cr (fun d=>match d with|.inl d=>.inl d.2.1|.inr d=>.inr (d.1.1.1,d.1.2.1.1)) Vr sU Vt e0 loops0
def yD4:=vL 167 [.c (.own .i),.c (.p .i)] (.tup [(false,vM),(false,[.bool])]) [] 0 (fun k d=>BQ k d.1 d.2.1) (fun x=>(x.1,x.2,())) (fun d=>(d.1,d.2.1))
theorem yS4:zD prog yD4:=fX f167 JE 0 e0 (lY (n:=2) (by kernel_rfl) fun i hi=>match i,hi with|0,_=>⟨Cq,by kernel_rfl,yLk⟩|1,_=>⟨Cr,by kernel_rfl,yOz⟩|i+2,hi=>absurd hi (by omega))
def yB5:=zJ 117 [.c .i,.c .i,.c .i] (.tup [(false,vM),(false,[.bool])]) (fun k d=>B1 k d.1 d.2.1 d.2.2.1) (fun x=>(x.1,x.2,())) (fun d=>(d.1,d.2.1))
theorem Vu:zD prog yB5:=fA f117 n0 (e3 yJp yEk yS4) loops0
def yL8:=zJ 118 [.c .i,.c .i] (.tup [(false,vM),(false,[.bool])]) (fun k d=>B3 k d.1 d.2.1) (fun x=>(x.1,x.2,())) (fun d=>(d.1,d.2.1))
theorem Vv:zD prog yL8:=fA f118 n0 e0 loops0
def Vw:zF:=sp [(0,.c (.dat false wZ)),(1,.c (.dat false .i)),(2,.c (.dat false .i)),sI 8,sI 9] []
def Vx:zF:=sp [sI 8] []
def Vz (f:JF)(d:Vw.den):=f d.1.1.1 d.1.2.1.1 d.1.2.2.1.1 d.1.2.2.2.1.1 d.1.2.2.2.2.1.1
def JG:qB:=⟨[Vw],[(.exit 0,Vx),(.ret,TL)],(Int⊕vJ),fun k d=>Vz (xu k k) d,fun b x _ K=>match x with|.inl x=>K (.exit 0) (zL b Vx (((x,()),()),()))|.inr x=>K .ret (zL b TL (((x.1,()),(x.2,()),()),()))⟩
def VA:qA:=⟨[],[(5,JG)],[],true⟩
theorem yRt:zY prog 1000 0 63 (zV (zW f69) 0) JG:=lp (A:=VA) JG (fun d=>match d with|.inl d=>.inl d.1.1.1|.inr d=>.inr (d.1.1.1,d.1.2.1.1)) Vz xu sW (e2 Vu Vv) loops0
def yQa:=zJ 69 [.c (.dat false wZ),.c (.dat false .i),.c (.dat false .i)] (.tup [(false,vM),(false,[.bool])]) (fun k d=>B4 k d.1 d.2.1 d.2.2.1) (fun x=>(x.1,x.2,())) (fun d=>(d.1,d.2.1))
theorem Ct:zD prog yQa:=fA f69 VA (e2 Vu Vv) (qD yRt)
def VB:zF:=sp [sP 2 0,sP 3 1,sI 5] [oB jH,oB gx]
def VC:zF:=sp [sP 2 0,sP 3 1] [oB jH,oB gx]
def VE (f:JH)(d:VB.den):=f d.1.2.2.1.1 (yE d.2.1) (vD d.2.2.1)
def Cu:qB:=⟨[VB],[(.exit 0,VC),(.ret,TX)],JI,fun k d=>VE (mN k k) d,fun b x _ K=>match x with|.inl x=>K (.exit 0) (zL b VC (((),(),()),((gw x.1 ()),(iz x.2 ()),())))|.inr x=>K .ret (zL b TX (((x,()),()),()))⟩
def VF:zF:=sp [sP 2 0,sP 3 1,sI 6,sI 7] [oB jH,oB gx]
def VG:zF:=sp [sP 2 0,sP 3 1,sI 6] [oB jH,oB gx]
def VI (f:JJ)(d:VF.den):=f d.1.2.2.1.1 d.1.2.2.2.1.1 (yE d.2.1) (vD d.2.2.1)
def JK:qB:=⟨[VF],[(.exit 4,VG),(.ret,TX)],JL,fun k d=>VI (pb k k) d,fun b x _ K=>match x with|.inl x=>K (.exit 4) (zL b VG (((),(),(x.1,()),()),((gw x.2.1 ()),(iz x.2.2 ()),())))|.inr x=>K .ret (zL b TX (((x,()),()),()))⟩
def VM (f:JM)(d:VG.den):=f d.1.2.2.1.1 (yE d.2.1) (vD d.2.2.1)
def Cv:qB:=⟨[VG],[(.exit 2,SN),(.ret,TX)],(Unit⊕Bool),fun k d=>VM (mO k k) d,fun b x _ K=>match x with|.inl x=>K (.exit 2) (zL b SN ((),()))|.inr x=>K .ret (zL b TX (((x,()),()),()))⟩
def Cw:qA:=⟨[],[(4,Cu),(14,JK),(9,Cv)],[],true⟩
theorem yOi:zY prog 1000 0 122 (zV (zW f23) 0) Cu:=lp (A:=Cw) Cu (fun d=>match d with|.inl d=>.inl ((yE d.2.1),(vD d.2.2.1))|.inr d=>.inr d.1.1.1) VE mN tf (e1 Ct) loops0
theorem yQc:zY prog 1000 0 122 (zV (zV (zW f23) 1) 0) JK:=lp (A:=Cw) JK (fun d=>match d with|.inl d=>.inl (d.1.2.2.1.1,(yE d.2.1),(vD d.2.2.1))|.inr d=>.inr d.1.1.1) VI pb tg (e1 Ct) loops0
theorem yDl:zY prog 1000 0 122 (zV (zW f23) 1) Cv:=lp (A:=Cw) Cv (fun d=>match d with|.inl d=>.inl ()|.inr d=>.inr d.1.1.1) VM mO th (e1 Ct) (qD yQc)
def yHr:=zJ 23 [.agg jX,.agg fL] (.c .bool) (fun k d=>xC k (yE d) (jx d)) (fun x=>(x,())) (fun d=>d.1)
theorem VN:zD prog yHr:=fA f23 Cw (e1 Ct) (lY (n:=2) (by kernel_rfl) fun i hi=>match i,hi with|0,_=>⟨Cu,by kernel_rfl,yOi⟩|1,_=>⟨Cv,by kernel_rfl,yDl⟩|i+2,hi=>absurd hi (by omega))
def VO:zF:=sp [(0,.c (.dat false zH)),sI 1,sI 5] []
def VR (f:JN)(d:VO.den):=f d.1.1.1 d.1.2.1.1 d.1.2.2.1.1
def JO:qB:=⟨[VO],[(.exit 0,SN),(.ret,SO)],(Unit⊕Int),fun k d=>VR (sy k k) d,fun b x _ K=>match x with|.inl x=>K (.exit 0) (zL b SN ((),()))|.inr x=>K .ret (zL b SO (((x,()),()),()))⟩
def VT:qA:=⟨[],[(2,JO)],[],false⟩
theorem yTp:zY prog 1000 0 20 (zV (zW f42) 0) JO:=lp (A:=VT) JO (fun d=>match d with|.inl d=>.inl ()|.inr d=>.inr d.1.1.1) VR sy sA e0 loops0
def yMx:=zJ 42 [.c (.dat false zH),.c .i] (.c .i) (fun k d=>Bv k d.1 d.2.1) (fun x=>(x,())) (fun d=>d.1)
theorem VU:zD prog yMx:=fA f42 VT e0 (qD yTp)
def yQ2:=zJ 119 [.agg yR,.agg yR] (.c .bool) (fun k d=>(tx (B2 k) d)) (fun x=>(x,())) (fun d=>d.1)
theorem VV:zD prog yQ2:=fA f119 ⟨[],[],[],false⟩ e0 loops0
def VW:zF:=sp [(0,.c (.dat false zH)),sI 3] []
def VZ (f:JP)(d:VW.den):=f d.1.1.1 d.1.2.1.1
def JQ:qB:=⟨[VW],[(.exit 0,Uk),(.ret,SF)],I4,fun k d=>VZ (mK k k) d,fun b x _ K=>match x with|.inl x=>K (.exit 0) (zL b Uk (((x,()),()),()))|.inr x=>K .ret (zL b SF (((x,()),()),()))⟩
def V0:qA:=⟨[],[(2,JQ)],[],false⟩
theorem yRu:zY prog 1000 0 39 (zV (zW f70) 0) JQ:=lp (A:=V0) JQ (fun d=>match d with|.inl d=>.inl d.1.1.1|.inr d=>.inr d.1.1.1) VZ mK sZ (e2 VU VV) loops0
def yEv:=zJ 70 [.c (.dat false zH)] (.c .bool) (fun k d=>xz k d.1) (fun x=>(x,())) (fun d=>d.1)
theorem V1:zD prog yEv:=fA f70 V0 (e2 VU VV) (qD yRu)
def V2:zF:=sp [(0,.c (.dat false .i)),sI 3] []
def V5 (f:JS)(d:V2.den):=f d.1.1.1 d.1.2.1.1
def JT:qB:=⟨[V2],[(.exit 0,Uq),(.ret,SF)],(AC⊕Bool),fun k d=>V5 (oY k k) d,fun b x _ K=>match x with|.inl x=>K (.exit 0) (zL b Uq (((x,()),()),()))|.inr x=>K .ret (zL b SF (((x,()),()),()))⟩
def V6:qA:=⟨[],[(2,JT)],[],true⟩
theorem yGy:zY prog 1000 0 34 (zV (zW f71) 0) JT:=lp (A:=V6) JT (fun d=>match d with|.inl d=>.inl d.1.1.1|.inr d=>.inr d.1.1.1) V5 oY ta e0 loops0
def yIk:=zJ 71 [.c (.dat false .i)] (.c .bool) (fun k d=>xA k d.1) (fun x=>(x,())) (fun d=>d.1)
theorem V7:zD prog yIk:=fA f71 V6 e0 (qD yGy)
def yJh:=zJ 72 [.agg jD,.agg yR] (.c .bool) (fun k d=>(jz (Bj k) d)) (fun x=>(x,())) (fun d=>d.1)
theorem V8:zD prog yJh:=fA f72 ⟨[],[],[],false⟩ e0 loops0
def Wa:zF:=sp [(0,.c (.dat false .i)),sI 1,sI 5] []
def Wd (f:JU)(d:Wa.den):=f d.1.1.1 d.1.2.1.1 d.1.2.2.1.1
def JV:qB:=⟨[Wa],[(.exit 0,SN),(.ret,TX)],(Unit⊕Bool),fun k d=>Wd (oZ k k) d,fun b x _ K=>match x with|.inl x=>K (.exit 0) (zL b SN ((),()))|.inr x=>K .ret (zL b TX (((x,()),()),()))⟩
def We:qA:=⟨[],[(2,JV)],[],true⟩
theorem yH5:zY prog 1000 0 18 (zV (zW f73) 0) JV:=lp (A:=We) JV (fun d=>match d with|.inl d=>.inl ()|.inr d=>.inr d.1.1.1) Wd oZ tc e0 loops0
def yEy:=zJ 73 [.c (.dat false .i),.c .i] (.c .bool) (fun k d=>B8 k d.1 d.2.1) (fun x=>(x,())) (fun d=>d.1)
theorem Wg:zD prog yEy:=fA f73 We e0 (qD yH5)
def Wh:zF:=sp [sP 1 0,sI 3] [oB gx]
def Wk (f:JW)(d:Wh.den):=f d.1.2.1.1 (vD d.2.1)
def JX:qB:=⟨[Wh],[(.exit 0,SN),(.ret,SF)],(Unit⊕Bool),fun k d=>Wk (mM k k) d,fun b x _ K=>match x with|.inl x=>K (.exit 0) (zL b SN ((),()))|.inr x=>K .ret (zL b SF (((x,()),()),()))⟩
def Wl:qA:=⟨[],[(4,JX)],[],true⟩
theorem yFc:zY prog 1000 0 57 (zV (zW f24) 0) JX:=lp (A:=Wl) JX (fun d=>match d with|.inl d=>.inl ()|.inr d=>.inr d.1.1.1) Wk mM td (e4 V1 V7 V8 Wg) loops0
def yTl:=zJ 24 [.agg fL] (.c .bool) (fun k d=>xB k (vD d)) (fun x=>(x,())) (fun d=>d.1)
theorem Wm:zD prog yTl:=fA f24 Wl (e4 V1 V7 V8 Wg) (qD yFc)
def yL0:=zJ 74 [.agg [.i,.i],.c .i] (.agg [.i,.i]) (fun k d=>B7 k d.1 d.2.1 d.2.2.1) (fun x=>(x.1,x.2,())) (fun d=>(d.1,d.2.1))
theorem Wn:zD prog yL0:=fA f74 ⟨[],[],[],false⟩ e0 loops0
def Wo:zF:=sp [(0,.c (.dat false .i)),sP 4 0,sI 5] [oB [.i,.i]]
def Wp:zF:=sp [sP 4 0] [oB [.i,.i]]
def Wq (f:JY)(d:Wo.den):=f d.1.1.1 d.1.2.2.1.1 d.2.1.1 d.2.1.2.1
def JZ:qB:=⟨[Wo],[(.exit 0,Wp)],vA,fun k d=>Wq (xy k k) d,fun b x _ K=>K (.exit 0) (zL b Wp (((),()),((x.1,x.2,()),())))⟩
def Wr:qA:=⟨[],[(3,JZ)],[],false⟩
theorem yS5:zY prog 1000 0 32 (zV (zW f25) 0) JZ:=lp (A:=Wr) JZ (fun d=>(d.2.1.1,d.2.1.2.1)) Wq xy sY (e1 Wn) loops0
def yM7:=zJ 25 [.c (.dat false .i)] (.tup [(false,vM),(false,[.bool])]) (fun k d=>xx k d.1) (fun x=>(x.1,x.2,())) (fun d=>(d.1,d.2.1))
theorem Ws:zD prog yM7:=fA f25 Wr (e1 Wn) (qD yS5)
def Wt:zF:=⟨[sP 2 0,sP 3 1,sO 5 2,sI 6],[oB jH,oB gx,oA .i],[(5,none,.i,false)]⟩
def Wv (f:J0)(d:Wt.den):=f d.1.2.2.2.1.1 (yE d.2.1) (vD d.2.2.1) d.2.2.2.1
def J1:qB:=⟨[Wt],[(.exit 0,UJ)],Jf,fun k d=>Wv (pc k k) d,fun b x _ K=>K (.exit 0) (zL b UJ (((),(),(),()),((gw x.1 ()),(iz x.2.1 ()),x.2.2,())))⟩
def Ww:qA:=⟨[],[(5,J1)],[],true⟩
theorem yGh:zY prog 1000 0 102 (zV (zW f8) 0) J1:=lp (A:=Ww) J1 (fun d=>((yE d.2.1),(vD d.2.2.1),d.2.2.2.1)) Wv pc tj (e4 U2 VN Wm Ws) loops0
def Wx:=zJ 8 [.agg jX,.agg fL] (.c .bool) (fun k d=>xD k (yE d) (jx d)) (fun x=>(x,())) (fun d=>d.1)
theorem yBd:zD prog Wx:=fA f8 Ww (e4 U2 VN Wm Ws) (qD yGh)
def J3:=zJ 9 [.c .i] (.agg [.i,.own wZ,.i,.i,.i]) (fun k d=>xS k d.1) (fun x=>(gw x ())) (fun d=>(yE d))
theorem Wy:zD prog J3:=fA f9 n0 e0 loops0
def yPo:=zJ 120 [.c .i] (.c .bool) (fun k d=>J4 k d.1) (fun x=>(x,())) (fun d=>d.1)
theorem Cx:zD prog yPo:=fA f120 ⟨[],[],[],false⟩ e0 loops0
def Wz:zF:=sp [sI 1,sO 5 0,sI 13,sI 14] [oA .i]
def WA:zF:=sp [sO 5 0] [oA .i]
def WB (f:JC)(d:Wz.den):=f d.1.1.1 d.1.2.2.1.1 d.1.2.2.2.1.1 d.2.1
def J6:qB:=⟨[Wz],[(.exit 0,WA)],AC,fun k d=>WB (Cy k k) d,fun b x _ K=>K (.exit 0) (zL b WA (((),()),(x,())))⟩
def WC:qA:=⟨[],[(5,J6)],[],false⟩
theorem yIe:zY prog 1000 0 23 (zV (zW f76) 0) J6:=lp (A:=WC) J6 (fun d=>d.2.1) WB Cy WD (e1 Cx) loops0
def yLr:=zJ 76 [.c .i,.c .i] (.c (.own .i)) (fun k d=>xV k d.1 d.2.1) (fun x=>(x,())) (fun d=>d.1)
theorem pt:zD prog yLr:=fA f76 WC (e1 Cx) (qD yIe)
def WE:zF:=sp [sI 0,sI 1,sO 5 0,sI 13,sI 14] [.mat]
def WG:zF:=sp [sO 5 0] [.mat]
def WH (f:J7)(d:WE.den):=f d.1.1.1 d.1.2.1.1 d.1.2.2.2.1.1 d.1.2.2.2.2.1.1 d.2.1
def J8:qB:=⟨[WE],[(.exit 0,WG)],EQ,fun k d=>WH (Cz k k) d,fun b x _ K=>K (.exit 0) (zL b WG (((),()),(x,())))⟩
def WI:qA:=⟨[11],[(5,J8)],[],false⟩
theorem yBp:zY prog 1000 0 25 (zV (zW f75) 0) J8:=lp (A:=WI) J8 (fun d=>d.2.1) WH Cz WJ (e2 Cx pt) loops0
def yO6:=zJ 75 [.c .i,.c .i] (.c (.mat)) (fun k d=>CA k d.1 d.2.1) (fun x=>(x,())) (fun d=>d.1)
theorem xW:zD prog yO6:=fA f75 WI (e2 Cx pt) (qD yBp)
def WK:zF:=⟨[sP 1 0,sP 2 1,sI 3,sP 4 2,(20,.c (.dat false wZ)),sI 21,sI 22],[oB jH,oB j3,oB WL,oA qY,.mat,oA .i,.mat,oA .i],[(4,some 5,.i,false)]⟩
def WM:zF:=sp [sP 1 0,sP 2 1,sI 3,sP 4 2] [oB jH,oB j3,oB WL,oA qY,.mat,oA .i,.mat,oA .i]
def WN (f:J9)(d:WK.den):=f d.1.2.2.1.1 d.1.2.2.2.2.1.1 d.1.2.2.2.2.2.1.1 d.1.2.2.2.2.2.2.1.1 (yE d.2.1) (d.2.2.1.1,d.2.2.1.2.1,d.2.2.1.2.2.1) (d.2.2.2.1.1,d.2.2.2.1.2.1,d.2.2.2.1.2.2.1) d.2.2.2.2.1 d.2.2.2.2.2.1 d.2.2.2.2.2.2.1 d.2.2.2.2.2.2.2.1 d.2.2.2.2.2.2.2.2.1
def CB:qB:=⟨[WK],[(.exit 0,WM)],Ka,fun k d=>WN (Kb k k) d,fun b x _ K=>K (.exit 0) (zL b WM (((),(),(x.1,()),(),()),((gw x.2.1 ()),(x.2.2.1.1,x.2.2.1.2.1,x.2.2.1.2.2,()),(x.2.2.2.1.1,x.2.2.2.1.2.1,x.2.2.2.1.2.2,()),x.2.2.2.2.1,x.2.2.2.2.2.1,x.2.2.2.2.2.2.1,x.2.2.2.2.2.2.2.1,x.2.2.2.2.2.2.2.2,())))⟩
def WO:zF:=⟨[sP 1 0,sP 2 1,sP 4 2,sI 34,sI 35],[oB jH,oB j3,oB [.i,.lit (.osl 1001003 none),.lit (.osl 1001004 none),.lit (.osl 1001005 none),.lit (.osl 1001006 none),.lit (.osl 1001007 none),.lit (.osl 1001008 none),.lit .nsl,.lit .nsl,.i,.bool],oA qY,.mat,oA .i,.mat,oA .i,.mat],[(4,some 6,(.sl .i),true)]⟩
def WQ:zF:=sp [sP 2 0,sP 4 1] [oB j3,oB [.i,.lit (.osl 1001002 none),.lit (.osl 1001003 none),.lit (.osl 1001004 none),.lit (.osl 1001005 none),.lit (.osl 1001006 none),.lit (.osl 1001007 none),.lit .nsl,.lit .nsl,.i,.bool],oA qY,.mat,oA .i,.mat,oA .i,.mat]
def WR (f:Kc)(d:WO.den):=f d.1.2.2.2.1.1 d.1.2.2.2.2.1.1 (yE d.2.1) (d.2.2.1.1,d.2.2.1.2.1,d.2.2.1.2.2.1) (d.2.2.2.1.1,d.2.2.2.1.2.1,d.2.2.2.1.2.2.1) d.2.2.2.2.1 d.2.2.2.2.2.1 d.2.2.2.2.2.2.1 d.2.2.2.2.2.2.2.1 d.2.2.2.2.2.2.2.2.1 d.2.2.2.2.2.2.2.2.2.1
def CC:qB:=⟨[WO],[(.exit 2,WQ)],Ke,fun k d=>WR (Kf k k) d,fun b x _ K=>K (.exit 2) (zL b WQ (((),(),()),((x.1.1,x.1.2.1,x.1.2.2,()),(x.2.1.1,x.2.1.2.1,x.2.1.2.2,()),x.2.2.1,x.2.2.2.1,x.2.2.2.2.1,x.2.2.2.2.2.1,x.2.2.2.2.2.2.1,x.2.2.2.2.2.2.2,())))⟩
def Kg:qA:=⟨[43,44],[(4,CB),(9,CC)],[],true⟩
theorem yQ0:zY prog 1000 0 48 (zV (zW f27) 0) CB:=lp (A:=Kg) CB (fun d=>(d.1.2.2.1.1,(yE d.2.1),(d.2.2.1.1,d.2.2.1.2.1,d.2.2.1.2.2.1),(d.2.2.2.1.1,d.2.2.2.1.2.1,d.2.2.2.1.2.2.1),d.2.2.2.2.1,d.2.2.2.2.2.1,d.2.2.2.2.2.2.1,d.2.2.2.2.2.2.2.1,d.2.2.2.2.2.2.2.2.1)) WN Kb WS (e2 xW pt) loops0
theorem yOo:zY prog 1000 0 48 (zV (zW f27) 1) CC:=lp (A:=Kg) CC (fun d=>((d.2.1.1,d.2.1.2.1,d.2.1.2.2.1),(d.2.2.1.1,d.2.2.1.2.1,d.2.2.1.2.2.1),d.2.2.2.1,d.2.2.2.2.1,d.2.2.2.2.2.1,d.2.2.2.2.2.2.1,d.2.2.2.2.2.2.2.1,d.2.2.2.2.2.2.2.2.1)) WR Kf WT (e2 xW pt) loops0
def WU:=zJ 27 [.agg jX] (.agg [.i,.own qY,.mat,.own .i,.mat,.own .i,.mat,.own zH,.own .i,.i,.bool]) (fun k d=>B6 k (yE d)) (fun x=>(iz x ())) (fun d=>(vD d))
theorem yFd:zD prog WU:=fA f27 Kg (e2 xW pt) (lY (n:=2) (by kernel_rfl) fun i hi=>match i,hi with|0,_=>⟨CB,by kernel_rfl,yQ0⟩|1,_=>⟨CC,by kernel_rfl,yOo⟩|i+2,hi=>absurd hi (by omega))
def WV:zF:=sp [(1,.c (.dat false .i)),sP 4 0,sP 5 1,sI 6] [oB fi,oB fi]
def WW:zF:=sp [sP 4 0,sP 5 1] [oB fi,oB fi]
def WX (f:Kh)(d:WV.den):=(mV (mV (f d.1.1.1 d.1.2.2.2.1.1) d.2.1) d.2.2.1)
def Ki:qB:=⟨[WV],[(.exit 0,WW)],Kj,fun k d=>WX (CD k k) d,fun b x _ K=>K (.exit 0) (zL b WW (((),(),()),((tB x ()),(yQl x ()),())))⟩
def WY:qA:=⟨[],[(3,Ki)],[],false⟩
theorem yOa:zY prog 1000 0 27 (zV (zW f29) 0) Ki:=lp (A:=WY) Ki (fun d=>(tB d.2.1 (jF d.2.2.1))) WX CD WZ e0 loops0
def W0:=zJ 29 [.c .i,.c (.dat false .i)] (.agg xX) (fun k d=>Kk k d.1 d.2.1) (fun x=>(gy x ())) (fun d=>(jF d))
theorem W1:zD prog W0:=fA f29 WY e0 (qD yOa)
def W2:=zJ 28 [.c .i,.c .i,.c (.dat false .i)] (.agg [.i,.i,.i,.i,.i,.i,.i,.i]) (fun k d=>Kl k d.1 d.2.1 d.2.2.1) (fun x=>(Km x ())) (fun d=>(CE d))
theorem yJx:zD prog W2:=fA f28 n0 (e1 W1) loops0
def yTg:=zJ 77 [.c .i] (.c .bool) (fun k d=>W3 k d.1) (fun x=>(x,())) (fun d=>d.1)
theorem yJ2:zD prog yTg:=fA f77 n0 e0 loops0
def yDw:=zJ 78 [.c .i] (.c .bool) (fun k d=>Kn k d.1) (fun x=>(x,())) (fun d=>d.1)
theorem yGd:zD prog yDw:=fA f78 n0 e0 loops0
def yM1:=zJ 121 [.c .i] (.c .i) (fun k d=>W4 k d.1) (fun x=>(x,())) (fun d=>d.1)
theorem W5:zD prog yM1:=fA f121 n0 e0 loops0
def W6:zF:=sp [(13,.c (.dat true .i)),sI 14,sI 15] []
def W9 (f:JU)(d:W6.den):=f d.1.1.1 d.1.2.1.1 d.1.2.2.1.1
def Kp:qB:=⟨[W6],[(.exit 0,SN),(.ret,SF)],(Unit⊕Bool),fun k d=>W9 (Kq k k) d,fun b x _ K=>match x with|.inl x=>K (.exit 0) (zL b SN ((),()))|.inr x=>K .ret (zL b SF (((x,()),()),()))⟩
def Xa:qA:=⟨[],[(5,Kp)],[],true⟩
theorem yH7:zY prog 1000 0 22 (zV (zW f79) 0) Kp:=lp (A:=Xa) Kp (fun d=>match d with|.inl d=>.inl ()|.inr d=>.inr d.1.1.1) W9 Kq Xb (e1 W5) loops0
def yHl:=zJ 79 [.agg yR] (.c .bool) (fun k d=>Kr k (jF d)) (fun x=>(x,())) (fun d=>d.1)
theorem yDi:zD prog yHl:=fA f79 Xa (e1 W5) (qD yH7)
def yM2:=zJ 30 [.agg jX,.agg fL,.agg Ks] (.c .i) (fun k d=>Xc k (yE d) (jx d) (Kt d)) (fun x=>(x,())) (fun d=>d.1)
theorem ySm:zD prog yM2:=fA f30 n0 (e3 yJ2 yGd yDi) loops0
def yP4:=zJ 123 [.agg yR,.ptr [.i]] (.c .bool) (fun k d=>(jy (Xd k) d)) (fun x=>(x,())) (fun d=>d.1)
theorem Xe:zD prog yP4:=fA f123 ⟨[],[],[],false⟩ e0 loops0
def Xf:zF:=⟨[(1,.c (.lit (.fn 123 [1001000]))),sO 5 1,(8,.c (.dat false zH)),sI 9,sI 10],[.robox [.i],oA zH],[(5,none,zH,false)]⟩
def Xg:zF:=sp [sO 5 0] [oA zH]
def Xh (f:Ku)(d:Xf.den):=f d.1.2.2.1.1 d.1.2.2.2.1.1 d.1.2.2.2.2.1.1 d.2.1.1 d.2.2.1
def Kv:qB:=⟨[Xf],[(.exit 0,Xg)],Kw,fun k d=>Xh (CF k k) d,fun b x _ K=>K (.exit 0) (zL b Xg (((),()),(x,())))⟩
def Xi:qA:=⟨[],[(3,Kv)],[],false⟩
theorem yBv:zY prog 1000 0 23 (zV (zW f122) 0) Kv:=lp (A:=Xi) Kv (fun d=>d.2.1) Xh CF Xj (e1 Xe) loops0
def yDv:=zJ 122 [.c (.dat false zH),.fn 123 [[.i]]] (.c (.own zH)) (fun k d=>Xk k d.1 d.2.1) (fun x=>(x,())) (fun d=>d.1)
theorem yRw:zD prog yDv:=fA f122 Xi (e1 Xe) (qD yBv)
def yA7:=zJ 80 [.c (.dat false zH),.c .i] (.c (.own zH)) (fun k d=>Kx k d.1 d.2.1) (fun x=>(x,())) (fun d=>d.1)
theorem xY:zD prog yA7:=fA f80 ⟨[],[],[],false⟩ (e1 yRw) loops0
def yHm:=vL 32 [.ptr true [.p .i,.p (.nil),.p .i,.p .i,.p .i,.p .i,.p (.nil),.p (.nil),.p (.nil),.p (.nil),.p (.nil),.p (.nil),.p (.nil),.p (.nil),.p .i,.p .bool,.p .i,.p (.nil)],.c (.p .i),.c (.p (.dat false .i))] (.tup []) [[.i,.own wZ,.i,.i,.i,.i,.own qY,.mat,.own .i,.mat,.own .i,.mat,.own zH,.own .i,.i,.bool,.i,.own vF]] 0 (fun k d=>Xl k (d.1,(Ky d (d.2.2.2.2.2.2.2.2.2.2.2.2.2.2.1,d.2.2.2.2.2.2.2.2.2.2.2.2.2.2.2.1,d.2.2.2.2.2.2.2.2.2.2.2.2.2.2.2.2.1))) d.2.2.2.2.2.2.2.2.2.2.2.2.2.2.2.2.2.2.1 d.2.2.2.2.2.2.2.2.2.2.2.2.2.2.2.2.2.2.2.1) (fun x=>(wO x ())) (fun d=>(wY d))
theorem yN6:zD prog yHm:=fX f32 n0 1 e0 loops0
def yRc:=zJ 31 [.agg fL,.c .i] (.c (.own vF)) (fun k d=>Xm k (vD d) d.2.2.2.2.2.2.2.2.2.2.2.1) (fun x=>(x,())) (fun d=>d.1)
theorem ySe:zD prog yRc:=fA f31 n0 (e2 xY yN6) loops0
def yLq:=vL 32 [.ptr true mW,.c (.p .i),.c (.p (.dat false .i))] (.tup []) [dR] 0 (fun k d=>Kz k (jU d) d.2.2.2.2.2.2.2.2.2.2.2.2.2.2.2.2.2.2.1 d.2.2.2.2.2.2.2.2.2.2.2.2.2.2.2.2.2.2.2.1) (fun x=>(wO x ())) (fun d=>(wY d))
theorem Xn:zD prog yLq:=fX f32 n0 1 e0 loops0
def yGs:=zJ 198 [.agg jX,.c .i] (.c .bool) (fun k d=>KA k (yE d) d.2.2.2.2.2.1) (fun x=>(x,())) (fun d=>d.1)
theorem yLl:zD prog yGs:=fA f198 n0 e0 loops0
def yI3:=zJ 168 [.agg jX,.c .i,.agg yR] (.c .bool) (fun k d=>Xo k (yE d) d.2.2.2.2.2.1 (Xp d)) (fun x=>(x,())) (fun d=>d.1)
theorem yN3:zD prog yI3:=fA f168 n0 (e1 yLl) loops0
def yEn:=zJ 129 [.agg jX,.c .i,.c .i] (.c .i) (fun k d=>CG k (yE d) d.2.2.2.2.2.1 d.2.2.2.2.2.2.1) (fun x=>(x,())) (fun d=>d.1)
theorem KB:zD prog yEn:=fA f129 n0 e0 loops0
def yK6:=zJ 124 [.agg jX,.c .i,.agg yR] (.c .i) (fun k d=>KC k (yE d) d.2.2.2.2.2.1 (Xp d)) (fun x=>(x,())) (fun d=>d.1)
theorem Xq:zD prog yK6:=fA f124 n0 (e2 yN3 KB) loops0
def yHp:=oH 170 false .i (.own .i) oM
theorem xZ:zD prog yHp:=fC f170 ⟨[],[],[],false⟩ e0 loops0
theorem yG1 (A X:Option Addr)(n c vc:Nat)(w w':World)(rv:Value)(hr:(Builtin.append_ #[27,27] 27 #[.slice A n c,.slice X 1 vc]).run prog w=.ok rv w'):
    Calls prog 169 #[.slice A n c,.int .i64 n,.slice X 1 vc] w fun e gi=>e=.returned rv∧gi=w':=by
  have t0:prog.underlying 27=some (.slice 2):=by kernel_rfl
  have t3:prog.underlying 3=some (.int .i64):=by kernel_rfl
  have z0:∀w,(Go.sizeOf 2).run prog w=.ok 1 w:=fun w=>by kernel_rfl
  have u0:=run_underlying t0;have u3:=run_underlying t3
  go_enter Proofs.Tryz.func169,Proofs.Tryz.ntmps169
  go_wp2_with (at_builtin;refine Lib.wpList_append_run _ rfl _ _ _ _ rfl _ _ rfl rfl _ _ hr ?_)
  all_goals (go_ret;exact⟨rfl,rfl⟩)
theorem yBl:AZ prog 169 27 3 1 where
  ends:=yG1
  grow B off n c i X vo vc N G w w1 w2 w3 hi hnc aM xn hG hz hA hB:=by
    simp only[Nat.mul_one] at hA hB;have t0:prog.underlying 27=some (.slice 2):=by kernel_rfl
    have t3:prog.underlying 3=some (.int .i64):=by kernel_rfl
    have z0:∀w,(Go.sizeOf 2).run prog w=.ok 1 w:=fun w=>by kernel_rfl
    have u0:=run_underlying t0;have u3:=run_underlying t3;have mixed:prog.follows .mixedOrders=true:=dQ;have KD:¬((i:Int)=(n:Int)):=by omega
    have vf:IntKind.i64.wrap ((i:Int)+1)=(i:Int)+1:=by rw[IntKind.wrap_i64];omega
    have dq:(0:Int)≤(i:Int)+1:=by omega
    have lL:i≤n:=by omega
    have gm:((i:Int)+1).toNat=i+1:=by omega
    have KE:¬(c=i):=by omega
    have hz3:(c:Int)<(n:Int)+1:=by omega
    have KF:(i:Int)≤(n:Int):=by omega
    have hGi:¬(G=i):=by omega
    have KG:¬(G=i+1):=by omega
    go_enter Proofs.Tryz.func169,Proofs.Tryz.ntmps169
    go_wp2_with (first
      |(at_builtin;refine Lib.wpList_append_run _ rfl _ _ _ _ rfl _ _ rfl rfl _ _ hz ?_)
      |(at_builtin;refine A4 _ rfl _ _ 27 27 rfl _ _ rfl rfl (hA _) ?_))
    go_region_law_o (refine A5 rfl _ _ 27 27 rfl (.slice (some ⟨N,(i+1),none⟩) (n+1-(i+1)) (G-(i+1))) (.slice (some ⟨B,off+i,none⟩) (n-i) (c-i)) (by simp[Act.eval,Act.put]) (by simp[Act.eval,Act.put]) (hB (G-(i+1)) (c-i)) ?_)
    go_wp2
    go_ret
    exact⟨rfl,rfl⟩
  shift B off n c i X vo vc w w1 w2 hi aM xn iU hA hB:=by
    simp only[Nat.mul_one] at hA hB;have t0:prog.underlying 27=some (.slice 2):=by kernel_rfl
    have t3:prog.underlying 3=some (.int .i64):=by kernel_rfl
    have z0:∀w,(Go.sizeOf 2).run prog w=.ok 1 w:=fun w=>by kernel_rfl
    have u0:=run_underlying t0;have u3:=run_underlying t3;have mixed:prog.follows .mixedOrders=true:=dQ;have KD:¬((i:Int)=(n:Int)):=by omega
    have vf:IntKind.i64.wrap ((i:Int)+1)=(i:Int)+1:=by rw[IntKind.wrap_i64];omega
    have dq:(0:Int)≤(i:Int)+1:=by omega
    have lL:i≤n:=by omega
    have gm:((i:Int)+1).toNat=i+1:=by omega
    have KE:¬(c=i):=by omega
    have KH:=fun lb cb=>Rj (P:=prog) (fo:=199) (tb:=4) (e:=2) (size:=1) Proofs.Tryz.func199 (by kernel_rfl) (by kernel_rfl) (by kernel_rfl) (by kernel_rfl) t0 z0 iU vo (off+(i+1)) vc lb cb
    have Ss:¬(c=i+1):=by omega
    have KF:(i:Int)≤(n:Int)+1:=by omega
    go_enter Proofs.Tryz.func169,Proofs.Tryz.ntmps169
    go_wp2_with (simp only[KH])
    go_region_law_o (refine A5 rfl _ _ 27 27 rfl (.slice (some ⟨B,off+(i+1),none⟩) (n-i) (c-(i+1))) (.slice (some ⟨B,off+i,none⟩) (n+1-i) (c-i)) (by simp[Act.eval,Act.put]) (by simp[Act.eval,Act.put]) (hA _ _) ?_)
    go_wp2_with (at_builtin;refine A4 _ rfl _ _ 27 27 rfl _ _ rfl rfl (hB _) ?_)
    go_ret
    exact⟨rfl,rfl⟩
def yTc:Nat×gf:=(169,GH .i 8)
theorem yTj:zD prog yTc:=Rq (e:=2) (fn:=f169) yBl
def yCj:=zJ 125 [.c (.dat true .i),.c .i] (.tup [(false,[.fro .i]),(false,vM)]) (fun k d=>KI k d.1 d.2.1) (fun x=>(x.1,x.2,())) (fun d=>(d.1,d.2.1))
theorem Xr:zD prog yCj:=fA f125 n0 (e3 UA xZ yTj) loops0
def yOv:=oH 172 false zH (.own zH) CH
theorem CI:zD prog yOv:=fC f172 ⟨[],[],[],false⟩ e0 loops0
theorem ySg (A X:Option Addr)(n c vc:Nat)(w w':World)(rv:Value)(hr:(Builtin.append_ #[30,30] 30 #[.slice A n c,.slice X 1 vc]).run prog w=.ok rv w'):
    Calls prog 171 #[.slice A n c,.int .i64 n,.slice X 1 vc] w fun e gi=>e=.returned rv∧gi=w':=by
  have t0:prog.underlying 30=some (.slice 97):=by kernel_rfl
  have t3:prog.underlying 3=some (.int .i64):=by kernel_rfl
  have z0:∀w,(Go.sizeOf 97).run prog w=.ok 7 w:=fun w=>by kernel_rfl
  have u0:=run_underlying t0;have u3:=run_underlying t3
  go_enter Proofs.Tryz.func171,Proofs.Tryz.ntmps171
  go_wp2_with (at_builtin;refine Lib.wpList_append_run _ rfl _ _ _ _ rfl _ _ rfl rfl _ _ hr ?_)
  all_goals (go_ret;exact⟨rfl,rfl⟩)
theorem yOf:AZ prog 171 30 3 7 where
  ends:=ySg
  grow B off n c i X vo vc N G w w1 w2 w3 hi hnc aM xn hG hz hA hB:=by
    have t0:prog.underlying 30=some (.slice 97):=by kernel_rfl
    have t3:prog.underlying 3=some (.int .i64):=by kernel_rfl
    have z0:∀w,(Go.sizeOf 97).run prog w=.ok 7 w:=fun w=>by kernel_rfl
    have u0:=run_underlying t0;have u3:=run_underlying t3;have mixed:prog.follows .mixedOrders=true:=dQ;have KD:¬((i:Int)=(n:Int)):=by omega
    have vf:IntKind.i64.wrap ((i:Int)+1)=(i:Int)+1:=by rw[IntKind.wrap_i64];omega
    have dq:(0:Int)≤(i:Int)+1:=by omega
    have lL:i≤n:=by omega
    have gm:((i:Int)+1).toNat=i+1:=by omega
    have KE:¬(c=i):=by omega
    have hz3:(c:Int)<(n:Int)+1:=by omega
    have KF:(i:Int)≤(n:Int):=by omega
    have hGi:¬(G=i):=by omega
    have KG:¬(G=i+1):=by omega
    go_enter Proofs.Tryz.func171,Proofs.Tryz.ntmps171
    go_wp2_with (first
      |(at_builtin;refine Lib.wpList_append_run _ rfl _ _ _ _ rfl _ _ rfl rfl _ _ hz ?_)
      |(at_builtin;refine A4 _ rfl _ _ 30 30 rfl _ _ rfl rfl (hA _) ?_))
    go_region_law_o (refine A5 rfl _ _ 30 30 rfl (.slice (some ⟨N,(i+1)*7,none⟩) (n+1-(i+1)) (G-(i+1))) (.slice (some ⟨B,off+i*7,none⟩) (n-i) (c-i)) (by simp[Act.eval,Act.put]) (by simp[Act.eval,Act.put]) (hB (G-(i+1)) (c-i)) ?_)
    go_wp2
    go_ret
    exact⟨rfl,rfl⟩
  shift B off n c i X vo vc w w1 w2 hi aM xn iU hA hB:=by
    have t0:prog.underlying 30=some (.slice 97):=by kernel_rfl
    have t3:prog.underlying 3=some (.int .i64):=by kernel_rfl
    have z0:∀w,(Go.sizeOf 97).run prog w=.ok 7 w:=fun w=>by kernel_rfl
    have u0:=run_underlying t0;have u3:=run_underlying t3;have mixed:prog.follows .mixedOrders=true:=dQ;have KD:¬((i:Int)=(n:Int)):=by omega
    have vf:IntKind.i64.wrap ((i:Int)+1)=(i:Int)+1:=by rw[IntKind.wrap_i64];omega
    have dq:(0:Int)≤(i:Int)+1:=by omega
    have lL:i≤n:=by omega
    have gm:((i:Int)+1).toNat=i+1:=by omega
    have KE:¬(c=i):=by omega
    have KH:=fun lb cb=>Rj (P:=prog) (fo:=201) (tb:=4) (e:=97) (size:=7) Proofs.Tryz.func201 (by kernel_rfl) (by kernel_rfl) (by kernel_rfl) (by kernel_rfl) t0 z0 iU vo (off+(i+1)*7) vc lb cb
    have Ss:¬(c=i+1):=by omega
    have KF:(i:Int)≤(n:Int)+1:=by omega
    go_enter Proofs.Tryz.func171,Proofs.Tryz.ntmps171
    go_wp2_with (simp only[KH])
    go_region_law_o (refine A5 rfl _ _ 30 30 rfl (.slice (some ⟨B,off+(i+1)*7,none⟩) (n-i) (c-(i+1))) (.slice (some ⟨B,off+i*7,none⟩) (n+1-i) (c-i)) (by simp[Act.eval,Act.put]) (by simp[Act.eval,Act.put]) (hA _ _) ?_)
    go_wp2_with (at_builtin;refine A4 _ rfl _ _ 30 30 rfl _ _ rfl rfl (hB _) ?_)
    go_ret
    exact⟨rfl,rfl⟩
def yLo:Nat×gf:=(171,GH zH 56)
theorem CJ:zD prog yLo:=Rq (e:=97) (fn:=f171) yOf
def Xs:zF:=sp [(0,.c (.dat true zH)),sP 3 0,sI 6] [oB fi]
def Xu (f:KJ)(d:Xs.den):=f d.1.1.1 d.1.2.2.1.1 (jF d.2.1)
def KK:qB:=⟨[Xs],[(.exit 1,Xs)],KL,fun k d=>Xu (KM k k) d,fun b x _ K=>K (.exit 1) (zL b Xs (((x.1,()),(),(x.2.1,()),()),((gy x.2.2 ()),())))⟩
def Xv:qA:=⟨[],[(6,KK)],[],true⟩
theorem yTn:zY prog 1000 0 40 (zV (zW f126) 0) KK:=lp (A:=Xv) KK (fun d=>(d.1.1.1,d.1.2.2.1.1,(jF d.2.1))) Xu KM Xw (e4 mU tz CI CJ) loops0
def yPr:=zJ 126 [.c (.dat true zH),.agg yR] (.tup [(false,[.fro zH]),(false,vM)]) (fun k d=>ya k d.1 (KN d)) (fun x=>(x.1,x.2,())) (fun d=>(d.1,d.2.1))
theorem CK:zD prog yPr:=fA f126 Xv (e4 mU tz CI CJ) (qD yTn)
def yMw:=vL 81 [.ptr true mX,.agg [.i,.i,.i,.i,.i,.i]] (.c .i) [dR] 0 (fun k d=>Xx k (wY d) (Xy d)) (fun x=>(x.1,(wO x.2 ()))) (fun d=>(d.1,(fj d)))
theorem yLe:zD prog yMw:=fX f81 n0 1 (e4 wK Xq Xr CK) loops0
def yCk:=zJ 127 [.ptr KO,.c .i] (.tup [(true,xX),(false,vM)]) (fun k d=>KP k (wY d) d.2.2.2.2.2.2.2.2.2.2.2.2.2.2.2.2.2.2.1) (fun x=>(gy x.1 (x.2,()))) (fun d=>((jF d),d.2.2.2.2.2.2.2.1))
theorem Xz:zD prog yCk:=fA f127 n0 (e1 mU) loops0
def yCy:=vL 173 [.c (.own zH),.c (.p .i),.c (.p .i)] (.c (.own zH)) [] 0 (fun k d=>KQ k d.1 d.2.1 d.2.2.1) (fun x=>(x,())) (fun d=>d.1)
theorem XA:zD prog yCy:=fX f173 ⟨[],[],[],false⟩ 0 e0 loops0
def yGu:=zJ 128 [.c (.dat true zH),.c .i] (.tup [(false,[.fro zH]),(true,xX),(false,vM)]) (fun k d=>mY k d.1 d.2.1) (fun x=>(KR x ())) (fun d=>(KS d))
theorem iA:zD prog yGu:=fA f128 ⟨[],[],[],false⟩ (e3 mU CI XA) loops0
def yNp:=vL 32 [.ptr true mX,.c (.p .i),.c (.p (.dat false .i))] (.tup []) [dR] 0 (fun k d=>CL k (wY d) d.2.2.2.2.2.2.2.2.2.2.2.2.2.2.2.2.2.2.1 d.2.2.2.2.2.2.2.2.2.2.2.2.2.2.2.2.2.2.2.1) (fun x=>(wO x ())) (fun d=>(wY d))
theorem XB:zD prog yNp:=fX f32 n0 1 e0 loops0
def yJ8:=zJ 130 [.c (.dat true zH),.c .i,.c .i] (.tup [(false,[.fro zH]),(false,vM)]) (fun k d=>KT k d.1 d.2.1 d.2.2.1) (fun x=>(x.1,x.2,())) (fun d=>(d.1,d.2.1))
theorem XE:zD prog yJ8:=fA f130 n0 (e2 iA CK) loops0
def yHd:=zJ 128 [.c (.dat false zH),.c .i] (.tup [(false,[.own zH]),(true,xX),(false,vM)]) (fun k d=>XF k d.1 d.2.1) (fun x=>(KR x ())) (fun d=>(KS d))
theorem XG:zD prog yHd:=fA f128 ⟨[],[],[],false⟩ (e3 mU CI XA) loops0
def XH:zF:=sp [sO 6 0,sP 7 1,sI 9] [oA zH,oB fi]
def XJ (f:KU)(d:XH.den):=f d.1.2.2.1.1 d.2.1 (jF d.2.2.1)
def KV:qB:=⟨[XH],[(.exit 0,XH)],KW,fun k d=>XJ (KX k k) d,fun b x _ K=>K (.exit 0) (zL b XH (((),(),(x.1,()),()),(x.2.1,(gy x.2.2 ()),())))⟩
def XK:qA:=⟨[],[(5,KV)],[],true⟩
theorem yB2:zY prog 1000 0 41 (zV (zW f131) 0) KV:=lp (A:=XK) KV (fun d=>(d.1.2.2.1.1,d.2.1,(jF d.2.2.1))) XJ KX XM (e3 XG tz CJ) loops0
def yEm:=zJ 131 [.c (.dat true zH),.c .i] (.tup [(false,[.fro zH]),(false,vM)]) (fun k d=>KY k d.1 d.2.1) (fun x=>(x.1,x.2,())) (fun d=>(d.1,d.2.1))
theorem XN:zD prog yEm:=fA f131 XK (e3 XG tz CJ) (qD yB2)
def yAx:=zJ 132 [.c (.dat true zH),.c .i] (.tup [(false,[.fro zH]),(false,vM)]) (fun k d=>KZ k d.1 d.2.1) (fun x=>(x.1,x.2,())) (fun d=>(d.1,d.2.1))
theorem XO:zD prog yAx:=fA f132 n0 (e2 iA CK) loops0
def yLa:=vL 82 [.ptr true mX,.agg yR] (.c .i) [dR] 0 (fun k d=>CM k (wY d) (tC d)) (fun x=>(x.1,(wO x.2 ()))) (fun d=>(d.1,(fj d)))
theorem yFw:zD prog yLa:=fX f82 n0 1 (e8 Xz iA XB wK KB XE XN XO) loops0
def yR7:=oH 174 false qY (.own qY) G6
theorem yMs:zD prog yR7:=fC f174 ⟨[],[],[],false⟩ e0 loops0
def yQ8:=oH 136 true (.sl .i) (.jun) G3
theorem XP:zD prog yQ8:=fC f136 ⟨[],[],[],false⟩ e0 loops0
def XQ:zF:=sp [sO 3 0,(8,.c (.dat true (.sl .i))),sI 9,sI 10] [.pmat]
def XR:zF:=sp [sO 3 0] [.pmat]
def XS (f:K0)(d:XQ.den):=f d.1.2.1.1 d.1.2.2.1.1 d.1.2.2.2.1.1 d.2.1.1 d.2.1.2
def K1:qB:=⟨[XQ],[(.exit 0,XR)],(EQ×Nat),fun k d=>XS (w4 k k) d,fun b x _ K=>K (.exit 0) (zL b XR (((),()),((x.1,x.2),())))⟩
def XT:qA:=⟨[],[(3,K1)],[],false⟩
theorem yB4:zY prog 1000 0 22 (zV (zW f175) 0) K1:=lp (A:=XT) K1 (fun d=>d.2.1) XS w4 sn (e2 XP xZ) loops0
def yFg:=zJ 175 [.c (.dat true (.sl .i))] (.c (.mat)) (fun k d=>w5 k d.1) (fun x=>(x,())) (fun d=>d.1)
theorem yEx:zD prog yFg:=fA f175 XT (e2 XP xZ) (qD yB4)
def yDt:=zJ 133 [.agg [.dat false qY,.dat true (.sl .i),.dat false .i,.dat true (.sl .i)]] (.agg [.own qY,.mat,.own .i,.mat]) (fun k d=>(vQ (jS k) d)) (fun x=>(pv x ())) (fun d=>(tA d))
theorem gz:zD prog yDt:=fA f133 ⟨[],[],[],false⟩ (e3 yMs yEx xZ) loops0
def yC6:=zJ 134 [.ptr KO,.c .i] (.c .bool) (fun k d=>K2 k (wY d) d.2.2.2.2.2.2.2.2.2.2.2.2.2.2.2.2.2.2.1) (fun x=>(x,())) (fun d=>d.1)
theorem XU:zD prog yC6:=fA f134 n0 (e1 wK) loops0
def yF3:=vL 83 [.ptr true mX,.agg yR] (.c .i) [dR] 0 (fun k d=>CN k (wY d) (tC d)) (fun x=>(x.1,(wO x.2 ()))) (fun d=>(d.1,(fj d)))
theorem yS7:zD prog yF3:=fX f83 n0 1 (e3 gz XU wK) loops0
def yQ3:=zJ 135 [.ptr KO,.c .i] (.c .bool) (fun k d=>yc k (wY d) d.2.2.2.2.2.2.2.2.2.2.2.2.2.2.2.2.2.2.1) (fun x=>(x,())) (fun d=>d.1)
theorem tD:zD prog yQ3:=fA f135 n0 (e1 wK) loops0
def yPt:=oH 136 true (.sl .i) (.own (.sl .i)) K3
theorem XV:zD prog yPt:=fC f136 ⟨[],[],[],false⟩ e0 loops0
def yCz:=zJ 137 [.c (.dat false .i),.c .i,.c .i] (.c (.own .i)) (fun k d=>yd k d.1 d.2.1 d.2.2.1) (fun x=>(x,())) (fun d=>d.1)
theorem tE:zD prog yCz:=fA f137 n0 (e1 xZ) loops0
def yR5:=vL 84 [.ptr true mX,.c (.p .i),.c (.p .i)] (.c .i) [dR] 0 (fun k d=>XW k (wY d) d.2.2.2.2.2.2.2.2.2.2.2.2.2.2.2.2.2.2.1 d.2.2.2.2.2.2.2.2.2.2.2.2.2.2.2.2.2.2.2.1) (fun x=>(x.1,(wO x.2 ()))) (fun d=>(d.1,(fj d)))
theorem yB9:zD prog yR5:=fX f84 n0 1 (e6 tD wK XV tE mT gz) loops0
def yDg:=zJ 203 [.c .i,.c .i] (.tup [(false,vM),(false,[.bool])]) (fun k d=>XX k d.1 d.2.1) (fun x=>(x.1,x.2,())) (fun d=>(d.1,d.2.1))
theorem yPu:zD prog yDg:=fA f203 ⟨[],[],[],false⟩ e0 loops0
def yLz:=zJ 176 [.agg iy,.c .i] (.tup [(true,[.i,.i,.i]),(false,vM)]) (fun k d=>K4 k (d.1,d.2.1,d.2.2.1) d.2.2.2.1) (fun x=>(x.1.1,x.1.2.1,x.1.2.2,x.2,())) (fun d=>((d.1,d.2.1,d.2.2.1),d.2.2.2.1))
theorem XY:zD prog yLz:=fA f176 n0 (e2 yPu SJ) loops0
def yMp:=zJ 138 [.agg iy,.c .i] (.tup [(true,[.i,.i,.i]),(false,vM)]) (fun k d=>K5 k (d.1,d.2.1,d.2.2.1) d.2.2.2.1) (fun x=>(x.1.1,x.1.2.1,x.1.2.2,x.2,())) (fun d=>((d.1,d.2.1,d.2.2.1),d.2.2.2.1))
theorem XZ:zD prog yMp:=fA f138 n0 (e1 XY) loops0
def yKx:=zJ 177 [.agg iy,.c .i] (.c .i) (fun k d=>(vQ (sx k) d)) (fun x=>(x,())) (fun d=>d.1)
theorem CO:zD prog yKx:=fA f177 ⟨[],[],[],false⟩ e0 loops0
def yCu:=zJ 139 [.agg iy,.c .i,.c .i] (.tup [(true,[.i,.i,.i]),(false,vM)]) (fun k d=>K6 k (d.1,d.2.1,d.2.2.1) d.2.2.2.1 d.2.2.2.2.1) (fun x=>(x.1.1,x.1.2.1,x.1.2.2,x.2,())) (fun d=>((d.1,d.2.1,d.2.2.1),d.2.2.2.1))
theorem X0:zD prog yCu:=fA f139 n0 (e2 XY CO) loops0
def yIw:=zJ 140 [.agg iy,.c .i] (.c .i) (fun k d=>K7 k (d.1,d.2.1,d.2.2.1) d.2.2.2.1) (fun x=>(x,())) (fun d=>d.1)
theorem X1:zD prog yIw:=fA f140 n0 e0 loops0
def yRl:=vL 85 [.ptr true mX,.c (.p .i),.c (.p .i),.c (.p .i)] (.c .i) [dR] 0 (fun k d=>K8 k (wY d) d.2.2.2.2.2.2.2.2.2.2.2.2.2.2.2.2.2.2.1 d.2.2.2.2.2.2.2.2.2.2.2.2.2.2.2.2.2.2.2.1 d.2.2.2.2.2.2.2.2.2.2.2.2.2.2.2.2.2.2.2.2.1) (fun x=>(x.1,(wO x.2 ()))) (fun d=>(d.1,(fj d)))
theorem yRb:zD prog yRl:=fX f85 n0 1 (e5 wK XZ X0 X1 gz) loops0
def X2:zF:=sp [sP 0 0,sO 7 2,sP 8 3,(40,.c (.dat true (.sl .i))),sI 41,sI 42] [oB K9,oA vF,oA .i,oB X3,oA qY,.mat,oA .i,.mat]
def X4:zF:=sp [sP 0 0,sO 7 2,sP 8 3] [oB K9,oA vF,oA .i,oB X3,oA qY,.mat,oA .i,.mat]
def X5:zF:=sp [sP 0 0,sI 6] [oB K9,oA vF]
def X6 (f:La)(d:X2.den):=f d.1.2.2.2.1.1 d.1.2.2.2.2.1.1 d.1.2.2.2.2.2.1.1 (jU d.2.1) d.2.2.1 d.2.2.2.1 d.2.2.2.2.2.1 d.2.2.2.2.2.2.1 d.2.2.2.2.2.2.2.1 d.2.2.2.2.2.2.2.2.1
def Lb:qB:=⟨[X2],[(.exit 0,X4),(.ret,X5)],Lc,fun k d=>X6 (Ld k k) d,fun b x _ K=>match x with|.inl x=>K (.exit 0) (zL b X4 (((),(),(),()),((yB x.1 ()),x.2.1,x.2.2.1,(),x.2.2.2.1,x.2.2.2.2.1,x.2.2.2.2.2.1,x.2.2.2.2.2.2,())))|.inr x=>K .ret (zL b X5 (((),(x.1,()),()),((yB x.2.1 ()),x.2.2,())))⟩
def X7:qA:=⟨[],[(6,Lb)],[],true⟩
theorem ySi:zY prog 1000 1 81 (zV (zW f86) 0) Lb:=lp (A:=X7) Lb (fun d=>match d with|.inl d=>.inl ((jU d.2.1),d.2.2.1,d.2.2.2.1,d.2.2.2.2.2.1,d.2.2.2.2.2.2.1,d.2.2.2.2.2.2.2.1,d.2.2.2.2.2.2.2.2.1)|.inr d=>.inr (d.1.2.1.1,(jU d.2.1),d.2.2.1)) X6 Ld X8 (e5 tD wK tE gz mT) loops0
def yPx:=vL 86 [.ptr true mX,.c (.p .i),.c (.p .i)] (.c .i) [dR] 0 (fun k d=>X9 k (wY d) d.2.2.2.2.2.2.2.2.2.2.2.2.2.2.2.2.2.2.1 d.2.2.2.2.2.2.2.2.2.2.2.2.2.2.2.2.2.2.2.1) (fun x=>(x.1,(wO x.2 ()))) (fun d=>(d.1,(fj d)))
theorem yBb:zD prog yPx:=fX f86 X7 1 (e5 tD wK tE gz mT) (qD ySi)
def yLi:=vL 33 [.ptr true mX,.agg yR] (.c .i) [dR] 0 (fun k d=>Ya k (wY d) (tC d)) (fun x=>(x.1,(wO x.2 ()))) (fun d=>(d.1,(fj d)))
theorem yFk:zD prog yLi:=fX f33 n0 1 (e6 yLe yFw yS7 yB9 yRb yBb) loops0
def yC5:=zJ 89 [.c .i,.c .i,.c (.dat false .i)] (.agg [.i,.i,.i,.i,.i,.i,.i,.i]) (fun k d=>ye k d.1 d.2.1 d.2.2.1) (fun x=>(Km x ())) (fun d=>(CE d))
theorem mZ:zD prog yC5:=fA f89 ⟨[],[],[],false⟩ e0 loops0
def Yb:zF:=⟨[sP 1 0,sP 2 1,sO 4 2,(10,.c (.dat true zH)),sI 11,sI 12],[oB tF,oB j3,oA vF],[(4,none,vF,false)]⟩
def Yc:zF:=sp [sP 1 0,sP 2 1,sO 4 2] [oB tF,oB j3,oA vF]
def Yd (f:Le)(d:Yb.den):=(jz (f d.1.2.2.2.1.1 d.1.2.2.2.2.1.1 d.1.2.2.2.2.2.1.1) d.2.1) d.2.2.1.1 d.2.2.1.2.1 d.2.2.1.2.2.1 d.2.2.2.1
def CP:qB:=⟨[Yb],[(.exit 0,Yc)],Lf,fun k d=>Yd (CQ k k) d,fun b x _ K=>K (.exit 0) (zL b Yc (((),(),(),()),((m1 x ()),(x.2.2.2.2.2.2.2.2.2.2.2.1,x.2.2.2.2.2.2.2.2.2.2.2.2.1,x.2.2.2.2.2.2.2.2.2.2.2.2.2.1,()),x.2.2.2.2.2.2.2.2.2.2.2.2.2.2,())))⟩
def Ye:zF:=sp [sP 1 0,sP 2 1,sO 4 2,(28,.c (.dat true qY)),sI 29,sI 30] [oB tF,oB j3,oA vF]
def Yg (f:Lg)(d:Ye.den):=(jz (f d.1.2.2.2.1.1 d.1.2.2.2.2.1.1 d.1.2.2.2.2.2.1.1) d.2.1) d.2.2.1.1 d.2.2.1.2.1 d.2.2.1.2.2.1 d.2.2.2.1
def CR:qB:=⟨[Ye],[(.exit 2,Yc)],Lf,fun k d=>Yg (CT k k) d,fun b x _ K=>K (.exit 2) (zL b Yc (((),(),(),()),((m1 x ()),(x.2.2.2.2.2.2.2.2.2.2.2.1,x.2.2.2.2.2.2.2.2.2.2.2.2.1,x.2.2.2.2.2.2.2.2.2.2.2.2.2.1,()),x.2.2.2.2.2.2.2.2.2.2.2.2.2.2,())))⟩
def Li:qA:=⟨[],[(3,CP),(8,CR)],[],false⟩
theorem yPh:zY prog 1000 0 48 (zV (zW f87) 0) CP:=lp (A:=Li) CP (fun d=>(m1 d.2.1 (d.2.2.1.1,d.2.2.1.2.1,d.2.2.1.2.2.1,d.2.2.2.1))) Yd CQ Yh (e1 mZ) loops0
theorem yKv:zY prog 1000 0 48 (zV (zW f87) 1) CR:=lp (A:=Li) CR (fun d=>(m1 d.2.1 (d.2.2.1.1,d.2.2.1.2.1,d.2.2.1.2.2.1,d.2.2.2.1))) Yg CT Yi (e1 mZ) loops0
def yC0:=zJ 87 [.agg yf] (.tup [(true,[.i,.fro qY,.fro (.sl .i),.fro .i,.fro (.sl .i),.fro .i,.fro (.sl .i),.own zH,.fro .i,.i,.bool]),(false,[.own vF])]) (fun k d=>(jz (Yj k) d)) (fun x=>(yg x ())) (fun d=>(yh d))
theorem Yk:zD prog yC0:=fA f87 Li (e1 mZ) (lY (n:=2) (by kernel_rfl) fun i hi=>match i,hi with|0,_=>⟨CP,by kernel_rfl,yPh⟩|1,_=>⟨CR,by kernel_rfl,yKv⟩|i+2,hi=>absurd hi (by omega))
def yLm:=zJ 88 [.agg yR,.c .i] (.c .bool) (fun k d=>(jy (Yl k) d)) (fun x=>(x,())) (fun d=>d.1)
theorem Ym:zD prog yLm:=fA f88 ⟨[],[],[],false⟩ e0 loops0
def yRh:=zJ 90 [.agg jX,.c .i] (.c .bool) (fun k d=>(j0 (Yn k) d)) (fun x=>(x,())) (fun d=>d.1)
theorem Yo:zD prog yRh:=fA f90 ⟨[],[],[],false⟩ e0 loops0
def yH3:=zJ 210 [.agg yR,.c .i] (.c .bool) (fun k d=>(jy (Yp k) d)) (fun x=>(x,())) (fun d=>d.1)
theorem yFf:zD prog yH3:=fA f210 ⟨[],[],[],false⟩ e0 loops0
def yJb:=zJ 209 [.agg yR,.ptr [.i]] (.c .bool) (fun k d=>(jy (Yq k) d)) (fun x=>(x,())) (fun d=>d.1)
theorem Yr:zD prog yJb:=fA f209 ⟨[],[],[],false⟩ (e1 yFf) loops0
def Ys:zF:=⟨[(1,.c (.lit (.fn 209 [1001000]))),sO 5 1,(8,.c (.dat false zH)),sI 9,sI 10],[.robox [.i],oA zH],[(5,none,zH,false)]⟩
def Yu (f:Ku)(d:Ys.den):=f d.1.2.2.1.1 d.1.2.2.2.1.1 d.1.2.2.2.2.1.1 d.2.1.1 d.2.2.1
def Lk:qB:=⟨[Ys],[(.exit 0,Xg)],Kw,fun k d=>Yu (CU k k) d,fun b x _ K=>K (.exit 0) (zL b Xg (((),()),(x,())))⟩
def Yv:qA:=⟨[],[(3,Lk)],[],false⟩
theorem yMa:zY prog 1000 0 23 (zV (zW f122) 0) Lk:=lp (A:=Yv) Lk (fun d=>d.2.1) Yu CU Yw (e1 Yr) loops0
def yK2:=zJ 122 [.c (.dat false zH),.fn 209 [[.i]]] (.c (.own zH)) (fun k d=>Yx k d.1 d.2.1) (fun x=>(x,())) (fun d=>d.1)
theorem yM8:zD prog yK2:=fA f122 Yv (e1 Yr) (qD yMa)
def yPa:=zJ 182 [.c (.dat false zH),.c .i] (.c (.own zH)) (fun k d=>CV k d.1 d.2.1) (fun x=>(x,())) (fun d=>d.1)
theorem pw:zD prog yPa:=fA f182 ⟨[],[],[],false⟩ (e1 yM8) loops0
def yF4:=zJ 237 [.agg yR,.ptr yR] (.c .bool) (fun k d=>(tx (Yy k) d)) (fun x=>(x,())) (fun d=>d.1)
theorem Yz:zD prog yF4:=fA f237 ⟨[],[],[],false⟩ e0 loops0
def YA:zF:=sp [(0,.c (.dat false zH)),(1,.c (.lit (.fn 237 [1001000]))),sI 7,sI 8] [.robox fi]
def YD (f:Lm)(d:YA.den):=(mV (f d.1.1.1 d.1.2.2.1.1 d.1.2.2.2.1.1) d.2.1)
def Ln:qB:=⟨[YA],[(.exit 0,SN),(.ret,SO)],(Unit⊕Int),fun k d=>YD (CW k k) d,fun b x _ K=>match x with|.inl x=>K (.exit 0) (zL b SN ((),()))|.inr x=>K .ret (zL b SO (((x,()),()),()))⟩
def YE:qA:=⟨[],[(2,Ln)],[],false⟩
theorem yIc:zY prog 1000 0 19 (zV (zW f93) 0) Ln:=lp (A:=YE) Ln (fun d=>match d with|.inl d=>.inl ()|.inr d=>.inr d.1.1.1) YD CW YF (e1 Yz) loops0
def yIj:=zJ 93 [.c (.dat false zH),.fn 237 [yR]] (.c .i) (fun k d=>(jy (YG k) d)) (fun x=>(x,())) (fun d=>d.1)
theorem yTo:zD prog yIj:=fA f93 YE (e1 Yz) (qD yIc)
def yLy:=zJ 64 [.c (.dat false zH),.fn 237 [yR]] (.c .bool) (fun k d=>(jy (YH k) d)) (fun x=>(x,())) (fun d=>d.1)
theorem yEa:zD prog yLy:=fA f64 ⟨[],[],[],false⟩ (e1 yTo) loops0
def yKn:=vL 236 [.agg yR,.ptr true [.map],.ptr false [.p (.dat false zH)]] (.c .bool) [[.map]] 0 (fun k d=>(Lp (YI k) d)) (fun x=>(x.1,x.2,())) (fun d=>(d.1,d.2.1))
theorem YJ:zD prog yKn:=fX f236 ⟨[],[],[],false⟩ 3 (e1 yEa) loops0
def YK:zF:=⟨[(1,.c (.lit (.fn 236 [1001000,1001002]))),sO 5 3,(8,.c (.dat false zH)),sI 9,sI 10],[oB [.lit (.map 1001001)],.imap,.robox [.dat false zH],oA zH],[(5,none,zH,false)]⟩
def YL:zF:=sp [(1,.c (.lit (.fn 236 [1001000,1001002]))),sO 5 3] [oB [.lit (.map 1001001)],.imap,.robox [.dat false zH],oA zH]
def YM (f:Lq)(d:YK.den):=f d.1.2.2.1.1 d.1.2.2.2.1.1 d.1.2.2.2.2.1.1 d.2.2.1 d.2.2.2.1.1 d.2.2.2.2.1
def Lr:qB:=⟨[YK],[(.exit 0,YL)],Ls,fun k d=>YM (CX k k) d,fun b x _ K=>K (.exit 0) (zL b YL (((),(),()),((),x.1,(x.2.1,()),x.2.2,())))⟩
def YN:qA:=⟨[],[(3,Lr)],[],false⟩
theorem yD0:zY prog 1000 2 23 (zV (zW f122) 0) Lr:=lp (A:=YN) Lr (fun d=>(d.2.2.1,d.2.2.2.1.1,d.2.2.2.2.1)) YM CX YO (e1 YJ) loops0
def yMk:=vL 122 [.c (.p (.dat false zH)),.fn 236 [(true,[.map]),(false,[.p (.dat false zH)])]] (.c (.own zH)) [[.map]] 0 (fun k d=>YP k d.1 d.2.1 d.2.2.1) (fun x=>(x.1,x.2,())) (fun d=>(d.1,d.2.1))
theorem yMb:zD prog yMk:=fX f122 YN 2 (e1 YJ) (qD yD0)
def yG4:=zJ 224 [.c (.dat false zH),.c .i] (.c (.own zH)) (fun k d=>Lt k d.1 d.2.1) (fun x=>(x,())) (fun d=>d.1)
theorem yi:zD prog yG4:=fA f224 ⟨[],[],[],false⟩ (e2 pw yMb) loops0
def yRf:=zJ 238 [.agg yR,.ptr jD] (.c .bool) (fun k d=>(jz (YQ k) d)) (fun x=>(x,())) (fun d=>d.1)
theorem YR:zD prog yRf:=fA f238 ⟨[],[],[],false⟩ (e1 I7) loops0
def YS:zF:=sp [(0,.c (.dat false zH)),(1,.c (.lit (.fn 238 [1001000]))),sI 7,sI 8] [.robox fh]
def YV (f:Lu)(d:YS.den):=(vQ (f d.1.1.1 d.1.2.2.1.1 d.1.2.2.2.1.1) d.2.1)
def Lv:qB:=⟨[YS],[(.exit 0,SN),(.ret,SO)],(Unit⊕Int),fun k d=>YV (CY k k) d,fun b x _ K=>match x with|.inl x=>K (.exit 0) (zL b SN ((),()))|.inr x=>K .ret (zL b SO (((x,()),()),()))⟩
def YW:qA:=⟨[],[(2,Lv)],[],false⟩
theorem yG3:zY prog 1000 0 19 (zV (zW f93) 0) Lv:=lp (A:=YW) Lv (fun d=>match d with|.inl d=>.inl ()|.inr d=>.inr d.1.1.1) YV CY YX (e1 YR) loops0
def yQr:=zJ 93 [.c (.dat false zH),.fn 238 [jD]] (.c .i) (fun k d=>(j4 (YY k) d)) (fun x=>(x,())) (fun d=>d.1)
theorem ySn:zD prog yQr:=fA f93 YW (e1 YR) (qD yG3)
def yCs:=zJ 64 [.c (.dat false zH),.fn 238 [jD]] (.c .bool) (fun k d=>(j4 (YZ k) d)) (fun x=>(x,())) (fun d=>d.1)
theorem yLg:zD prog yCs:=fA f64 ⟨[],[],[],false⟩ (e1 ySn) loops0
def Y0:zF:=sp [sP 4 0,sP 5 1,(15,.c (.dat false zH)),sI 16,sI 17] [oB [.lit .nsl,.lit .nsl,.lit .nsl],oB Lw,oA .i,oA .i,.mat]
def Y1:zF:=sp [sP 4 0,sP 5 1] [oB [.lit .nsl,.lit .nsl,.lit .nsl],oB Lw,oA .i,oA .i,.mat]
def Y2 (f:Lx)(d:Y0.den):=f d.1.2.2.1.1 d.1.2.2.2.1.1 d.1.2.2.2.2.1.1 d.2.2.2.1 d.2.2.2.2.1 d.2.2.2.2.2.1
def Ly:qB:=⟨[Y0],[(.exit 0,Y1)],LA,fun k d=>Y2 (CZ k k) d,fun b x _ K=>K (.exit 0) (zL b Y1 (((),(),()),((),(),x.1,x.2.1,x.2.2,())))⟩
def Y3:qA:=⟨[],[(3,Ly)],[],false⟩
theorem yNk:zY prog 1000 0 84 (zV (zW f226) 0) Ly:=lp (A:=Y3) Ly (fun d=>(d.2.2.2.1,d.2.2.2.2.1,d.2.2.2.2.2.1)) Y2 CZ Y4 (e2 pt xW) loops0
def yJe:=zJ 226 [.c .i,.c (.dat false zH)] (.agg [.own .i,.own .i,.mat]) (fun k d=>Y5 k d.1 d.2.1) (fun x=>(x.1,x.2.1,x.2.2,())) (fun d=>(d.1,d.2.1,d.2.2.1))
theorem Y6:zD prog yJe:=fA f226 Y3 (e2 pt xW) (qD yNk)
def yNl:=zJ 227 [.agg yR,.ptr [.i]] (.c .bool) (fun k d=>(jy (Y7 k) d)) (fun x=>(x,())) (fun d=>d.1)
theorem Y8:zD prog yNl:=fA f227 ⟨[],[],[],false⟩ e0 loops0
def Y9:zF:=sp [(0,.c (.dat false zH)),(1,.c (.lit (.fn 227 [1001000]))),sI 7,sI 8] [.robox [.i]]
def Zc (f:IV)(d:Y9.den):=f d.1.1.1 d.1.2.2.1.1 d.1.2.2.2.1.1 d.2.1.1
def LC:qB:=⟨[Y9],[(.exit 0,SN),(.ret,SO)],(Unit⊕Int),fun k d=>Zc (C3 k k) d,fun b x _ K=>match x with|.inl x=>K (.exit 0) (zL b SN ((),()))|.inr x=>K .ret (zL b SO (((x,()),()),()))⟩
def Zd:qA:=⟨[],[(2,LC)],[],false⟩
theorem yRa:zY prog 1000 0 19 (zV (zW f93) 0) LC:=lp (A:=Zd) LC (fun d=>match d with|.inl d=>.inl ()|.inr d=>.inr d.1.1.1) Zc C3 Ze (e1 Y8) loops0
def yGz:=zJ 93 [.c (.dat false zH),.fn 227 [[.i]]] (.c .i) (fun k d=>Zf k d.1 d.2.1) (fun x=>(x,())) (fun d=>d.1)
theorem yP2:zD prog yGz:=fA f93 Zd (e1 Y8) (qD yRa)
def yP3:=zJ 64 [.c (.dat false zH),.fn 227 [[.i]]] (.c .bool) (fun k d=>Zg k d.1 d.2.1) (fun x=>(x,())) (fun d=>d.1)
theorem Zh:zD prog yP3:=fA f64 ⟨[],[],[],false⟩ (e1 yP2) loops0
def Zi:zF:=sp [sI 5,(12,.c (.dat false .i)),sI 13,sI 14] []
def Zj:zF:=sp [sI 5] []
def Zk (f:Int→AC→Int→Int→Option Int)(d:Zi.den):=f d.1.1.1 d.1.2.1.1 d.1.2.2.1.1 d.1.2.2.2.1.1
def LD:qB:=⟨[Zi],[(.exit 0,Zj)],Int,fun k d=>Zk (C4 k k) d,fun b x _ K=>K (.exit 0) (zL b Zj (((x,()),()),()))⟩
def Zl:qA:=⟨[],[(3,LD)],[],false⟩
theorem yCi:zY prog 1000 0 23 (zV (zW f239) 0) LD:=lp (A:=Zl) LD (fun d=>d.1.1.1) Zk C4 Zm e0 loops0
def yMo:=zJ 239 [.agg jD,.c .i] (.c .i) (fun k d=>(j4 (Zn k) d)) (fun x=>(x,())) (fun d=>d.1)
theorem Zo:zD prog yMo:=fA f239 Zl e0 (qD yCi)
def yOl:=zJ 240 [.c .i,.c .i] (.c .bool) (fun k d=>C5 k d.1 d.2.1) (fun x=>(x,())) (fun d=>d.1)
theorem LF:zD prog yOl:=fA f240 ⟨[],[],[],false⟩ e0 loops0
def ySs:=zJ 241 [.agg yR,.ptr [.i],.ptr iy,.ptr C6,.ptr [.i],.ptr jD] (.c .bool) (fun k d=>(yJw (Zp k) d)) (fun x=>(x,())) (fun d=>d.1)
theorem Zq:zD prog ySs:=fA f241 ⟨[],[],[],false⟩ (e2 CO LF) loops0
def Zr:zF:=sp [(0,.c (.dat false zH)),(1,.c (.lit (.fn 241 [1001000,1001001,1001002,1001003,1001004]))),sI 7,sI 8] [.robox [.i],.robox [.i,.i,.i],.robox LG,.robox [.i],.robox fh]
def Zu (f:LH)(d:Zr.den):=(vQ (f d.1.1.1 d.1.2.2.1.1 d.1.2.2.2.1.1 d.2.1.1 d.2.2.1.1 d.2.2.1.2.1 d.2.2.1.2.2.1 d.2.2.2.1.1 d.2.2.2.1.2.1 d.2.2.2.1.2.2.1 d.2.2.2.2.1.1) d.2.2.2.2.2.1)
def LI:qB:=⟨[Zr],[(.exit 0,SN),(.ret,SO)],(Unit⊕Int),fun k d=>Zu (C7 k k) d,fun b x _ K=>match x with|.inl x=>K (.exit 0) (zL b SN ((),()))|.inr x=>K .ret (zL b SO (((x,()),()),()))⟩
def Zv:qA:=⟨[],[(2,LI)],[],false⟩
theorem yIv:zY prog 1000 0 19 (zV (zW f93) 0) LI:=lp (A:=Zv) LI (fun d=>match d with|.inl d=>.inl ()|.inr d=>.inr d.1.1.1) Zu C7 Zw (e1 Zq) loops0
def yBs:=zJ 93 [.c (.dat false zH),.fn 241 [[.i],iy,C6,[.i],jD]] (.c .i) (fun k d=>(LJ (Zx k) d)) (fun x=>(x,())) (fun d=>d.1)
theorem yFa:zD prog yBs:=fA f93 Zv (e1 Zq) (qD yIv)
def yLd:=zJ 64 [.c (.dat false zH),.fn 241 [[.i],iy,C6,[.i],jD]] (.c .bool) (fun k d=>(LJ (Zy k) d)) (fun x=>(x,())) (fun d=>d.1)
theorem Zz:zD prog yLd:=fA f64 ⟨[],[],[],false⟩ (e1 yFa) loops0
def ZA:zF:=sp [(3,.c (.dat false zH)),sP 4 0,sP 5 1,sP 6 2,sP 9 3,sP 10 4,sI 11,(39,.c (.dat false .i)),sI 40,sI 41] [oB LG,oB fh,oB [.i],oB [.i,.i,.i],oB [.i]]
def ZB:zF:=sp [(3,.c (.dat false zH)),sP 4 0,sP 5 1,sP 6 2,sP 9 3,sP 10 4,sI 11] [oB LG,oB fh,oB [.i],oB [.i,.i,.i],oB [.i]]
def ZC (f:LK)(d:ZA.den):=(vQ (f d.1.1.1 d.1.2.2.2.2.2.2.1.1 d.1.2.2.2.2.2.2.2.1.1 d.1.2.2.2.2.2.2.2.2.1.1 d.1.2.2.2.2.2.2.2.2.2.1.1 d.2.1.1 d.2.1.2.1 d.2.1.2.2.1) d.2.2.1) d.2.2.2.1.1 d.2.2.2.2.1.1 d.2.2.2.2.1.2.1 d.2.2.2.2.1.2.2.1 d.2.2.2.2.2.1.1
def LL:qB:=⟨[ZA],[(.exit 0,ZB)],LM,fun k d=>ZC (C8 k k) d,fun b x _ K=>K (.exit 0) (zL b ZB (((x.1,()),(),(),(),(),(),(x.2.1,()),()),((x.2.2.1,x.2.2.2.1,x.2.2.2.2.1,()),(yMz x ()),(x.2.2.2.2.2.2.2.2.2.1,()),(x.2.2.2.2.2.2.2.2.2.2.1,x.2.2.2.2.2.2.2.2.2.2.2.1,x.2.2.2.2.2.2.2.2.2.2.2.2.1,()),(x.2.2.2.2.2.2.2.2.2.2.2.2.2,()),())))⟩
def ZD:qA:=⟨[],[(7,LL)],[],false⟩
theorem yIm:zY prog 1000 0 59 (zV (zW f228) 0) LL:=lp (A:=ZD) LL (fun d=>(d.1.1.1,d.1.2.2.2.2.2.2.1.1,d.2.1.1,d.2.1.2.1,d.2.1.2.2.1,(vT d.2.2.1 (d.2.2.2.1.1,d.2.2.2.2.1.1,d.2.2.2.2.1.2.1,d.2.2.2.2.1.2.2.1,d.2.2.2.2.2.1.1)))) ZC C8 ZE (e3 Zo LF Zz) loops0
def yBn:=zJ 228 [.agg C6,.agg jD,.c .i,.c (.dat false zH)] (.c .bool) (fun k d=>(Lp (ZF k) d)) (fun x=>(x,())) (fun d=>d.1)
theorem ZG:zD prog yBn:=fA f228 ZD (e3 Zo LF Zz) (qD yIm)
def ZH:zF:=⟨[(1,.c (.dat false zH)),sP 2 0,sP 5 1,sO 6 5,sI 16,sI 17],[oB fh,oB Lw,oA .i,oA .i,.mat,oA .i],[(6,none,.i,false)]⟩
def ZJ (f:LN)(d:ZH.den):=(vQ (f d.1.1.1 d.1.2.2.2.2.1.1 d.1.2.2.2.2.2.1.1) d.2.1) d.2.2.2.1 d.2.2.2.2.1 d.2.2.2.2.2.1 d.2.2.2.2.2.2.1
def LO:qB:=⟨[ZH],[(.exit 0,Vc)],AC,fun k d=>ZJ (C9 k k) d,fun b x _ K=>K (.exit 0) (zL b Vc (((),()),(x,())))⟩
def ZK:qA:=⟨[],[(4,LO)],[],false⟩
theorem yHw:zY prog 1000 0 37 (zV (zW f206) 0) LO:=lp (A:=ZK) LO (fun d=>d.2.1) ZJ C9 ZL (e3 Y6 Zh ZG) loops0
def yDx:=zJ 206 [.agg jD,.c (.dat false zH)] (.c (.own .i)) (fun k d=>(j4 (LP k) d)) (fun x=>(x,())) (fun d=>d.1)
theorem yj:zD prog yDx:=fA f206 ZK (e3 Y6 Zh ZG) (qD yHw)
def yN1:=zJ 225 [.agg jD,.c (.dat false zH)] (.c .bool) (fun k d=>(j4 (LQ k) d)) (fun x=>(x,())) (fun d=>d.1)
theorem yk:zD prog yN1:=fA f225 ⟨[],[],[],false⟩ (e2 yLg yj) loops0
def yTk:=zJ 211 [.agg yR,.ptr jD] (.c .bool) (fun k d=>(jz (G8 k) d)) (fun x=>(x,())) (fun d=>d.1)
theorem ZM:zD prog yTk:=fA f211 ⟨[],[],[],false⟩ (e1 I7) loops0
def ZN:zF:=sp [(0,.c (.dat false zH)),(1,.c (.lit (.fn 211 [1001000]))),sI 7,sI 8] [.robox fh]
def ZQ (f:Lu)(d:ZN.den):=(vQ (f d.1.1.1 d.1.2.2.1.1 d.1.2.2.2.1.1) d.2.1)
def LS:qB:=⟨[ZN],[(.exit 0,SN),(.ret,SO)],(Unit⊕Int),fun k d=>ZQ (w6 k k) d,fun b x _ K=>match x with|.inl x=>K (.exit 0) (zL b SN ((),()))|.inr x=>K .ret (zL b SO (((x,()),()),()))⟩
def ZR:qA:=⟨[],[(2,LS)],[],false⟩
theorem yIy:zY prog 1000 0 19 (zV (zW f93) 0) LS:=lp (A:=ZR) LS (fun d=>match d with|.inl d=>.inl ()|.inr d=>.inr d.1.1.1) ZQ w6 sr (e1 ZM) loops0
def yK5:=zJ 93 [.c (.dat false zH),.fn 211 [jD]] (.c .i) (fun k d=>(j4 (G9 k) d)) (fun x=>(x,())) (fun d=>d.1)
theorem yIh:zD prog yK5:=fA f93 ZR (e1 ZM) (qD yIy)
def yPb:=zJ 64 [.c (.dat false zH),.fn 211 [jD]] (.c .bool) (fun k d=>(j4 (Bl k) d)) (fun x=>(x,())) (fun d=>d.1)
theorem ZS:zD prog yPb:=fA f64 ⟨[],[],[],false⟩ (e1 yIh) loops0
def ZT:zF:=sp [sP 2 0,sP 4 1,sP 7 2,(24,.c (.dat false zH)),sI 25,sI 26] [oB wV,oB Da,oB Db,oA qY,.mat,oA .i,.mat]
def ZU:zF:=sp [sP 2 0,sP 4 1,sP 7 2] [oB wV,oB Da,oB Db,oA qY,.mat,oA .i,.mat]
def ZV (f:LU)(d:ZT.den):=(vQ (f d.1.2.2.2.1.1 d.1.2.2.2.2.1.1 d.1.2.2.2.2.2.1.1) d.2.1) d.2.2.2.2.1 d.2.2.2.2.2.1 d.2.2.2.2.2.2.1 d.2.2.2.2.2.2.2.1
def LV:qB:=⟨[ZT],[(.exit 0,ZU)],LW,fun k d=>ZV (sv k k) d,fun b x _ K=>K (.exit 0) (zL b ZU (((),(),(),()),((vT x ()),(),(),x.2.2.2.2.1,x.2.2.2.2.2.1,x.2.2.2.2.2.2.1,x.2.2.2.2.2.2.2,())))⟩
def ZW:qA:=⟨[],[(6,LV)],[],false⟩
theorem yIu:zY prog 1000 0 104 (zV (zW f183) 0) LV:=lp (A:=ZW) LV (fun d=>(vT d.2.1 (d.2.2.2.2.1,d.2.2.2.2.2.1,d.2.2.2.2.2.2.1,d.2.2.2.2.2.2.2.1))) ZV sv sw (e4 ZS gz CO Ck) loops0
def yFt:=zJ 183 [.agg m2,.c (.dat false zH)] (.tup [(true,px),(false,vM)]) (fun k d=>(j4 (mo k) d)) (fun x=>(gw x ())) (fun d=>(yE d))
theorem py:zD prog yFt:=fA f183 ZW (e4 ZS gz CO Ck) (qD yIu)
def ZX:zF:=sp [sP 3 0,sP 6 1,sP 7 2,sO 15 3,sI 16,sI 17] [oB wV,oB fi,oB Da,oA zH]
def ZY:zF:=sp [sP 3 0,sP 6 1,sP 7 2] [oB wV,oB fi,oB Da]
def ZZ:zF:=sp [sP 6 0,sP 7 1,(8,.c .bool)] [oB fi,oB wV]
def Z0 (f:LX)(d:ZX.den):=(mV (vQ (f d.1.2.2.2.2.1.1 d.1.2.2.2.2.2.1.1) d.2.1) d.2.2.1) d.2.2.2.2.1
def LY:qB:=⟨[ZX],[(.exit 0,ZY),(.ret,ZZ)],LZ,fun k d=>Z0 (Dc k k) d,fun b x _ K=>match x with|.inl x=>K (.exit 0) (zL b ZY (((),(),(),()),((vT x ()),(ySt x ()),(),())))|.inr x=>K .ret (zL b ZZ (((),(),(x.1,()),()),((yM6 x ()),(yGc x ()),())))⟩
def Z1:qA:=⟨[],[(2,LY)],[],false⟩
theorem ySw:zY prog 1000 0 40 (zV (zW f204) 0) LY:=lp (A:=Z1) LY (fun d=>match d with|.inl d=>.inl (vT d.2.1 (jF d.2.2.1))|.inr d=>.inr (d.1.2.2.1.1,(tB d.2.1 (tA d.2.2.1)))) Z0 Dc Z2 (e3 yi yk py) loops0
def yJg:=zJ 204 [.agg m2,.c (.dat true zH),.c .i] (.tup [(true,xX),(true,px),(false,[.bool])]) (fun k d=>(j0 (Z3 k) d)) (fun x=>(yg x ())) (fun d=>(yh d))
theorem Z4:zD prog yJg:=fA f204 Z1 (e3 yi yk py) (qD ySw)
def Z5:zF:=⟨[sI 2,sP 6 0,(7,.c (.dat true zH)),sO 8 1],[oB wV,oA zH],[(8,none,zH,false)]⟩
def Z6:zF:=sp [sP 6 0,(7,.c (.dat true zH)),sO 8 1] [oB wV,oA zH]
def Z7 (f:L1)(d:Z5.den):=(vQ (f d.1.1.1 d.1.2.2.1.1) d.2.1) d.2.2.1
def L2:qB:=⟨[Z5],[(.ret,Z6)],L3,fun k d=>Z7 (Dd k k) d,fun b x _ K=>K .ret (zL b Z6 (((),(x.1,()),(),()),((gA x ()),x.2.2.2.2.2,())))⟩
def Z8:qA:=⟨[],[(2,L2)],[],false⟩
theorem yQv:zY prog 1000 0 40 (zV (zW f178) 0) L2:=lp (A:=Z8) L2 (fun d=>(d.1.2.1.1,(vT d.2.1 d.2.2.1))) Z7 Dd Z9 (e2 Z4 iA) loops0
def yLb:=zJ 178 [.agg m2,.c (.dat true zH),.c .i] (.tup [(true,px),(false,[.fro zH]),(false,[.own zH])]) (fun k d=>(j0 (qF2 k) d)) (fun x=>(m3 x ())) (fun d=>(pz d))
theorem qT4:zD prog yLb:=fA f178 Z8 (e2 Z4 iA) (qD yQv)
def qGv:zF:=sp [sP 3 0,sP 6 1,sO 8 2,sP 10 3,sO 18 2,sI 19,sI 20,sO 24 2,sI 25,sI 26] [oB wV,oB De,oA zH,oB fi]
def qYn:zF:=sp [sP 3 0,sP 6 1,sO 8 2,sO 18 2,sI 19,sI 20] [oB wV,oB De,oA zH]
def qKu:zF:=sp [sP 6 0,(7,.c .bool)] [oB qVh]
def qL2 (f:L4)(d:qGv.den):=(mV ((tx (vQ (f d.1.2.2.2.2.2.1.1 d.1.2.2.2.2.2.2.1.1 d.1.2.2.2.2.2.2.2.2.1.1 d.1.2.2.2.2.2.2.2.2.2.1.1) d.2.1) d.2.2.1) d.2.2.2.1) d.2.2.2.2.1)
def L5:qB:=⟨[qGv],[(.exit 2,qYn),(.ret,qKu)],L6,fun k d=>qL2 (Df k k) d,fun b x _ K=>match x with|.inl x=>K (.exit 2) (zL b qYn (((),(),(),(),(x.1,()),(x.2.1,()),()),((Ky x ()),(ySj x ()),x.2.2.2.2.2.2.2.2.2.2.2.2.2.2.2.2.2.2.2.2,())))|.inr x=>K .ret (zL b qKu (((),(x.1,()),()),((L7 x ()),())))⟩
def qWu:zF:=sp [sP 6 0] [oB De]
def qQj (f:L8)(d:qYn.den):=(tx (vQ (f d.1.2.2.2.2.1.1 d.1.2.2.2.2.2.1.1) d.2.1) d.2.2.1) d.2.2.2.1
def L9:qB:=⟨[qYn],[(.exit 0,qWu),(.ret,qKu)],Ma,fun k d=>qQj (Dg k k) d,fun b x _ K=>match x with|.inl x=>K (.exit 0) (zL b qWu (((),()),((qVk x ()),())))|.inr x=>K .ret (zL b qKu (((),(x.1,()),()),((L7 x ()),())))⟩
def Mb:qA:=⟨[],[(6,L5),(3,L9)],[],false⟩
theorem yOs:zY prog 1000 0 74 (zV (zV (zW f205) 0) 0) L5:=lp (A:=Mb) L5 (fun d=>match d with|.inl d=>.inl (d.1.2.2.2.2.1.1,d.1.2.2.2.2.2.1.1,(vT d.2.1 (Md d.2.2.1 d.2.2.2.1)))|.inr d=>.inr (d.1.2.1.1,(wY d.2.1))) qL2 Df qMz (e3 yi yk py) loops0
theorem yS3:zY prog 1000 0 74 (zV (zW f205) 0) L9:=lp (A:=Mb) L9 (fun d=>match d with|.inl d=>.inl (qWn d.2.1)|.inr d=>.inr (d.1.2.1.1,(wY d.2.1))) qQj Dg qV7 (e3 yi yk py) (qD yOs)
def yNc:=zJ 205 [.agg m2,.c (.dat true zH),.c .i] (.tup [(true,[.i,.i,.i,.i,.i,.i,.i,.i,.i,.i,.i,.i,.i,.i,.fro qY,.fro (.sl .i),.fro .i,.fro (.sl .i)]),(false,[.bool])]) (fun k d=>(j0 (qFz k) d)) (fun x=>(yKt x ())) (fun d=>(yPk d))
theorem Me:zD prog yNc:=fA f205 Mb (e3 yi yk py) (qD yS3)
def qWi:zF:=⟨[sI 2,sP 6 0,(7,.c (.dat true zH)),sO 8 1,sO 33 2,sI 34,sI 35],[oB wV,oA zH,oA zH],[(8,none,zH,false)]⟩
def qVx:zF:=sp [sI 2,sP 6 0,(7,.c (.dat true zH)),sO 8 1] [oB wV,oA zH]
def qY6 (f:Mh)(d:qWi.den):=(vQ (f d.1.1.1 d.1.2.2.1.1 d.1.2.2.2.2.2.1.1 d.1.2.2.2.2.2.2.1.1) d.2.1) d.2.2.1 d.2.2.2.1
def Mi:qB:=⟨[qWi],[(.exit 2,qVx)],Mj,fun k d=>qY6 (Dh k k) d,fun b x _ K=>K (.exit 2) (zL b qVx (((x.1,()),(),(x.2.1,()),(),()),((Ky x ()),x.2.2.2.2.2.2,())))⟩
def qV0 (f:L1)(d:Z5.den):=(vQ (f d.1.1.1 d.1.2.2.1.1) d.2.1) d.2.2.1
def Mm:qB:=⟨[Z5],[(.ret,Z6)],L3,fun k d=>qV0 (Dl k k) d,fun b x _ K=>K .ret (zL b Z6 (((),(x.1,()),(),()),((gA x ()),x.2.2.2.2.2,())))⟩
def Mo:qA:=⟨[],[(7,Mi),(2,Mm)],[],false⟩
theorem yC9:zY prog 1000 0 52 (zV (zV (zW f179) 0) 0) Mi:=lp (A:=Mo) Mi (fun d=>(d.1.1.1,d.1.2.2.1.1,(vT d.2.1 d.2.2.1))) qY6 Dh qUz (e2 Me iA) loops0
theorem yQs:zY prog 1000 0 52 (zV (zW f179) 0) Mm:=lp (A:=Mo) Mm (fun d=>(d.1.2.1.1,(vT d.2.1 d.2.2.1))) qV0 Dl qKi (e2 Me iA) (qD yC9)
def yF5:=zJ 179 [.agg m2,.c (.dat true zH),.c .i] (.tup [(true,px),(false,[.fro zH]),(false,[.own zH])]) (fun k d=>(j0 (qNd k) d)) (fun x=>(m3 x ())) (fun d=>(pz d))
theorem qHg:zD prog yF5:=fA f179 Mo (e2 Me iA) (qD yQs)
def qVu (f:L1)(d:Z5.den):=(vQ (f d.1.1.1 d.1.2.2.1.1) d.2.1) d.2.2.1
def Mq:qB:=⟨[Z5],[(.ret,Z6)],L3,fun k d=>qVu (Dm k k) d,fun b x _ K=>K .ret (zL b Z6 (((),(x.1,()),(),()),((gA x ()),x.2.2.2.2.2,())))⟩
def qU7:qA:=⟨[],[(2,Mq)],[],false⟩
theorem yP8:zY prog 1000 0 40 (zV (zW f141) 0) Mq:=lp (A:=qU7) Mq (fun d=>(d.1.2.1.1,(vT d.2.1 d.2.2.1))) qVu Dm qJu (e2 qT4 qHg) loops0
def yJf:=zJ 141 [.agg m2,.c (.dat true zH),.c .i] (.tup [(true,px),(false,[.fro zH]),(false,[.own zH])]) (fun k d=>(j0 (Ms k) d)) (fun x=>(m3 x ())) (fun d=>(pz d))
theorem yFl:zD prog yJf:=fA f141 qU7 (e2 qT4 qHg) (qD yP8)
def yOw:=oH 207 false .i (.own .i) qZ8
theorem yF9:zD prog yOw:=fC f207 ⟨[],[],[],false⟩ e0 loops0
def yEo:=vL 208 [.agg yR,.ptr true [.own .i]] (.c .bool) [[.own .i]] 0 (fun k d=>(jy (qQh k) d)) (fun x=>(x.1,x.2,())) (fun d=>(d.1,d.2.1))
theorem qT9:zD prog yEo:=fX f208 ⟨[],[],[],false⟩ 2 e0 loops0
def qH9:zF:=⟨[(1,.c (.lit (.fn 208 [1001000]))),sO 5 2,(8,.c (.dat false zH)),sI 9,sI 10],[oB [.lit (.osl 1001001 none)],oA .i,oA zH],[(5,none,zH,false)]⟩
def qRe:zF:=sp [(1,.c (.lit (.fn 208 [1001000]))),sO 5 2] [oB [.lit (.osl 1001001 none)],oA .i,oA zH]
def qGs (f:Mt)(d:qH9.den):=f d.1.2.2.1.1 d.1.2.2.2.1.1 d.1.2.2.2.2.1.1 d.2.2.1 d.2.2.2.1
def Mu:qB:=⟨[qH9],[(.exit 0,qRe)],Mv,fun k d=>qGs (Dn k k) d,fun b x _ K=>K (.exit 0) (zL b qRe (((),(),()),((),x.1,x.2,())))⟩
def qGt:qA:=⟨[],[(3,Mu)],[],false⟩
theorem yNj:zY prog 1000 2 23 (zV (zW f122) 0) Mu:=lp (A:=qGt) Mu (fun d=>(d.2.2.1,d.2.2.2.1)) qGs Dn qP0 (e1 qT9) loops0
def yPl:=vL 122 [.c (.p (.dat false zH)),.fn 208 [(true,[.own .i])]] (.c (.own zH)) [[.own .i]] 0 (fun k d=>qXh k d.1 d.2.1) (fun x=>(x.1,x.2,())) (fun d=>(d.1,d.2.1))
theorem yLs:zD prog yPl:=fX f122 qGt 2 (e1 qT9) (qD yNj)
def yEu:=zJ 181 [.c (.dat false zH),.c (.dat false .i)] (.c (.own zH)) (fun k d=>Mw k d.1 d.2.1) (fun x=>(x,())) (fun d=>d.1)
theorem tG:zD prog yEu:=fA f181 ⟨[],[],[],false⟩ (e2 yF9 yLs) loops0
def qIe:zF:=⟨[sP 3 0,sO 6 1,sI 7,sO 8 2,sI 18,sI 19],[oB fh,oA .i,oA zH],[(6,none,.i,false)]⟩
def qM8:zF:=sp [sP 3 0,sO 6 1,sI 7,sO 8 2] [oB fh,oA .i,oA zH]
def qO8 (f:Mx)(d:qIe.den):=(vQ (f d.1.2.2.1.1 d.1.2.2.2.2.1.1 d.1.2.2.2.2.2.1.1) d.2.1) d.2.2.1 d.2.2.2.1
def Dp:qB:=⟨[qIe],[(.exit 0,qM8)],My,fun k d=>qO8 (Dq k k) d,fun b x _ K=>K (.exit 0) (zL b qM8 (((),(),(x.1,()),(),()),((gA x ()),x.2.2.2.2.2.1,x.2.2.2.2.2.2,())))⟩
def qS1:zF:=sp [sP 3 0,sO 6 1,sI 7,sO 8 2,sO 42 3,sI 43,sI 44] [oB fh,oA .i,oA zH,oA .i]
def qZ6 (f:Mz)(d:qS1.den):=(vQ (f d.1.2.2.1.1 d.1.2.2.2.2.2.1.1 d.1.2.2.2.2.2.2.1.1) d.2.1) d.2.2.1 d.2.2.2.1 d.2.2.2.2.1
def MA:qB:=⟨[qS1],[(.exit 4,qM8)],My,fun k d=>qZ6 (Dr k k) d,fun b x _ K=>K (.exit 4) (zL b qM8 (((),(),(x.1,()),(),()),((gA x ()),x.2.2.2.2.2.1,x.2.2.2.2.2.2,())))⟩
def qNf:zF:=sp [sO 6 0,sI 7] [oA .i]
def qX8 (f:MC)(d:qM8.den):=(vQ (f d.1.2.2.1.1) d.2.1) d.2.2.1 d.2.2.2.1
def Ds:qB:=⟨[qM8],[(.ret,qNf)],(Int×AC),fun k d=>qX8 (Dt k k) d,fun b x _ K=>K .ret (zL b qNf (((),(x.1,()),()),(x.2,())))⟩
def Du:qA:=⟨[],[(3,Dp),(12,MA),(7,Ds)],[],false⟩
theorem yQo:zY prog 1000 0 55 (zV (zW f180) 0) Dp:=lp (A:=Du) Dp (fun d=>(d.1.2.2.1.1,(vT d.2.1 (d.2.2.1,d.2.2.2.1)))) qO8 Dq qJa (e4 pw xY tG yj) loops0
theorem yB6:zY prog 1000 0 55 (zV (zV (zW f180) 1) 0) MA:=lp (A:=Du) MA (fun d=>(d.1.2.2.1.1,(vT d.2.1 (d.2.2.1,d.2.2.2.1)))) qZ6 Dr qJk (e4 pw xY tG yj) loops0
theorem yEl:zY prog 1000 0 55 (zV (zW f180) 1) Ds:=lp (A:=Du) Ds (fun d=>(d.1.2.1.1,d.2.1)) qX8 Dt qZf (e4 pw xY tG yj) (qD yB6)
def yCe:=zJ 180 [.agg jD,.c (.dat false zH),.c .i] (.tup [(false,[.own .i]),(false,vM)]) (fun k d=>(j0 (qRc k) d)) (fun x=>(x.1,x.2,())) (fun d=>(d.1,d.2.1))
theorem qFy:zD prog yCe:=fA f180 Du (e4 pw xY tG yj) (lY (n:=2) (by kernel_rfl) fun i hi=>match i,hi with|0,_=>⟨Dp,by kernel_rfl,yQo⟩|1,_=>⟨Ds,by kernel_rfl,yEl⟩|i+2,hi=>absurd hi (by omega))
def qM3:zF:=sp [sP 6 0,(7,.c (.dat true zH)),sO 11 1,sO 38 1,sI 39,sI 40] [oB wV,oA zH]
def qV1:zF:=sp [sP 6 0,(7,.c (.dat true zH)),sO 11 1] [oB wV,oA zH]
def qT7 (f:MD)(d:qM3.den):=(vQ (f d.1.2.1.1 d.1.2.2.2.2.1.1 d.1.2.2.2.2.2.1.1) d.2.1) d.2.2.1
def ME:qB:=⟨[qM3],[(.exit 0,qV1)],L3,fun k d=>qT7 (Dv k k) d,fun b x _ K=>K (.exit 0) (zL b qV1 (((),(x.1,()),(),()),((gA x ()),x.2.2.2.2.2,())))⟩
def qK2:qA:=⟨[],[(8,ME)],[],false⟩
theorem yI0:zY prog 1000 0 56 (zV (zW f142) 0) ME:=lp (A:=qK2) ME (fun d=>(d.1.2.1.1,(vT d.2.1 d.2.2.1))) qT7 Dv qOj (e5 qFy pw tG py iA) loops0
def yNv:=zJ 142 [.agg m2,.c (.dat true zH),.c .i] (.tup [(true,px),(false,[.fro zH]),(false,[.own zH])]) (fun k d=>(j0 (qGe k) d)) (fun x=>(m3 x ())) (fun d=>(pz d))
theorem yG8:zD prog yNv:=fA f142 qK2 (e5 qFy pw tG py iA) (qD yI0)
def yB8:=zJ 91 [.agg m2,.c (.dat true zH),.c .i,.c .bool] (.tup [(true,px),(false,[.fro zH]),(false,[.own zH])]) (fun k d=>(mV (qMr k) d)) (fun x=>(m3 x ())) (fun d=>(pz d))
theorem yG9:zD prog yB8:=fA f91 ⟨[],[],[],false⟩ (e2 yFl yG8) loops0
def qGa:zF:=⟨[sO 3 0,sP 5 1,(8,.c (.dat false zH)),sI 9,sI 10,sO 18 2,sI 19,sI 20],[oA vF,oB fi,oA .i],[(3,none,vF,false)]⟩
def qW2:zF:=sp [sO 3 0,(8,.c (.dat false zH)),sI 9,sI 10] [oA vF]
def qV4 (f:MG)(d:qGa.den):=(mV (f d.1.2.2.1.1 d.1.2.2.2.1.1 d.1.2.2.2.2.1.1 d.1.2.2.2.2.2.2.1.1 d.1.2.2.2.2.2.2.2.1.1 d.2.1) d.2.2.1) d.2.2.2.1
def MH:qB:=⟨[qGa],[(.exit 2,qW2)],MI,fun k d=>qV4 (Dw k k) d,fun b x _ K=>K (.exit 2) (zL b qW2 (((),(x.1,()),(x.2.1,()),(x.2.2.1,()),()),(x.2.2.2,())))⟩
def qQm:zF:=⟨[sO 3 0,(8,.c (.dat false zH)),sI 9,sI 10],[oA vF],[(3,none,vF,false)]⟩
def qWg:zF:=sp [sO 3 0] [oA vF]
def qQf (f:MJ)(d:qQm.den):=f d.1.2.1.1 d.1.2.2.1.1 d.1.2.2.2.1.1 d.2.1
def MK:qB:=⟨[qQm],[(.exit 0,qWg)],ML,fun k d=>qQf (Dx k k) d,fun b x _ K=>K (.exit 0) (zL b qWg (((),()),(x,())))⟩
def MM:qA:=⟨[],[(6,MH),(3,MK)],[],false⟩
theorem yBf:zY prog 1000 0 41 (zV (zV (zW f92) 0) 0) MH:=lp (A:=MM) MH (fun d=>(d.1.2.1.1,d.1.2.2.1.1,d.1.2.2.2.1.1,d.2.1)) qV4 Dw qJl (e1 mZ) loops0
theorem yQ1:zY prog 1000 0 41 (zV (zW f92) 0) MK:=lp (A:=MM) MK (fun d=>d.2.1) qQf Dx qTc (e1 mZ) (qD yBf)
def yPj:=zJ 92 [.c (.dat false zH)] (.c (.own vF)) (fun k d=>qUc k d.1) (fun x=>(x,())) (fun d=>d.1)
theorem yR0:zD prog yPj:=fA f92 MM (e1 mZ) (qD yQ1)
def yQb:=zJ 35 [.agg yf,.c .bool] (.tup [(true,Dy),(false,[.own vF])]) (fun k d=>(Co (Dz k) d)) (fun x=>(yg x ())) (fun d=>(yh d))
theorem MN:zD prog yQb:=fA f35 ⟨[],[],[],false⟩ (e2 yG9 yR0) loops0
def qUl:zF:=⟨[sP 2 0,sP 3 1,sP 4 2,sO 6 3,sO 7 4,(27,.c (.dat true zH)),sI 28,sI 29],[oB jH,oB tF,oB j3,oA vF,oA zH],[(6,none,vF,false),(7,none,zH,false)]⟩
def qPi:zF:=sp [sP 2 0,sP 3 1,sP 4 2,sO 6 3,sO 7 4] [oB jH,oB tF,oB j3,oA vF,oA zH]
def qPh (f:MO)(d:qUl.den):=(jz (j4 (f d.1.2.2.2.2.2.1.1 d.1.2.2.2.2.2.2.1.1 d.1.2.2.2.2.2.2.2.1.1) d.2.1) d.2.2.1) d.2.2.2.1.1 d.2.2.2.1.2.1 d.2.2.2.1.2.2.1 d.2.2.2.2.1 d.2.2.2.2.2.1
def MP:qB:=⟨[qUl],[(.exit 0,qPi)],MQ,fun k d=>qPh (DA k k) d,fun b x _ K=>K (.exit 0) (zL b qPi (((),(),(),(),(),()),((yl x ()),(yEp x ()),(x.2.2.2.2.2.2.2.2.2.2.2.2.2.2.2.2.1,x.2.2.2.2.2.2.2.2.2.2.2.2.2.2.2.2.2.1,x.2.2.2.2.2.2.2.2.2.2.2.2.2.2.2.2.2.2.1,()),x.2.2.2.2.2.2.2.2.2.2.2.2.2.2.2.2.2.2.2.1,x.2.2.2.2.2.2.2.2.2.2.2.2.2.2.2.2.2.2.2.2,())))⟩
def qTb:qA:=⟨[],[(9,MP)],[],false⟩
theorem yEw:zY prog 1000 0 66 (zV (zW f34) 0) MP:=lp (A:=qTb) MP (fun d=>(yl d.2.1 (m1 d.2.2.1 (d.2.2.2.1.1,d.2.2.2.1.2.1,d.2.2.2.1.2.2.1,d.2.2.2.2.1,d.2.2.2.2.2.1)))) qPh DA qP1 (e6 Cp Yk Ym mZ Yo MN) loops0
def yA5:=zJ 34 [.agg jX,.agg yf] (.tup [(true,Dy),(false,[.own vF])]) (fun k d=>(qSf (MR k) d)) (fun x=>(yg x ())) (fun d=>(yh d))
theorem yQf:zD prog yA5:=fA f34 qTb (e6 Cp Yk Ym mZ Yo MN) (qD yEw)
def yKc:=vL 81 [.ptr true mW,.agg [.i,.i,.i,.i,.i,.i]] (.c .i) [dR] 0 (fun k d=>qO2 k (jU d) (Xy d)) (fun x=>(x.1,(wO x.2 ()))) (fun d=>(d.1,(fj d)))
theorem yRs:zD prog yKc:=fX f81 n0 1 (e4 wK Xq Xr CK) loops0
def yEd:=vL 82 [.ptr true mW,.agg yR] (.c .i) [dR] 0 (fun k d=>DB k (jU d) (tC d)) (fun x=>(x.1,(wO x.2 ()))) (fun d=>(d.1,(fj d)))
theorem yCc:zD prog yEd:=fX f82 n0 1 (e8 Xz iA Xn wK KB XE XN XO) loops0
def yTq:=vL 83 [.ptr true mW,.agg yR] (.c .i) [dR] 0 (fun k d=>DC k (jU d) (tC d)) (fun x=>(x.1,(wO x.2 ()))) (fun d=>(d.1,(fj d)))
theorem yN4:zD prog yTq:=fX f83 n0 1 (e3 gz XU wK) loops0
def yKk:=vL 84 [.ptr true mW,.c (.p .i),.c (.p .i)] (.c .i) [dR] 0 (fun k d=>qSp k (jU d) d.2.2.2.2.2.2.2.2.2.2.2.2.2.2.2.2.2.2.1 d.2.2.2.2.2.2.2.2.2.2.2.2.2.2.2.2.2.2.2.1) (fun x=>(x.1,(wO x.2 ()))) (fun d=>(d.1,(fj d)))
theorem yS6:zD prog yKk:=fX f84 n0 1 (e6 tD wK XV tE mT gz) loops0
def yH6:=vL 85 [.ptr true mW,.c (.p .i),.c (.p .i),.c (.p .i)] (.c .i) [dR] 0 (fun k d=>MS k (jU d) d.2.2.2.2.2.2.2.2.2.2.2.2.2.2.2.2.2.2.1 d.2.2.2.2.2.2.2.2.2.2.2.2.2.2.2.2.2.2.2.1 d.2.2.2.2.2.2.2.2.2.2.2.2.2.2.2.2.2.2.2.2.1) (fun x=>(x.1,(wO x.2 ()))) (fun d=>(d.1,(fj d)))
theorem ySy:zD prog yH6:=fX f85 n0 1 (e5 wK XZ X0 X1 gz) loops0
def qVz:zF:=sp [sP 0 0,sO 7 1,sP 8 2,(40,.c (.dat true (.sl .i))),sI 41,sI 42] [oB MT,oA .i,oB Db,oA qY,.mat,oA .i,.mat]
def qTm:zF:=sp [sP 0 0,sO 7 1,sP 8 2] [oB MT,oA .i,oB Db,oA qY,.mat,oA .i,.mat]
def qXw:zF:=sp [sP 0 0,sI 6] [oB MT]
def qGd (f:MU)(d:qVz.den):=f d.1.2.2.2.1.1 d.1.2.2.2.2.1.1 d.1.2.2.2.2.2.1.1 (jU d.2.1) d.2.2.1 d.2.2.2.2.1 d.2.2.2.2.2.1 d.2.2.2.2.2.2.1 d.2.2.2.2.2.2.2.1
def MV:qB:=⟨[qVz],[(.exit 0,qTm),(.ret,qXw)],MW,fun k d=>qGd (MX k k) d,fun b x _ K=>match x with|.inl x=>K (.exit 0) (zL b qTm (((),(),(),()),((yB x.1 ()),x.2.1,(),x.2.2.1,x.2.2.2.1,x.2.2.2.2.1,x.2.2.2.2.2,())))|.inr x=>K .ret (zL b qXw (((),(x.1,()),()),((yB x.2 ()),())))⟩
def qP7:qA:=⟨[],[(6,MV)],[],true⟩
theorem yLn:zY prog 1000 1 81 (zV (zW f86) 0) MV:=lp (A:=qP7) MV (fun d=>match d with|.inl d=>.inl ((jU d.2.1),d.2.2.1,d.2.2.2.2.1,d.2.2.2.2.2.1,d.2.2.2.2.2.2.1,d.2.2.2.2.2.2.2.1)|.inr d=>.inr (d.1.2.1.1,(jU d.2.1))) qGd MX qLc (e5 tD wK tE gz mT) loops0
def yNt:=vL 86 [.ptr true mW,.c (.p .i),.c (.p .i)] (.c .i) [dR] 0 (fun k d=>qG8 k (jU d) d.2.2.2.2.2.2.2.2.2.2.2.2.2.2.2.2.2.2.1 d.2.2.2.2.2.2.2.2.2.2.2.2.2.2.2.2.2.2.2.1) (fun x=>(x.1,(wO x.2 ()))) (fun d=>(d.1,(fj d)))
theorem yFb:zD prog yNt:=fX f86 qP7 1 (e5 tD wK tE gz mT) (qD yLn)
def yO5:=vL 33 [.ptr true mW,.agg yR] (.c .i) [dR] 0 (fun k d=>qZb k (jU d) (tC d)) (fun x=>(x.1,(wO x.2 ()))) (fun d=>(d.1,(fj d)))
theorem yO2:zD prog yO5:=fX f33 n0 1 (e6 yRs yCc yN4 yS6 ySy yFb) loops0
def yL1:=zJ 11 [.agg [.i,.dat true wZ,.i,.i,.i],.agg yf,.agg Ks] (.tup [(true,Dy),(false,[.own vF]),(false,vM)]) (fun k d=>qZ9 k (yE d) (jx d) (Kt d)) (fun x=>(iz x.1 (x.2.1,x.2.2,()))) (fun d=>((vD d),d.2.2.2.2.2.2.2.2.2.2.2.1,d.2.2.2.2.2.2.2.2.2.2.2.2.1))
theorem yQh:zD prog yL1:=fA f11 n0 (e9 ySm ySe Xn yFk yQf MN mU XB yO2) loops0
def qTe:=zJ 26 [.agg [.i,.dat true wZ,.i,.i,.i],.agg yf,.agg Ks] (.tup [(true,Dy),(false,[.own vF]),(false,vM)]) (fun k d=>MY k (yE d) (jx d) (Kt d)) (fun x=>(iz x.1 (x.2.1,x.2.2,()))) (fun d=>((vD d),d.2.2.2.2.2.2.2.2.2.2.2.1,d.2.2.2.2.2.2.2.2.2.2.2.2.1))
theorem yJc:zD prog qTe:=fA f26 n0 (e1 yQh) loops0
def zU2:=zJ 10 [] (.c .bool) (fun k d=>Ie k) (fun x=>(x,())) (fun d=>d.1)
theorem yH9:zD prog zU2:=fA f10 n0 (Rg (l:=[J3,WU,W2,qTe,W0]) (eqT:=fun t=>[39].any (Nat.beq t)) (yCr (fun t h=>yL3 (p:=fun t=>prog.keyTypeAt 8 t&& !prog.eqGuardType prog.depth t) (l:=[39]) (List.forall_mem_cons.2 ⟨by kernel_rfl,List.forall_mem_nil _⟩) t h)) dQ ⟨Wy,yFd,yJx,yJc,W1,trivial⟩) loops0
def qPe:wW:=⟨prog,fun _=>false,jA [SB,SI,UM,Wx,J3,zU2]⟩
theorem SA:wL qPe:=jk dQ ⟨F0q,F2q,yFz,yBd,Wy,yH9,trivial⟩
def yGw:qA:=n0
def Ig:List AS:=[.agg jX,.agg fL]
theorem yJm:GG qPe yGw 0 f3 Ig (.c .bool) (fun d=>d.1) (fun k d=>Ch k (yE d) (jx d)):=by intro k d;kernel_rfl
end
end Go.Ab.Gi
