/- part 6 -/
import Derived.Test.YtpgcgnfpnjolpaaGreatGiAbD
set_option linter.unusedVariables false
set_option maxRecDepth 100000
abbrev Go.Ab.Ty.i:Go.Ab.Ty:=.int .i64
abbrev Go.Ab.CS.i:Go.Ab.CS:=.int .i64
abbrev Go.Ab.PC.i:Go.Ab.PC:=.int .i64
abbrev Go.Ab.RC.i:Go.Ab.RC:=.int .i64
namespace Go.Ab.Gi
abbrev AC:=List Int
abbrev EQ:=List AC
abbrev jL:Go.Ab.Ty:=.pair .i .i
abbrev wW:Type:=Int×Bool
abbrev gh:Type:=Int×Int×Bool
abbrev qO:Type:=Int×Int×Int×Int×Int×Int×Int×Int
abbrev zB:Type:=Int×Int×Int×Int×Int×Int×Int
abbrev Im:Type:=Int×Int×Int×Int×Int×Int
abbrev zH:Type:=Int×Int×Int
abbrev wD:Type:=Int×Int
abbrev X7:Type:=(List zB)×Int×Int×Int×Int×Int×Int×Int×Int
abbrev oR:Type:=(List zH)×EQ×AC×EQ×(List zB)×(List zB)
abbrev yC:Go.Ab.Ty:=.pair .i jL
abbrev yFp:Type:=Bool×Int×Int×Int×Int×Int×Int×Int×Int×Int×Int×Int×Int×Int×Int×(List zH)×EQ×AC×EQ
abbrev M4:Type:=Int×(List zH)×EQ×AC×EQ×AC×EQ×(List zB)×AC×Int×Bool×(List qO)
abbrev yM:Type:=Int×(List zH)×EQ×AC×EQ×AC×EQ×(List zB)×AC×Int×Bool
abbrev ru:Type:=Int×(List wD)×Int×Int×Int×Int×(List zH)×EQ×AC×EQ×AC×EQ×(List zB)×AC×Int×Bool×Int×(List qO)×Int
abbrev wL:Type:=Int×(List wD)×Int×Int×Int×Int×(List zH)×EQ×AC×EQ×AC×EQ×(List zB)×AC×Int×Bool×Int×(List qO)
abbrev nq:Type:=Int×(List wD)×Int×Int×Int×Int×(List zH)×EQ×AC×EQ×AC×EQ×(List zB)×AC×Int×Bool×Int×Int
abbrev iW:Type:=Int×(List wD)×Int×Int×Int×Int×(List zH)×EQ×AC×EQ×AC×EQ×(List zB)×AC×Int×Bool×Int
abbrev yJ:Type:=Int×(List wD)×Int×Int×Int
abbrev yYc:Go.Ab.Ty:=.pair .i yC
abbrev vDs:Go.Ab.Ty:=.pair .i yYc
abbrev vBe:Go.Ab.Ty:=.pair .i vDs
abbrev zF:Go.Ab.Ty:=.pair .i vBe
abbrev yL:Go.Ab.Ty:=.pair .i zF
abbrev U2:List Go.Ab.CS:=[.dat false .i,.dat false .i,.dat false (.sl .i)]
abbrev wS:List Go.Ab.CS:=[.dat false yC,.dat false (.sl .i),.dat false .i,.dat false (.sl .i)]
abbrev vU:List Go.Ab.CS:=[.dat true yC,.dat true (.sl .i),.dat true .i,.dat true (.sl .i)]
abbrev iH:List Go.Ab.CS:=[.i,.dat false jL,.i,.i,.i]
abbrev mo:List Go.Ab.CS:=[.i,.dat false yC,.dat false (.sl .i),.dat false .i,.dat false (.sl .i),.dat false .i,.dat false (.sl .i),.dat false zF,.dat false .i,.i,.bool]
abbrev Uz:List Go.Ab.CS:=[.i,.dat true jL,.i,.i,.i,.i,.dat true yC,.dat true (.sl .i),.dat true .i,.dat true (.sl .i),.dat true .i,.dat true (.sl .i),.dat true zF,.dat true .i,.i,.bool,.i,.lit (.osl 1001001 none)]
abbrev V6:List Go.Ab.CS:=[.i,.dat true jL,.i,.i,.i,.i,.dat true yC,.dat true (.sl .i),.dat true .i,.dat true (.sl .i),.dat true .i,.dat true (.sl .i),.dat true zF,.dat true .i,.i,.bool,.i,.lit .nsl]
abbrev XP:List Go.Ab.CS:=[.i,.dat true jL,.i,.i,.i,.i,.dat true yC,.dat true (.sl .i),.dat true .i,.dat true (.sl .i),.dat true .i,.dat true (.sl .i),.dat true zF,.dat true .i,.i,.bool,.i,.lit .nsl,.i]
abbrev mr:List Go.Ab.CS:=[.i,.dat true yC,.dat true (.sl .i),.dat true .i,.dat true (.sl .i),.dat true .i,.dat true (.sl .i),.dat true zF,.dat true .i,.i,.bool]
abbrev vX:List Go.Ab.CS:=[.i,.i,.i,.i,.i,.i,.i]
abbrev yFi:List Go.Ab.CS:=[.i,.i,.i,.i,.i,.i,.i,.i,.i,.i,.i,.i,.i,.i,.dat true yC,.dat true (.sl .i),.dat true .i,.dat true (.sl .i)]
abbrev MH:List Go.Ab.CS:=[.i,.i,.i,.i,.i,.i,.i,.i,.i,.i,.i,.i,.i,.i,.lit .nsl,.lit .nsl,.lit .nsl,.lit .nsl]
abbrev yJg:List Go.Ab.CS:=[.i,.lit (.osl 1001003 none),.lit (.osl 1001004 none),.lit (.osl 1001005 none),.lit (.osl 1001006 none),.lit (.osl 1001007 none),.lit .nsl,.lit .nsl,.lit .nsl,.i,.bool]
abbrev iS:List Go.Ab.CS:=[.i,.lit .nsl,.lit .nsl,.lit .nsl,.lit .nsl,.lit .nsl,.lit .nsl,.lit .nsl,.lit .nsl,.i,.bool]
abbrev UT:List Go.Ab.CS:=[.lit (.osl 1001002 none),.lit (.osl 1001003 none),.lit (.osl 1001004 none)]
abbrev oQ:List Go.Ab.CS:=[.lit (.osl 1001003 none),.lit (.osl 1001004 none),.lit (.osl 1001005 none),.lit (.osl 1001006 none)]
abbrev yJd:List Go.Ab.CS:=[.lit (.osl 1001004 none),.lit (.osl 1001005 none),.lit (.osl 1001006 none),.lit (.osl 1001007 none)]
abbrev lC:List Go.Ab.CS:=[.lit .nsl,.lit .nsl,.lit .nsl,.lit .nsl]
abbrev MG:List Go.Ab.PC:=[.dat false .i,.dat false .i,.dat false (.sl .i)]
abbrev wN:List Go.Ab.PC:=[.dat false yC,.dat false (.sl .i),.dat false .i,.dat false (.sl .i)]
abbrev iI:List Go.Ab.PC:=[.dat true yC,.dat true (.sl .i),.dat true .i,.dat true (.sl .i)]
abbrev fM:List Go.Ab.PC:=[.i,.dat false jL,.i,.i,.i]
abbrev Uq:List Go.Ab.PC:=[.i,.dat false jL,.i,.i,.i,.i,.dat false yC,.dat false (.sl .i),.dat false .i,.dat false (.sl .i),.dat false .i,.dat false (.sl .i),.dat false zF,.dat false .i,.i,.bool,.i,.dat false yL]
abbrev yMp:List Go.Ab.PC:=[.i,.dat false jL,.i,.i,.i,.i,.dat false yC,.dat false (.sl .i),.dat false .i,.dat false (.sl .i),.dat false .i,.dat false (.sl .i),.dat false zF,.dat false .i,.i,.bool,.i,.dat false yL,.i]
abbrev kM:List Go.Ab.PC:=[.i,.dat false yC,.dat false (.sl .i),.dat false .i,.dat false (.sl .i),.dat false .i,.dat false (.sl .i),.dat false zF,.dat false .i,.i,.bool]
abbrev H5:List Go.Ab.PC:=[.i,.dat true jL,.i,.i,.i]
abbrev rq:List Go.Ab.PC:=[.i,.dat true yC,.dat true (.sl .i),.dat true .i,.dat true (.sl .i),.dat true .i,.dat true (.sl .i),.dat true zF,.dat true .i,.i,.bool]
abbrev lB:List Go.Ab.PC:=[.i,.i,.i]
abbrev HZ:List Go.Ab.PC:=[.i,.i,.i,.i,.i,.i]
abbrev vA:List Go.Ab.PC:=[.i,.i,.i,.i,.i,.i,.i]
abbrev DT:List Go.Ab.PC:=[.i,.i,.i,.i,.i,.i,.i,.i]
abbrev kO:List Go.Ab.RC:=[.fro yC,.fro (.sl .i),.fro .i,.fro (.sl .i)]
abbrev vJ:List Go.Ab.RC:=[.i]
abbrev iT:List Go.Ab.RC:=[.i,.fro jL,.i,.i,.i,.i,.fro yC,.fro (.sl .i),.fro .i,.fro (.sl .i),.fro .i,.fro (.sl .i),.fro zF,.fro .i,.i,.bool,.i,.own yL]
abbrev xO:List Go.Ab.RC:=[.i,.fro jL,.i,.i,.i,.i,.fro yC,.fro (.sl .i),.fro .i,.fro (.sl .i),.fro .i,.fro (.sl .i),.fro zF,.fro .i,.i,.bool,.i,.own yL,.i]
abbrev xK:List Go.Ab.RC:=[.i,.fro yC,.fro (.sl .i),.fro .i,.fro (.sl .i),.fro .i,.fro (.sl .i),.fro zF,.fro .i,.i,.bool]
abbrev oO:List Go.Ab.RC:=[.i,.i,.i,.i,.i,.i,.i]
abbrev tX:List Go.Ab.XC:=[.p .i,.p (.dat true jL),.p .i,.p .i,.p .i,.p .i,.p (.dat true yC),.p (.dat true (.sl .i)),.p (.dat true .i),.p (.dat true (.sl .i)),.p (.dat true .i),.p (.dat true (.sl .i)),.p (.dat true zF),.p (.dat true .i),.p .i,.p .bool,.p .i,.own yL]
abbrev tW:List Go.Ab.XC:=[.p .i,.p (.dat true jL),.p .i,.p .i,.p .i,.p .i,.p (.dat true yC),.p (.dat true (.sl .i)),.p (.dat true .i),.p (.dat true (.sl .i)),.p (.dat true .i),.p (.dat true (.sl .i)),.p (.dat true zF),.p (.dat true .i),.p .i,.p .bool,.p .i,.p (.nil)]
abbrev xN:List Go.Ab.XC:=[.p .i,.p (.dat true jL),.p .i,.p .i,.p .i,.p .i,.p (.dat true yC),.p (.dat true (.sl .i)),.p (.dat true .i),.p (.dat true (.sl .i)),.p (.dat true .i),.p (.dat true (.sl .i)),.p (.dat true zF),.p (.dat true .i),.p .i,.p .bool,.p .i,.p (.nil),.p .i]
section
variable {A B C D E F G H I J K L M N O P Q R S U V W X Z a b Aa T Y:Type}
abbrev rp (x:A×B×C×D)(t:T):=(x.1,x.2.1,x.2.2.1,x.2.2.2,t)
abbrev eW (x:A×B×C×D×E)(t:T):=(x.1,rp x.2 t)
abbrev lD (x:A×B×C×D×E×F)(t:T):=(x.1,eW x.2 t)
abbrev gg (x:A×B×C×D×E×F×G)(t:T):=(x.1,lD x.2 t)
abbrev Mu (x:A×B×C×D×E×F×G×H)(t:T):=(x.1,gg x.2 t)
abbrev MA (x:A×B×C×D×E×F×G×H×I)(t:T):=(x.1,Mu x.2 t)
abbrev vE3 (x:A×B×C×D×E×F×G×H×I×J)(t:T):=(x.1,MA x.2 t)
abbrev jP (x:A×B×C×D×E×F×G×H×I×J×K)(t:T):=(x.1,vE3 x.2 t)
abbrev DX (x:A×B×C×D×E×F×G×H×I×J×K×L)(t:T):=(x.1,jP x.2 t)
abbrev vG9 (x:A×B×C×D×E×F×G×H×I×J×K×L×M)(t:T):=(x.1,DX x.2 t)
abbrev Vu (x:A×B×C×D×E×F×G×H×I×J×K×L×M×N)(t:T):=(x.1,vG9 x.2 t)
abbrev yH4 (x:A×B×C×D×E×F×G×H×I×J×K×L×M×N×O)(t:T):=(x.1,Vu x.2 t)
abbrev vLt (x:A×B×C×D×E×F×G×H×I×J×K×L×M×N×O×P)(t:T):=(x.1,yH4 x.2 t)
abbrev vD (x:A×B×C×D×E×F×G×H×I×J×K×L×M×N×O×P×Q)(t:T):=(x.1,vLt x.2 t)
abbrev jS (x:A×B×C×D×E×F×G×H×I×J×K×L×M×N×O×P×Q×R)(t:T):=(x.1,vD x.2 t)
abbrev ua (x:A×B×C×D×E×F×G×H×I×J×K×L×M×N×O×P×Q×R×S)(t:T):=(x.1,jS x.2 t)
abbrev rj (x:A×B×C×D×E):=(x.1,x.2.1,x.2.2.1,x.2.2.2.1)
abbrev qX (x:A×B×C×D×E×F):=(x.1,rj x.2)
abbrev kP (x:A×B×C×D×E×F×G):=(x.1,qX x.2)
abbrev wC (x:A×B×C×D×E×F×G×H):=(x.1,kP x.2)
abbrev DS (x:A×B×C×D×E×F×G×H×I):=(x.1,wC x.2)
abbrev MB (x:A×B×C×D×E×F×G×H×I×J):=(x.1,DS x.2)
abbrev vCm (x:A×B×C×D×E×F×G×H×I×J×K):=(x.1,MB x.2)
abbrev qR (x:A×B×C×D×E×F×G×H×I×J×K×L):=(x.1,vCm x.2)
abbrev DY (x:A×B×C×D×E×F×G×H×I×J×K×L×M):=(x.1,qR x.2)
abbrev vKw (x:A×B×C×D×E×F×G×H×I×J×K×L×M×N):=(x.1,DY x.2)
abbrev yBz (x:A×B×C×D×E×F×G×H×I×J×K×L×M×N×O):=(x.1,vKw x.2)
abbrev qUr (x:A×B×C×D×E×F×G×H×I×J×K×L×M×N×O×P):=(x.1,yBz x.2)
abbrev vHv (x:A×B×C×D×E×F×G×H×I×J×K×L×M×N×O×P×Q):=(x.1,qUr x.2)
abbrev iU (x:A×B×C×D×E×F×G×H×I×J×K×L×M×N×O×P×Q×R):=(x.1,vHv x.2)
abbrev fm (x:A×B×C×D×E×F×G×H×I×J×K×L×M×N×O×P×Q×R×S):=(x.1,iU x.2)
abbrev MI (x:A×B×C×D×E×F×G×H×I×J×K×L×M×N×O×P×Q×R×S×U):=(x.1,fm x.2)
abbrev vG (x:A×B×C×D×E)(t:T):=(x.1,x.2.1,x.2.2.1,x.2.2.2.1,t)
abbrev xL (x:A×B×C×D×E×F)(t:T):=(x.1,vG x.2 t)
abbrev wJ (x:A×B×C×D×E×F×G)(t:T):=(x.1,xL x.2 t)
abbrev gP (x:A×B×C×D×E×F×G×H)(t:T):=(x.1,wJ x.2 t)
abbrev yU9 (x:A×B×C×D×E×F×G×H×I)(t:T):=(x.1,gP x.2 t)
abbrev vAe (x:A×B×C×D×E×F×G×H×I×J)(t:T):=(x.1,yU9 x.2 t)
abbrev vNy (x:A×B×C×D×E×F×G×H×I×J×K)(t:T):=(x.1,vAe x.2 t)
abbrev tZ (x:A×B×C×D×E×F×G×H×I×J×K×L)(t:T):=(x.1,vNy x.2 t)
abbrev gU (x:A×B×C×D×E×F×G×H×I×J×K×L×M)(t:T):=(x.1,tZ x.2 t)
abbrev yT2 (x:A×B×C×D×E×F×G×H×I×J×K×L×M×N)(t:T):=(x.1,gU x.2 t)
abbrev Vw (x:A×B×C×D×E×F×G×H×I×J×K×L×M×N×O)(t:T):=(x.1,yT2 x.2 t)
abbrev vL1 (x:A×B×C×D×E×F×G×H×I×J×K×L×M×N×O×P)(t:T):=(x.1,Vw x.2 t)
abbrev vCs (x:A×B×C×D×E×F×G×H×I×J×K×L×M×N×O×P×Q)(t:T):=(x.1,vL1 x.2 t)
abbrev qU (x:A×B×C×D×E×F×G×H×I×J×K×L×M×N×O×P×Q×R)(t:T):=(x.1,vCs x.2 t)
abbrev qU1 (x:A×B×C×D×E×F×G×H×I×J×K×L×M×N×O×P×Q×R×S)(t:T):=(x.1,qU x.2 t)
abbrev yU (f:A→B→C→D→Y)(x:A×B×C×D×E):Y:=f x.1 x.2.1 x.2.2.1 x.2.2.2.1
abbrev iV (f:A→B→C→D→E→Y)(x:A×B×C×D×E×F):Y:=yU (f x.1) x.2
abbrev gT (f:A→B→C→D→E→F→Y)(x:A×B×C×D×E×F×G):Y:=iV (f x.1) x.2
abbrev j8 (f:A→B→C→D→E→F→G→Y)(x:A×B×C×D×E×F×G×H):Y:=gT (f x.1) x.2
abbrev j7 (f:A→B→C→D→E→F→G→H→Y)(x:A×B×C×D×E×F×G×H×I):Y:=j8 (f x.1) x.2
abbrev MF (f:A→B→C→D→E→F→G→H→I→Y)(x:A×B×C×D×E×F×G×H×I×J):Y:=j7 (f x.1) x.2
abbrev vHw (f:A→B→C→D→E→F→G→H→I→J→Y)(x:A×B×C×D×E×F×G×H×I×J×K):Y:=MF (f x.1) x.2
abbrev oN (f:A→B→C→D→E→F→G→H→I→J→K→Y)(x:A×B×C×D×E×F×G×H×I×J×K×L):Y:=vHw (f x.1) x.2
abbrev HT (f:A→B→C→D→E→F→G→H→I→J→K→L→Y)(x:A×B×C×D×E×F×G×H×I×J×K×L×M):Y:=oN (f x.1) x.2
abbrev U5 (f:A→B→C→D→E→F→G→H→I→J→K→L→M→Y)(x:A×B×C×D×E×F×G×H×I×J×K×L×M×N):Y:=HT (f x.1) x.2
abbrev DO (f:A→B→C→D→E→F→G→H→I→J→K→L→M→N→Y)(x:A×B×C×D×E×F×G×H×I×J×K×L×M×N×O):Y:=U5 (f x.1) x.2
abbrev vCu (f:A→B→C→D→E→F→G→H→I→J→K→L→M→N→O→Y)(x:A×B×C×D×E×F×G×H×I×J×K×L×M×N×O×P):Y:=DO (f x.1) x.2
abbrev qX9 (f:A→B→C→D→E→F→G→H→I→J→K→L→M→N→O→P→Y)(x:A×B×C×D×E×F×G×H×I×J×K×L×M×N×O×P×Q):Y:=vCu (f x.1) x.2
abbrev vFj (f:A→B→C→D→E→F→G→H→I→J→K→L→M→N→O→P→Q→Y)(x:A×B×C×D×E×F×G×H×I×J×K×L×M×N×O×P×Q×R):Y:=qX9 (f x.1) x.2
abbrev vRz (f:A→B→C→D→E→F→G→H→I→J→K→L→M→N→O→P→Q→R→Y)(x:A×B×C×D×E×F×G×H×I×J×K×L×M×N×O×P×Q×R×S):Y:=vFj (f x.1) x.2
abbrev yUm (f:A→B→C→D→E→F→G→H→I→J→K→L→M→N→O→P→Q→R→S→Y)(x:A×B×C×D×E×F×G×H×I×J×K×L×M×N×O×P×Q×R×S×U):Y:=vRz (f x.1) x.2
abbrev X8 (x:A×B×C×D×E×F×G×H×I×J×K×L×M×N×O×P×Q)(t:T):=rp x.2.2.2.2.2.2.2.2.2.2.2.2.2 t
abbrev xi (x:A×B×C×D×E×F)(t:T):=rp x.2.2 t
abbrev yVe (x:A×B×C×D×E×F×G)(t:T):=rp x.2.2.2 t
abbrev yOr (x:A×B×C×D×E×F×G×H)(t:T):=rp x.2.2.2.2 t
abbrev vMp (x:A×B×C×D×E×F×G×H×I)(t:T):=rp x.2.2.2.2.2 t
abbrev vR6 (x:A×B×C×D×E×F×G×H×I×J×K×L)(t:T):=rp x.2.2.2.2.2.2.2.2 t
abbrev ySh (x:A×B×C×D×E×F×G×H×I×J×K×L×M×N×O×P×Q)(t:T):=eW x.2.2.2.2.2.2.2.2.2.2.2.2 t
abbrev Ru (x:A×B×C×D×E×F×G×H×I×J×K×L×M×N×O×P×Q)(t:T):=lD x.2.2.2.2.2.2.2.2.2.2.2 t
abbrev yXu (x:A×B×C×D×E×F×G×H)(t:T):=lD x.2.2 t
abbrev X9 (x:A×B×C×D×E×F×G×H×I×J×K×L×M×N×O×P×Q)(t:T):=gg x.2.2.2.2.2.2.2.2.2.2 t
abbrev qXr (x:A×B×C×D×E×F×G×H)(t:T):=gg x.2 t
abbrev vH2 (x:A×B×C×D×E×F×G×H×I×J×K)(t:T):=gg x.2.2.2.2 t
abbrev yBi (x:A×B×C×D×E×F×G×H×I×J×K×L×M×N)(t:T):=gg x.2.2.2.2.2.2.2 t
abbrev yA8 (x:A×B×C×D×E×F×G×H×I×J×K×L×M×N×O)(t:T):=gg x.2.2.2.2.2.2.2.2 t
abbrev vK7 (x:A×B×C×D×E×F×G×H×I×J×K×L)(t:T):=jP x.2 t
abbrev vMi (x:A×B×C×D×E×F×G×H×I×J×K×L×M×N×O)(t:T):=Vu x.2 t
abbrev Vq (x:A×B×C×D×E×F×G×H×I×J×K×L×M×N×O×P×Q×R×S)(t:T):=jS x.2 t
abbrev yN5 (x:A×B×C×D×E×F×G×H×I×J×K×L×M×N×O×P×Q×R×S×U×V×W×X×Z×a):=kP x.2.2.2.2.2.2.2.2.2.2.2.2.2.2.2.2.2.2
abbrev vK1 (x:A×B×C×D×E×F×G×H×I×J×K×L×M×N×O×P×Q×R×S×U×V×W×X×Z×a×b):=kP x.2.2.2.2.2.2.2.2.2.2.2.2.2.2.2.2.2.2.2
abbrev yI8 (x:A×B×C×D×E×F×G×H×I×J×K×L×M×N×O×P×Q×R×S×U×V×W×X×Z×a×b×Aa):=kP x.2.2.2.2.2.2.2.2.2.2.2.2.2.2.2.2.2.2.2.2
abbrev DU (x:A×B×C×D×E×F×G×H×I×J×K×L×M×N×O×P×Q×R×S×U×V×W×X×Z×a×b):=wC x.2.2.2.2.2.2.2.2.2.2.2.2.2.2.2.2.2.2
abbrev vB4 (x:A×B×C×D×E×F×G×H×I×J×K×L×M×N×O×P×Q×R×S×U×V×W×X×Z×a×b×Aa):=wC x.2.2.2.2.2.2.2.2.2.2.2.2.2.2.2.2.2.2.2
abbrev My (x:A×B×C×D×E×F×G×H×I):=wC x.2
abbrev Ug (x:A×B×C×D×E×F×G×H×I×J×K×L×M×N):=wC x.2.2.2.2.2.2
abbrev Ya (x:A×B×C×D×E×F×G×H×I×J×K×L×M×N×O):=wC x.2.2.2.2.2.2.2
abbrev xF (x:A×B×C×D×E×F×G×H×I×J×K×L×M×N×O×P×Q×R×S×U×V×W×X×Z×a):=DS x.2.2.2.2.2.2.2.2.2.2.2.2.2.2.2.2
abbrev yYo (x:A×B×C×D×E×F×G×H×I×J×K×L×M×N):=DS x.2.2.2.2.2
abbrev vHc (x:A×B×C×D×E×F×G×H×I×J×K×L×M×N×O×P×Q×R×S×U×V×W×X):=qR x.2.2.2.2.2.2.2.2.2.2.2
abbrev mn (x:A×B×C×D×E×F×G×H×I×J×K×L×M×N×O×P×Q):=qR x.2.2.2.2.2
abbrev yUi (x:A×B×C×D×E×F×G×H×I×J×K×L×M×N×O×P×Q×R×S):=qR x.2.2.2.2.2.2.2
abbrev kN (x:A×B×C×D×E×F×G×H×I×J×K×L×M×N×O×P×Q×R×S×U):=fm x.2
abbrev xP (x:A×B×C×D×E×F×G×H×I×J×K×L×M×N×O×P×Q×R×S×U×V):=MI x.2
abbrev D3 (x:A×B×C×D×E×F×G×H×I×J×K×L×M×N×O)(t:T):=vG x.2.2.2.2.2.2.2.2.2.2 t
abbrev M5 (x:A×B×C×D×E×F×G×H×I×J×K×L×M×N×O×P×Q×R)(t:T):=vG x.2.2.2.2.2.2.2.2.2.2.2.2.2 t
abbrev fO (x:A×B×C×D×E×F)(t:T):=vG x.2 t
abbrev Mv (x:A×B×C×D×E×F×G)(t:T):=vG x.2.2 t
abbrev vOx (x:A×B×C×D×E×F×G×H×I×J)(t:T):=vG x.2.2.2.2.2 t
abbrev yEf (x:A×B×C×D×E×F×G×H×I×J×K×L×M×N×O×P×Q×R)(t:T):=xL x.2.2.2.2.2.2.2.2.2.2.2.2 t
abbrev yRj (x:A×B×C×D×E×F×G×H×I×J×K×L×M×N×O×P×Q×R)(t:T):=wJ x.2.2.2.2.2.2.2.2.2.2.2 t
abbrev X5 (x:A×B×C×D×E×F×G×H×I×J×K×L×M×N×O×P×Q×R)(t:T):=gP x.2.2.2.2.2.2.2.2.2.2 t
abbrev yXb (x:A×B×C×D×E×F×G×H×I×J×K×L×M×N×O×P×Q×R×S×U)(t:T):=gP x.2.2.2.2.2.2.2.2.2.2.2.2 t
abbrev Vj (x:A×B×C×D×E×F×G×H×I)(t:T):=gP x.2 t
abbrev yTg (x:A×B×C×D×E×F×G×H×I×J×K×L×M)(t:T):=gP x.2.2.2.2.2 t
abbrev vAt (x:A×B×C×D×E×F×G×H×I×J×K×L×M×N×O×P×Q)(t:T):=tZ x.2.2.2.2.2 t
abbrev vKs (x:A×B×C×D×E×F×G×H×I×J×K×L×M×N×O×P×Q×R×S×U×V)(t:T):=Vw x.2.2.2.2.2.2 t
abbrev LP (x:A×B×C×D×E×F×G×H×I×J×K×L×M×N×O×P×Q×R×S)(t:T):=qU x.2 t
end
def L6 (k:Nat)(a0:yJ)(a1:yM):Option Bool:=
 bif decide ((zA ((zA ((zA ((zA ((zA ((a0.2.1.length:Int)+(a1.2.2.2.2.2.2.2.1.length:Int)))+(a1.2.2.2.2.2.2.2.2.1.length:Int)))+(a1.2.2.2.2.2.1.length:Int)))+(a1.2.1.length:Int)))+(a1.2.2.2.1.length:Int)))>300) then some true
 else bif decide ((a1.2.2.2.2.2.2.1.length:Int)>20) then some true
 else bif decide ((a1.2.2.1.length:Int)>20) then some true
 else bif decide ((a1.2.2.2.2.1.length:Int)>20) then some true
 else bif decide (a0.1>20) then some true
 else some (decide (a0.1<0))
def tT (k:Nat)(a0 a1 a2:Int):Option Bool:=
 bif decide (a0≥a1) then some (decide (a0≤a2))
 else some false
abbrev R8:Type:=yJ⊕Bool
abbrev R6:Type:=Int→yJ→Option R8
def DN (k:Nat)(rec:R6)(s3:Int)(b0:yJ):Option R8:=
 bif decide (s3 < (b0.2.1.length : Int)) then (bif zC s3 b0.2.1.length then ((tT k (b0.2.1.getD s3.toNat (0,0)).1 0 1048576).bind fun x0=>
   bif !x0 then some (.inr false)
   else bif zC s3 b0.2.1.length then ((tT k (b0.2.1.getD s3.toNat (0,0)).2 0 10000).bind fun x1=>
    bif !x1 then some (.inr false)
    else rec (zA (s3+1)) b0)
   else none)
  else none)
 else some (.inl b0)
def xE (k:Nat):Nat→R6:=vH (fun _ _=>none) (DN k)
def L5 (k:Nat)(a0:yJ):Option Bool:=
 bif decide (a0.1<1) then some false
 else bif decide (a0.1>6) then some false
 else bif decide ((a0.2.1.length:Int)>3) then some false
 else(xE k k 0 a0).bind fun z=>
 match z with
 |.inl z1=>(tT k z1.2.2.2.1 1 1048576).bind fun x2=>
  bif x2 then ((tT k z1.2.2.1 0 z1.2.2.2.1).bind fun x3=>
   bif x3 then ((tT k z1.2.2.2.2 1 1048576).bind fun x4=>
    some x4)
   else some false)
  else some false
 |.inr z2=>some z2
def yW (k:Nat)(a0 a1 a2:Int):Option Bool:=
 bif decide (a0≥a1) then some (decide (a0≤a2))
 else some false
def JT (k:Nat)(bm bz aP:Int):Option Bool:=
 bif decide (bm > (-4611686018427387904)) then (bif decide (bm < 4611686018427387904) then (bif decide (bz ≥ 0) then (bif decide (bz ≤ 2305843009213693952) then (bif decide (aP≥0) then some (decide (aP≤2305843009213693952))
     else some false)
    else some false)
   else some false)
  else some false)
 else some false
def P4 (k:Nat)(bm bz aP:Int):Option Bool:=
 (JT k bm bz aP).bind fun x0=>
 some (!x0)
abbrev R9:Type:=List zH→Int→Int→Option (Unit⊕Int)
def AB (k:Nat)(rec:R9)(s0:List zH)(s7 s8:Int):Option (Unit⊕Int):=
 bif decide (s8 < s7) then (bif zC s8 s0.length then ((P4 k (s0.getD s8.toNat (0,0,0)).1 (s0.getD s8.toNat (0,0,0)).2.1 (s0.getD s8.toNat (0,0,0)).2.2).bind fun x0=>
   bif x0 then some (.inr s8)
   else rec s0 s7 (zA (s8+1)))
  else none)
 else some (.inl ())
def Fw (k:Nat):Nat→R9
 |0,_,_,_=>none
 |n+1,s0,s7,s8=>AB k (Fw k n) s0 s7 s8
def P5 (k:Nat)(a0:List zH):Option Int:=
 (Fw k k a0 (a0.length:Int) 0).bind fun z=>
 match z with
 |.inl z1=>some (-1)
 |.inr z2=>some z2
def JV (k:Nat)(a0:List zH):Option Bool:=
 (P5 k a0).bind fun x0=>
 some (decide (x0≥0))
def P2 (k:Nat)(a0:Int):Option Bool:=
 bif decide (a0≥(-1)) then some (decide (a0≤2305843009213693952))
 else some false
def P6 (k:Nat)(a0:Int):Option Bool:=
 (P2 k a0).bind fun x0=>
 some (!x0)
abbrev Sb:Type:=AC→Int→Int→Option (Unit⊕Int)
def AE (k:Nat)(rec:Sb)(s0:AC)(s7 s8:Int):Option (Unit⊕Int):=
 bif decide (s8 < s7) then (bif zC s8 s0.length then ((P6 k (s0.getD s8.toNat 0)).bind fun x0=>
   bif x0 then some (.inr s8)
   else rec s0 s7 (zA (s8+1)))
  else none)
 else some (.inl ())
def Fx (k:Nat):Nat→Sb
 |0,_,_,_=>none
 |n+1,s0,s7,s8=>AE k (Fx k n) s0 s7 s8
def P7 (k:Nat)(a0:AC):Option Int:=
 (Fx k k a0 (a0.length:Int) 0).bind fun z=>
 match z with
 |.inl z1=>some (-1)
 |.inr z2=>some z2
def JW (k:Nat)(a0:AC):Option Bool:=
 (P7 k a0).bind fun x0=>
 some (decide (x0≥0))
def Fz (k:Nat)(a0:AC)(a1:Int):Option Bool:=
 bif decide ((a0.length : Int) = a1) then ((JW k a0).bind fun x0=>
  some (!x0))
 else some false
abbrev Se:Type:=Int→EQ→Int→Int→Option (Unit⊕Bool)
def AG (k:Nat)(rec:Se)(s1:Int)(bL:EQ)(bx ba:Int):Option (Unit⊕Bool):=
 bif decide (ba < bx) then (bif zC ba bL.length then ((Fz k (bL.getD ba.toNat []) s1).bind fun x0=>
   bif !x0 then some (.inr false)
   else rec s1 bL bx (zA (ba+1)))
  else none)
 else some (.inl ())
def FA (k:Nat):Nat→Se
 |0,_,_,_,_=>none
 |n+1,s1,bL,bx,ba=>AG k (FA k n) s1 bL bx ba
def JZ (k:Nat)(a0:EQ)(a1:Int):Option Bool:=
 bif !(decide ((a0.length:Int)=a1)) then some false
 else(FA k k a1 a0 (a0.length:Int) 0).bind fun z=>
 match z with
 |.inl z1=>some true
 |.inr z2=>some z2
def JU (k:Nat)(a0:Int):Option Bool:=
 bif decide (a0>(-72057594037927936)) then some (decide (a0<72057594037927936))
 else some false
def P8 (k:Nat)(a0:Int):Option Bool:=
 (JU k a0).bind fun x0=>
 some (!x0)
def AF (k:Nat)(rec:Sb)(s0:AC)(s7 s8:Int):Option (Unit⊕Int):=
 bif decide (s8 < s7) then (bif zC s8 s0.length then ((P8 k (s0.getD s8.toNat 0)).bind fun x0=>
   bif x0 then some (.inr s8)
   else rec s0 s7 (zA (s8+1)))
  else none)
 else some (.inl ())
def Fy (k:Nat):Nat→Sb
 |0,_,_,_=>none
 |n+1,s0,s7,s8=>AF k (Fy k n) s0 s7 s8
def P9 (k:Nat)(a0:AC):Option Int:=
 (Fy k k a0 (a0.length:Int) 0).bind fun z=>
 match z with
 |.inl z1=>some (-1)
 |.inr z2=>some z2
def JX (k:Nat)(a0:AC):Option Bool:=
 (P9 k a0).bind fun x0=>
 some (decide (x0≥0))
def JY (k:Nat)(a0:AC)(a1:Int):Option Bool:=
 bif decide ((a0.length : Int) = a1) then ((JX k a0).bind fun x0=>
  some (!x0))
 else some false
def AH (k:Nat)(rec:Se)(s1:Int)(bL:EQ)(bx ba:Int):Option (Unit⊕Bool):=
 bif decide (ba < bx) then (bif zC ba bL.length then ((JY k (bL.getD ba.toNat []) s1).bind fun x0=>
   bif !x0 then some (.inr false)
   else rec s1 bL bx (zA (ba+1)))
  else none)
 else some (.inl ())
def FB (k:Nat):Nat→Se
 |0,_,_,_,_=>none
 |n+1,s1,bL,bx,ba=>AH k (FB k n) s1 bL bx ba
def J0 (k:Nat)(a0:EQ)(a1:Int):Option Bool:=
 bif !(decide ((a0.length:Int)=a1)) then some false
 else(FB k k a1 a0 (a0.length:Int) 0).bind fun z=>
 match z with
 |.inl z1=>some true
 |.inr z2=>some z2
abbrev Sm:Type:=(EQ×EQ×Int×Int)⊕Bool
abbrev Sk:Type:=EQ→Int→EQ→Int→Int→AC→Int→Int→Option Sm
def AJ (k:Nat)(rec:Sk)(s0:EQ)(s3:Int)(s7:EQ)(s8 s9:Int)(bx:AC)(ba ca:Int):Option Sm:=
 bif decide (ca < ba) then (bif zC ca bx.length then (bif zC ca s0.length then (bif zC s3 (s0.getD ca.toNat []).length then (bif !(decide (((s0.getD ca.toNat []).getD s3.toNat 0)=(zA (0-(bx.getD ca.toNat 0))))) then some (.inr false)
     else rec s0 s3 s7 s8 s9 bx ba (zA (ca+1)))
    else none)
   else none)
  else none)
 else some (.inl (s0,s7,s8,s9))
def AI (k:Nat):Nat→Sk
 |0,_,_,_,_,_,_,_,_=>none
 |n+1,s0,s3,s7,s8,s9,bx,ba,ca=>AJ k (AI k n) s0 s3 s7 s8 s9 bx ba ca
abbrev Sn:Type:=EQ→EQ→Int→Int→Option (Unit⊕Bool)
def AK (k:Nat)(rec:Sn)(s0 s7:EQ)(s8 s9:Int):Option (Unit⊕Bool):=
 bif decide (s9 < s8) then (bif zC s9 s7.length then ((AI k k s0 s9 s7 s8 s9 (s7.getD s9.toNat []) ((s7.getD s9.toNat []).length:Int) 0).bind fun z=>
   match z with
   |.inl z1=>rec z1.1 z1.2.1 z1.2.2.1 (zA (z1.2.2.2+1))
   |.inr z2=>some (.inr z2))
  else none)
 else some (.inl ())
def FC (k:Nat):Nat→Sn
 |0,_,_,_,_=>none
 |n+1,s0,s7,s8,s9=>AK k (FC k n) s0 s7 s8 s9
def J1 (k:Nat)(a0:EQ):Option Bool:=
 (FC k k a0 a0 (a0.length:Int) 0).bind fun z3=>
 match z3 with
 |.inl z4=>some true
 |.inr z5=>some z5
def vz (k:Nat)(aL:List zH)(aZ:EQ)(aW:AC)(aT:EQ):Option Bool:=
 bif decide ((aL.length:Int)<1) then some false
 else bif decide ((aL.length:Int)>6) then some false
 else(JV k aL).bind fun x0=>
 bif x0 then some false
 else(JZ k aZ (aL.length:Int)).bind fun x1=>
 bif x1 then ((Fz k aW (aL.length:Int)).bind fun x2=>
  bif x2 then ((J0 k aT (aL.length:Int)).bind fun x3=>
   bif x3 then ((J1 k aT).bind fun x4=>
    some x4)
   else some false)
  else some false)
 else some false
def RY (k:Nat)(a0:Int):Option Bool:=
 (yW k a0 0 1048576).bind fun x0=>
 some (!x0)
def Dt (k:Nat)(rec:Sb)(s0:AC)(s7 s8:Int):Option (Unit⊕Int):=
 bif decide (s8 < s7) then (bif zC s8 s0.length then ((RY k (s0.getD s8.toNat 0)).bind fun x0=>
   bif x0 then some (.inr s8)
   else rec s0 s7 (zA (s8+1)))
  else none)
 else some (.inl ())
def xx (k:Nat):Nat→Sb
 |0,_,_,_=>none
 |n+1,s0,s7,s8=>Dt k (xx k n) s0 s7 s8
def RZ (k:Nat)(a0:AC):Option Int:=
 (xx k k a0 (a0.length:Int) 0).bind fun z=>
 match z with
 |.inl z1=>some (-1)
 |.inr z2=>some z2
def HD (k:Nat)(a0:AC):Option Bool:=
 (RZ k a0).bind fun x0=>
 some (decide (x0≥0))
def QQ (k:Nat)(a0:Int):Option Bool:=
 bif decide (a0≥0) then some (decide (a0≤10000))
 else some false
def Gv (k:Nat)(a0 a1:Int):Option wD:=
 some ((IntKind.wrap .u64 ((IntKind.wrap .u64 ((IntKind.wrap .u64 ((shr .u64 a0 32)*(shr .u64 a1 32)))+(shr .u64 (IntKind.wrap .u64 ((IntKind.wrap .u64 ((shr .u64 a0 32)*(yA .u64 a1 4294967295)))+(shr .u64 (IntKind.wrap .u64 ((yA .u64 a0 4294967295)*(yA .u64 a1 4294967295))) 32))) 32)))+(shr .u64 (IntKind.wrap .u64 ((yA .u64 (IntKind.wrap .u64 ((IntKind.wrap .u64 ((shr .u64 a0 32)*(yA .u64 a1 4294967295)))+(shr .u64 (IntKind.wrap .u64 ((yA .u64 a0 4294967295)*(yA .u64 a1 4294967295))) 32))) 4294967295)+(IntKind.wrap .u64 ((yA .u64 a0 4294967295)*(shr .u64 a1 32))))) 32))),(IntKind.wrap .u64 (a0*a1)))
def yE5 (k:Nat)(a0:Int):Option Int:=
 bif decide (a0 ≥ 4294967296) then (bif decide ((shr .u64 a0 32) ≥ 65536) then (bif decide ((shr .u64 (shr .u64 a0 32) 16)≥256) then none
   else none)
  else bif decide ((shr .u64 a0 32)≥256) then none
  else none)
 else bif decide (a0 ≥ 65536) then (bif decide ((shr .u64 a0 16)≥256) then none
  else none)
 else bif decide (a0≥256) then none
 else none
def yJv (k:Nat)(a0:Int):Option Int:=
 (yE5 k a0).bind fun x0=>
 some (zA (64-x0))
abbrev Su:Type:=Int→Int→Int→Int→Int→Int→Int→Int→Int→Option qO
def qXd (k:Nat)(rec:Su)(s2 s8 s9 ao bc bL bx ba ca:Int):Option qO:=
 bif decide (ba ≥ 4294967296) then (bif decide ((IntKind.wrap .u64 (ca+s9))≥4294967296) then some (s2,s8,s9,ao,bc,bL,bx,(IntKind.wrap .u64 (ba-1)))
  else rec s2 s8 s9 ao bc bL bx (IntKind.wrap .u64 (ba-1)) (IntKind.wrap .u64 (ca+s9)))
 else bif decide ((IntKind.wrap .u64 (ba * ao)) > (IntKind.wrap .u64 ((IntKind.wrap .u64 (4294967296 * ca)) + bL))) then (bif decide ((IntKind.wrap .u64 (ca+s9))≥4294967296) then some (s2,s8,s9,ao,bc,bL,bx,(IntKind.wrap .u64 (ba-1)))
  else rec s2 s8 s9 ao bc bL bx (IntKind.wrap .u64 (ba-1)) (IntKind.wrap .u64 (ca+s9)))
 else some (s2,s8,s9,ao,bc,bL,bx,ba)
def Sw (k:Nat):Nat→Su:=vH (fun _ _ _ _ _ _ _ _ _=>none) (qXd k)
abbrev Sx:Type:=Int→Int→Int→Int→Int→Int→Int→Int→Int→Option Im
def yFo (k:Nat)(rec:Sx)(s2 s8 s9 ao bx ba ca bj mu:Int):Option Im:=
 bif decide (mu ≥ 4294967296) then (bif decide ((IntKind.wrap .u64 (ca+s9))≥4294967296) then some (s2,s8,bx,ba,bj,(IntKind.wrap .u64 (mu-1)))
  else rec s2 s8 s9 ao bx ba (IntKind.wrap .u64 (ca+s9)) bj (IntKind.wrap .u64 (mu-1)))
 else bif decide ((IntKind.wrap .u64 (mu * ao)) > (IntKind.wrap .u64 ((IntKind.wrap .u64 (4294967296 * ca)) + bx))) then (bif decide ((IntKind.wrap .u64 (ca+s9))≥4294967296) then some (s2,s8,bx,ba,bj,(IntKind.wrap .u64 (mu-1)))
  else rec s2 s8 s9 ao bx ba (IntKind.wrap .u64 (ca+s9)) bj (IntKind.wrap .u64 (mu-1)))
 else some (s2,s8,bx,ba,bj,mu)
def Sz (k:Nat):Nat→Sx:=vH (fun _ _ _ _ _ _ _ _ _=>none) (yFo k)
def KN (k:Nat)(a0 a1 a2:Int):Option wD:=
 bif decide (a2=0) then none
 else bif decide (a2≤a0) then none
 else bif decide (a0 = 0) then (bif !(decide (a2 = 0)) then (bif !(decide (a2=0)) then some ((IntKind.wrap .u64 (Int.tdiv a1 a2)),(Int.tmod a1 a2))
   else none)
  else none)
 else(yJv k a2).bind fun x0=>
 bif !(decide ((IntKind.wrap .u64 (x0)) < 0)) then (bif !(decide ((IntKind.wrap .u64 (x0)) < 0)) then (bif !(decide ((IntKind.wrap .u64 (64 - (IntKind.wrap .u64 (x0)))) < 0)) then (bif !(decide ((IntKind.wrap .u64 (x0)) < 0)) then (bif !(decide ((shr .u64 (shl .u64 a2 (IntKind.wrap .u64 (x0))) 32) = 0)) then ((Sw k k (shl .u64 a2 (IntKind.wrap .u64 (x0))) (IntKind.wrap .u64 (x0)) (shr .u64 (shl .u64 a2 (IntKind.wrap .u64 (x0))) 32) (yA .u64 (shl .u64 a2 (IntKind.wrap .u64 (x0))) 4294967295) (fe .u64 (shl .u64 a0 (IntKind.wrap .u64 (x0))) (shr .u64 a1 (IntKind.wrap .u64 (64-(IntKind.wrap .u64 (x0)))))) (shr .u64 (shl .u64 a1 (IntKind.wrap .u64 (x0))) 32) (yA .u64 (shl .u64 a1 (IntKind.wrap .u64 (x0))) 4294967295) (IntKind.wrap .u64 (Int.tdiv (fe .u64 (shl .u64 a0 (IntKind.wrap .u64 (x0))) (shr .u64 a1 (IntKind.wrap .u64 (64-(IntKind.wrap .u64 (x0)))))) (shr .u64 (shl .u64 a2 (IntKind.wrap .u64 (x0))) 32))) (IntKind.wrap .u64 ((fe .u64 (shl .u64 a0 (IntKind.wrap .u64 (x0))) (shr .u64 a1 (IntKind.wrap .u64 (64-(IntKind.wrap .u64 (x0))))))-(IntKind.wrap .u64 ((IntKind.wrap .u64 (Int.tdiv (fe .u64 (shl .u64 a0 (IntKind.wrap .u64 (x0))) (shr .u64 a1 (IntKind.wrap .u64 (64-(IntKind.wrap .u64 (x0)))))) (shr .u64 (shl .u64 a2 (IntKind.wrap .u64 (x0))) 32)))*(shr .u64 (shl .u64 a2 (IntKind.wrap .u64 (x0))) 32)))))).bind fun z=>
      bif !(decide (z.2.2.1 = 0)) then ((Sz k k z.1 z.2.1 z.2.2.1 z.2.2.2.1 z.2.2.2.2.2.2.1 z.2.2.2.2.2.2.2 (IntKind.wrap .u64 ((IntKind.wrap .u64 ((IntKind.wrap .u64 ((IntKind.wrap .u64 (z.2.2.2.2.1*4294967296))+z.2.2.2.2.2.1))-(IntKind.wrap .u64 (z.2.2.2.2.2.2.2*z.1))))-(IntKind.wrap .u64 ((IntKind.wrap .u64 (Int.tdiv (IntKind.wrap .u64 ((IntKind.wrap .u64 ((IntKind.wrap .u64 (z.2.2.2.2.1*4294967296))+z.2.2.2.2.2.1))-(IntKind.wrap .u64 (z.2.2.2.2.2.2.2*z.1)))) z.2.2.1))*z.2.2.1)))) (IntKind.wrap .u64 ((IntKind.wrap .u64 ((IntKind.wrap .u64 (z.2.2.2.2.1*4294967296))+z.2.2.2.2.2.1))-(IntKind.wrap .u64 (z.2.2.2.2.2.2.2*z.1)))) (IntKind.wrap .u64 (Int.tdiv (IntKind.wrap .u64 ((IntKind.wrap .u64 ((IntKind.wrap .u64 (z.2.2.2.2.1*4294967296))+z.2.2.2.2.2.1))-(IntKind.wrap .u64 (z.2.2.2.2.2.2.2*z.1)))) z.2.2.1))).bind fun z1=>
       bif !(decide (z1.2.1<0)) then some ((IntKind.wrap .u64 ((IntKind.wrap .u64 (z1.2.2.2.1*4294967296))+z1.2.2.2.2.2)),(shr .u64 (IntKind.wrap .u64 ((IntKind.wrap .u64 ((IntKind.wrap .u64 (z1.2.2.2.2.1*4294967296))+z1.2.2.1))-(IntKind.wrap .u64 (z1.2.2.2.2.2*z1.1)))) z1.2.1))
       else none)
      else none)
     else none)
    else none)
   else none)
  else none)
 else none
def KO (k:Nat)(a0 a1 a2:Int):Option wW:=
 bif decide (a0<0) then some (0,false)
 else bif decide (a1<0) then some (0,false)
 else(QQ k a2).bind fun x0=>
 bif !x0 then some (0,false)
 else(Gv k (IntKind.wrap .u64 (a0)) (IntKind.wrap .u64 (a1))).bind fun x1=>
 (KN k (Int.tmod x1.1 10000) x1.2 10000).bind fun x2=>
 (Gv k x2.1 (IntKind.wrap .u64 ((zA (10000-a2))))).bind fun x3=>
 (Ar k x3.2 (IntKind.wrap .u64 (Int.tdiv (IntKind.wrap .u64 (x2.2*(IntKind.wrap .u64 ((zA (10000-a2)))))) 10000)) 0).bind fun x4=>
 bif decide ((IntKind.wrap .u64 (Int.tdiv x1.1 10000)) > 0) then (bif decide ((IntKind.wrap .u64 ((zA (10000-a2))))>0) then some (0,false)
  else bif decide ((IntKind.wrap .u64 (x3.1+x4.2))>0) then some (0,false)
  else bif decide (x4.1>9223372036854775807) then some (0,false)
  else some ((zA (x4.1)),true))
 else bif decide ((IntKind.wrap .u64 (x3.1+x4.2))>0) then some (0,false)
 else bif decide (x4.1>9223372036854775807) then some (0,false)
 else some ((zA (x4.1)),true)
abbrev SC:Type:=Int→Int→AC→Int→Int→Option wD
def BQ (k:Nat)(rec:SC)(s4 s5:Int)(s9:AC)(ao bc:Int):Option wD:=
 bif decide (bc < ao) then (bif zC bc s9.length then ((Ar k s5 (IntKind.wrap .u64 ((s9.getD bc.toNat 0))) 0).bind fun x0=>
   rec (zA (s4+(zA ((shr .i64 (s9.getD bc.toNat 0) 63)+(zA (x0.2)))))) x0.1 s9 ao (zA (bc+1)))
  else none)
 else some (s4,s5)
def BP (k:Nat):Nat→SC
 |0,_,_,_,_,_=>none
 |n+1,s4,s5,s9,ao,bc=>BQ k (BP k n) s4 s5 s9 ao bc
def BO (k:Nat)(a0:AC):Option wW:=
 (BP k k 0 0 a0 (a0.length:Int) 0).bind fun z=>
 bif !(decide (z.1=(shr .i64 (zA (z.2)) 63))) then some (0,false)
 else some ((zA (z.2)),true)
abbrev SE:Type:=AC→AC→List wD→Int→Int→AC→Option (AC⊕wW)
def BS (k:Nat)(rec:SE)(s1 s2:AC)(gV:List wD)(aR ee:Int)(r0:AC):Option (AC⊕wW):=
 bif decide (ee < aR) then (bif zC ee gV.length then (bif zC ee s1.length then (bif zC ee s2.length then ((KO k (s1.getD ee.toNat 0) (s2.getD ee.toNat 0) (gV.getD ee.toNat (0,0)).2).bind fun x0=>
     bif !x0.2 then some (.inr (0,false))
     else bif zR (r0.length+1) 8 then(rec s1 s2 gV aR (zA (ee+1)) (r0++[x0.1]))
     else none)
    else none)
   else none)
  else none)
 else some (.inl r0)
def BR (k:Nat):Nat→SE:=vH (fun _ _ _ _ _ _=>none) (BS k)
def oD (k:Nat)(a0:List wD)(a1 a2:AC):Option wW:=
 bif !(decide ((a1.length:Int)=(a0.length:Int))) then some (0,false)
 else bif !(decide ((a2.length:Int)=(a0.length:Int))) then some (0,false)
 else(BR k k a1 a2 a0 (a0.length:Int) 0 []).bind fun z=>
 match z with
 |.inl z1=>(BO k z1).bind fun x1=>
  some (x1.1,x1.2)
 |.inr z2=>some (z2.1,z2.2)
def R0 (k:Nat)(a0:Int):Option Bool:=
 some (decide (a0>1099511627776))
def Du (k:Nat)(rec:Sb)(s0:AC)(s7 s8:Int):Option (Unit⊕Int):=
 bif decide (s8 < s7) then (bif zC s8 s0.length then ((R0 k (s0.getD s8.toNat 0)).bind fun x0=>
   bif x0 then some (.inr s8)
   else rec s0 s7 (zA (s8+1)))
  else none)
 else some (.inl ())
def xy (k:Nat):Nat→Sb
 |0,_,_,_=>none
 |n+1,s0,s7,s8=>Du k (xy k n) s0 s7 s8
def R1 (k:Nat)(a0:AC):Option Int:=
 (xy k k a0 (a0.length:Int) 0).bind fun z=>
 match z with
 |.inl z1=>some (-1)
 |.inr z2=>some z2
def LX (k:Nat)(a0:AC):Option Bool:=
 (R1 k a0).bind fun x0=>
 some (decide (x0≥0))
abbrev SI:Type:=EQ→Int→Int→yJ→yM→Option (Unit⊕Bool)
def Dv (k:Nat)(rec:SI)(iX:EQ)(eg ke:Int)(b0:yJ)(b1:yM):Option (Unit⊕Bool):=
 bif decide (ke < eg) then (bif zC ke iX.length then ((oD k b0.2.1 b1.2.2.2.2.2.1 (iX.getD ke.toNat [])).bind fun x1=>
   bif !x1.2 then some (.inr false)
   else bif decide (x1.1>1152921504606846976) then some (.inr false)
   else bif zC ke b1.2.1.length then (bif !(decide (x1.1=(b1.2.1.getD ke.toNat (0,0,0)).2.1)) then some (.inr false)
    else(LX k (iX.getD ke.toNat [])).bind fun x2=>
    bif x2 then some (.inr false)
    else rec iX eg (zA (ke+1)) b0 b1)
   else none)
  else none)
 else some (.inl ())
def tN (k:Nat):Nat→SI:=vH (fun _ _ _ _ _=>none) (Dv k)
def HE (k:Nat)(a0:yJ)(a1:yM):Option Bool:=
 bif !(decide ((a1.2.2.2.2.2.1.length:Int)=(a0.2.1.length:Int))) then some false
 else bif !(decide ((a1.2.2.2.2.2.2.1.length:Int)=a0.1)) then some false
 else(HD k a1.2.2.2.2.2.1).bind fun x0=>
 bif x0 then some false
 else(tN k k a1.2.2.2.2.2.2.1 (a1.2.2.2.2.2.2.1.length:Int) 0 a0 a1).bind fun z=>
 match z with
 |.inl z1=>some true
 |.inr z2=>some z2
def QG (k:Nat)(bU aq bq aB az aI aN a1:Int):Option Bool:=
 some (decide (bU=a1))
abbrev SK:Type:=List zB→Int→Int→Int→Option (Unit⊕Int)
def BD (k:Nat)(rec:SK)(s0:List zB)(s7 s8 aa:Int):Option (Unit⊕Int):=
 bif decide (s8 < s7) then (bif zC s8 s0.length then ((QG k (s0.getD s8.toNat (0,0,0,0,0,0,0)).1 (s0.getD s8.toNat (0,0,0,0,0,0,0)).2.1 (s0.getD s8.toNat (0,0,0,0,0,0,0)).2.2.1 (s0.getD s8.toNat (0,0,0,0,0,0,0)).2.2.2.1 (s0.getD s8.toNat (0,0,0,0,0,0,0)).2.2.2.2.1 (s0.getD s8.toNat (0,0,0,0,0,0,0)).2.2.2.2.2.1 (s0.getD s8.toNat (0,0,0,0,0,0,0)).2.2.2.2.2.2 aa).bind fun x0=>
   bif x0 then some (.inr s8)
   else rec s0 s7 (zA (s8+1)) aa)
  else none)
 else some (.inl ())
def BC (k:Nat):Nat→SK
 |0,_,_,_,_=>none
 |n+1,s0,s7,s8,aa=>BD k (BC k n) s0 s7 s8 aa
def QH (k:Nat)(a0:List zB)(cH:Int):Option Int:=
 (BC k k a0 (a0.length:Int) 0 cH).bind fun z=>
 match z with
 |.inl z1=>some (-1)
 |.inr z2=>some z2
def mc (k:Nat)(a0:List zB)(a1:Int):Option Int:=
 (QH k a0 a1).bind fun x0=>
 some x0
def KE (k:Nat)(a0:Int):Option Bool:=
 some (!(decide (a0=a0)))
def Gm (k:Nat)(a0 a1:Int):Option Int:=
 (KE k a0).bind fun x0=>
 (KE k a1).bind fun x1=>
 bif x0 then (bif x1 then some 0
  else some (-1))
 else bif x1 then some 1
 else bif decide (a0<a1) then some (-1)
 else bif decide (a0>a1) then some 1
 else some 0
abbrev SN:Type:=Int→AC→Int→Int→Option (Int⊕Int)
def yO6 (k:Nat)(rec:SN)(s3:Int)(s6:AC)(s7 s8:Int):Option (Int⊕Int):=
 bif decide (s8 < s7) then (bif zC s8 s6.length then (bif !(decide ((s6.getD s8.toNat 0)=s3)) then some (.inr (s6.getD s8.toNat 0))
   else rec s3 s6 s7 (zA (s8+1)))
  else none)
 else some (.inl s3)
def Gl (k:Nat):Nat→SN
 |0,_,_,_,_=>none
 |n+1,s3,s6,s7,s8=>yO6 k (Gl k n) s3 s6 s7 s8
def KD (k:Nat)(a0:AC):Option Int:=
 (Gl k k 0 a0 (a0.length:Int) 0).bind fun z=>
 match z with
 |.inl z1=>some z1
 |.inr z2=>some z2
def BE (k:Nat)(bU aq bq aB az aI aN oS gi ka lE kb rz rA:Int):Option Int:=
 (Gm k aq gi).bind fun x0=>
 (Gm k az kb).bind fun x1=>
 (KD k [x0,x1]).bind fun x2=>
 some x2
abbrev SP:Type:=List zB→Int→Option (Unit⊕Bool)
def LU (k:Nat)(rec:SP)(s0:List zB)(s5:Int):Option (Unit⊕Bool):=
 bif decide (s5 > 0) then (bif zC s5 s0.length then (bif zC (zA (s5 - 1)) s0.length then ((BE k (s0.getD s5.toNat (0,0,0,0,0,0,0)).1 (s0.getD s5.toNat (0,0,0,0,0,0,0)).2.1 (s0.getD s5.toNat (0,0,0,0,0,0,0)).2.2.1 (s0.getD s5.toNat (0,0,0,0,0,0,0)).2.2.2.1 (s0.getD s5.toNat (0,0,0,0,0,0,0)).2.2.2.2.1 (s0.getD s5.toNat (0,0,0,0,0,0,0)).2.2.2.2.2.1 (s0.getD s5.toNat (0,0,0,0,0,0,0)).2.2.2.2.2.2 (s0.getD (zA (s5-1)).toNat (0,0,0,0,0,0,0)).1 (s0.getD (zA (s5-1)).toNat (0,0,0,0,0,0,0)).2.1 (s0.getD (zA (s5-1)).toNat (0,0,0,0,0,0,0)).2.2.1 (s0.getD (zA (s5-1)).toNat (0,0,0,0,0,0,0)).2.2.2.1 (s0.getD (zA (s5-1)).toNat (0,0,0,0,0,0,0)).2.2.2.2.1 (s0.getD (zA (s5-1)).toNat (0,0,0,0,0,0,0)).2.2.2.2.2.1 (s0.getD (zA (s5-1)).toNat (0,0,0,0,0,0,0)).2.2.2.2.2.2).bind fun x0=>
    bif decide (x0<0) then some (.inr false)
    else rec s0 (zA (s5-1)))
   else none)
  else none)
 else some (.inl ())
def Hy (k:Nat):Nat→SP:=vH (fun _ _=>none) (LU k)
def LS (k:Nat)(a0:List zB):Option Bool:=
 (Hy k k a0 (zA ((a0.length:Int)-1))).bind fun z=>
 match z with
 |.inl z1=>some true
 |.inr z2=>some z2
abbrev SU:Type:=(List zB)⊕Bool
abbrev SR:Type:=List zB→List zB→Int→Int→Option SU
def Dq (k:Nat)(rec:SR)(s0 s5:List zB)(s6 s7:Int):Option SU:=
 bif decide (s7 < s6) then (bif zC s7 s5.length then ((mc k s0 (s5.getD s7.toNat (0,0,0,0,0,0,0)).1).bind fun x0=>
   bif !(decide (x0=s7)) then some (.inr false)
   else rec s0 s5 s6 (zA (s7+1)))
  else none)
 else some (.inl s0)
def xv (k:Nat):Nat→SR
 |0,_,_,_,_=>none
 |n+1,s0,s5,s6,s7=>Dq k (xv k n) s0 s5 s6 s7
def Hw (k:Nat)(a0:List zB):Option Bool:=
 (xv k k a0 a0 (a0.length:Int) 0).bind fun z=>
 match z with
 | .inl z1 => bif decide ((z1.length : Int) ≤ 40) then ((LS k z1).bind fun x1=>
   some x1)
  else some false
 |.inr z2=>some z2
abbrev SW:Type:=AC→Int→AC→Int→Int→Option (AC⊕Bool)
def Dr (k:Nat)(rec:SW)(s0:AC)(s3:Int)(s6:AC)(s7 s8:Int):Option (AC⊕Bool):=
 bif decide (s8 < s7) then (bif zC s8 s6.length then (bif decide ((s6.getD s8.toNat 0)≤s3) then some (.inr false)
   else rec s0 (s6.getD s8.toNat 0) s6 s7 (zA (s8+1)))
  else none)
 else some (.inl s0)
def HA (k:Nat):Nat→SW:=vH (fun _ _ _ _ _=>none) (Dr k)
def Hz (k:Nat)(a0:AC):Option Bool:=
 (HA k k a0 0 a0 (a0.length:Int) 0).bind fun z=>
 match z with
 |.inl z1=>some (decide ((z1.length:Int)≤200))
 |.inr z2=>some z2
def AQ (k:Nat)(aL:List zH)(aZ:EQ)(aW:AC)(aT:EQ)(oS gi ka lE kb rz rA:Int):Option Bool:=
 bif decide (gi ≥ 0) then (bif decide (gi < (aL.length : Int)) then (bif decide (ka ≥ 0) then (bif decide (ka < (aL.length : Int)) then (bif !(decide (gi = ka)) then (bif decide (lE ≥ 1) then (bif decide (lE ≤ 1099511627776) then (bif decide (kb≥1) then some (decide (kb≤3))
        else some false)
       else some false)
      else some false)
     else some false)
    else some false)
   else some false)
  else some false)
 else some false
def KH (k:Nat)(a0:Int):Option Bool:=
 some (!(decide (a0=a0)))
def KG (k:Nat)(a0 a1:Int):Option Bool:=
 (KH k a0).bind fun x0=>
 bif x0 then ((KH k a1).bind fun x1=>
  bif !x1 then some true
  else some (decide (a0<a1)))
 else some (decide (a0<a1))
def KJ (k:Nat)(a0:Int):Option Bool:=
 some (!(decide (a0=a0)))
abbrev S1:Type:=AC×Int×Int×Int
abbrev SZ:Type:=AC→Int→Int→Int→Int→Option S1
def KI (k:Nat)(rec:SZ)(s0:AC)(s1 s6 s7 s8:Int):Option S1:=
 bif decide (s7 < s8) then (bif zC (zA ((shr .u64 (IntKind.wrap .u64 ((zA (s7 + s8)))) 1))) s0.length then ((KG k (s0.getD (zA ((shr .u64 (IntKind.wrap .u64 ((zA (s7+s8)))) 1))).toNat 0) s1).bind fun x0=>
   bif x0 then(rec s0 s1 s6 (zA ((zA ((shr .u64 (IntKind.wrap .u64 ((zA (s7+s8)))) 1)))+1)) s8)
   else rec s0 s1 s6 s7 (zA ((shr .u64 (IntKind.wrap .u64 ((zA (s7+s8)))) 1))))
  else none)
 else some (s0,s1,s6,s7)
def Gu (k:Nat):Nat→SZ:=vH (fun _ _ _ _ _=>none) (KI k)
def BM (k:Nat)(a0:AC)(a1:Int):Option wW:=
 (Gu k k a0 a1 (a0.length:Int) 0 (a0.length:Int)).bind fun z=>
 bif decide (z.2.2.2 < z.2.2.1) then (bif zC z.2.2.2 z.1.length then (bif decide ((z.1.getD z.2.2.2.toNat 0)=z.2.1) then some (z.2.2.2,true)
   else bif zC z.2.2.2 z.1.length then ((KJ k (z.1.getD z.2.2.2.toNat 0)).bind fun x1=>
    bif x1 then ((KJ k z.2.1).bind fun x2=>
     some (z.2.2.2,x2))
    else some (z.2.2.2,false))
   else none)
  else none)
 else some (z.2.2.2,false)
def KK (k:Nat)(a0:AC)(a1:Int):Option Bool:=
 (BM k a0 a1).bind fun x0=>
 some x0.2
def LW (k:Nat)(a0:zB)(a1:yM):Option Bool:=
 (AQ k a1.2.1 a1.2.2.1 a1.2.2.2.1 a1.2.2.2.2.1 a0.1 a0.2.1 a0.2.2.1 a0.2.2.2.1 a0.2.2.2.2.1 a0.2.2.2.2.2.1 a0.2.2.2.2.2.2).bind fun x0=>
 bif !x0 then some true
 else bif decide (a0.2.2.2.2.2.1<0) then some true
 else(yW k a0.2.2.2.2.2.2 a0.2.2.2.2.2.1 1048576).bind fun x1=>
 bif !x1 then some true
 else(KK k a1.2.2.2.2.2.2.2.2.1 a0.1).bind fun x2=>
 some (!x2)
abbrev S2:Type:=List zB→Int→Int→Int→List zH→EQ→AC→EQ→AC→EQ→List zB→AC→Int→Bool→Option (Unit⊕Int)
def Ds (k:Nat)(rec:S2)(s0:List zB)(s7 s8 aa:Int)(ae:List zH)(af:EQ)(ab:AC)(aV:EQ)(bd:AC)(bg:EQ)(du:List zB)(dv:AC)(dw:Int)(bR:Bool):Option (Unit⊕Int):=
 bif decide (s8 < s7) then (bif zC s8 s0.length then ((LW k (s0.getD s8.toNat (0,0,0,0,0,0,0)) (aa,ae,af,ab,aV,bd,bg,du,dv,dw,bR)).bind fun x0=>
   bif x0 then some (.inr s8)
   else rec s0 s7 (zA (s8+1)) aa ae af ab aV bd bg du dv dw bR)
  else none)
 else some (.inl ())
def xw (k:Nat):Nat→S2
 |0,_,_,_,_,_,_,_,_,_,_,_,_,_,_=>none
 |n+1,s0,s7,s8,aa,ae,af,ab,aV,bd,bg,du,dv,dw,bR=>Ds k (xw k n) s0 s7 s8 aa ae af ab aV bd bg du dv dw bR
def RX (k:Nat)(a0:List zB)(ez:Int)(bM:List zH)(cd:EQ)(cf:AC)(cg:EQ)(cU:AC)(dH:EQ)(eA:List zB)(gj:AC)(dI:Int)(eC:Bool):Option Int:=
 (xw k k a0 (a0.length:Int) 0 ez bM cd cf cg cU dH eA gj dI eC).bind fun z=>
 match z with
 |.inl z1=>some (-1)
 |.inr z2=>some z2
def LV (k:Nat)(a0:List zB)(ez:Int)(bM:List zH)(cd:EQ)(cf:AC)(cg:EQ)(cU:AC)(dH:EQ)(eA:List zB)(gj:AC)(dI:Int)(eC:Bool):Option Bool:=
 (RX k a0 ez bM cd cf cg cU dH eA gj dI eC).bind fun x0=>
 some (decide (x0≥0))
def HB (k:Nat)(a0:yM):Option Bool:=
 (Hw k a0.2.2.2.2.2.2.2.1).bind fun x0=>
 bif x0 then ((Hz k a0.2.2.2.2.2.2.2.2.1).bind fun x1=>
  bif x1 then ((LV k a0.2.2.2.2.2.2.2.1 a0.1 a0.2.1 a0.2.2.1 a0.2.2.2.1 a0.2.2.2.2.1 a0.2.2.2.2.2.1 a0.2.2.2.2.2.2.1 a0.2.2.2.2.2.2.2.1 a0.2.2.2.2.2.2.2.2.1 a0.2.2.2.2.2.2.2.2.2.1 a0.2.2.2.2.2.2.2.2.2.2).bind fun x2=>
   some (!x2))
  else some false)
 else some false
def w9 (k:Nat)(cO:Int)(dy:List wD)(dz cP bV a1:Int):Option Bool:=
 some (decide (a1=cP))
abbrev S6:Type:=yJ×yM×AC
abbrev S4:Type:=List zH→Int→Int→yJ→yM→AC→Option S6
def Dx (k:Nat)(rec:S4)(lF:List zH)(s45 M6:Int)(b0:yJ)(b1:yM)(r2:AC):Option S6:=
 bif decide (M6 < s45) then (bif zC M6 lF.length then (bif zR (r2.length+1) 8 then(rec lF s45 (zA (M6+1)) b0 b1 (r2++[(lF.getD M6.toNat (0,0,0)).1]))
   else none)
  else none)
 else some (b0,b1,r2)
def Dw (k:Nat):Nat→S4:=vH (fun _ _ _ _ _ _=>none) (Dx k)
def LY (k:Nat)(a0:yJ)(a1:yM):Option Bool:=
 (yW k a1.1 0 a0.2.2.2.1).bind fun x0=>
 bif !x0 then some false
 else(vz k a1.2.1 a1.2.2.1 a1.2.2.2.1 a1.2.2.2.2.1).bind fun x1=>
 bif !x1 then some false
 else bif !(decide ((a1.2.1.length:Int)=a0.1)) then some false
 else(HE k a0 a1).bind fun x2=>
 bif !x2 then some false
 else(HB k a1).bind fun x3=>
 bif !x3 then some false
 else(Dw k k a1.2.1 (a1.2.1.length:Int) 0 a0 a1 []).bind fun z=>
 (BO k z.2.2).bind fun x4=>
 bif !x4.2 then some false
 else bif !(decide (x4.1=z.2.1.2.2.2.2.2.2.2.2.2.1)) then some false
 else(yW k x4.1 0 1152921504606846976).bind fun x5=>
 bif !x5 then some false
 else(w9 k z.1.1 z.1.2.1 z.1.2.2.1 z.1.2.2.2.1 z.1.2.2.2.2 z.2.1.1).bind fun x6=>
 bif gX z.2.1.2.2.2.2.2.2.2.2.2.2 x6 then (bif !z.2.1.2.2.2.2.2.2.2.2.2.2 then some true
  else some (decide ((z.2.1.2.2.2.2.2.2.2.1.length:Int)=0)))
 else some false
abbrev S7:Type:=EQ→Int→Int→Option (Unit⊕Bool)
def Av (k:Nat)(rec:S7)(s0:EQ)(s1 s5:Int):Option (Unit⊕Bool):=
 bif decide (s5 < s1) then (bif zC s5 s0.length then (bif !(decide (((s0.getD s5.toNat []).length:Int)=s1)) then some (.inr false)
   else rec s0 s1 (zA (s5+1)))
  else none)
 else some (.inl ())
def Fv (k:Nat):Nat→S7
 |0,_,_,_=>none
 |n+1,s0,s1,s5=>Av k (Fv k n) s0 s1 s5
def Fu (k:Nat)(a0:EQ)(a1:Int):Option Bool:=
 bif !(decide ((a0.length:Int)=a1)) then some false
 else(Fv k k a0 a1 0).bind fun z=>
 match z with
 |.inl z1=>some true
 |.inr z2=>some z2
def Fs (k:Nat)(bm bz aP:Int):Option Bool:=
 bif decide (bm > (-4611686018427387904)) then (bif decide (bm < 4611686018427387904) then (bif decide (bz ≥ 0) then (bif decide (bz ≤ 2305843009213693952) then (bif decide (aP≥0) then some (decide (aP≤2305843009213693952))
     else some false)
    else some false)
   else some false)
  else some false)
 else some false
def Ft (k:Nat)(a0:Int):Option Bool:=
 bif decide (a0≥(-1)) then some (decide (a0≤2305843009213693952))
 else some false
abbrev Td:Type:=(Int×Int×(List zH)×EQ×AC×EQ)⊕Bool
abbrev Tb:Type:=Int→Int→Int→List zH→EQ→AC→EQ→Option Td
def Ax (k:Nat)(rec:Tb)(s3 s4 s5:Int)(aa:List zH)(ae:EQ)(af:AC)(ab:EQ):Option Td:=
 bif decide (s5 < s3) then (bif zC s4 ae.length then (bif zC s5 (ae.getD s4.toNat []).length then ((Ft k ((ae.getD s4.toNat []).getD s5.toNat 0)).bind fun x4=>
    bif !x4 then some (.inr false)
    else bif zC s4 ab.length then (bif zC s5 (ab.getD s4.toNat []).length then (bif decide (((ab.getD s4.toNat []).getD s5.toNat 0)≤(-72057594037927936)) then some (.inr false)
      else bif zC s4 ab.length then (bif zC s5 (ab.getD s4.toNat []).length then (bif decide (((ab.getD s4.toNat []).getD s5.toNat 0)≥72057594037927936) then some (.inr false)
        else bif zC s4 ab.length then (bif zC s5 (ab.getD s4.toNat []).length then (bif zC s5 ab.length then (bif zC s4 (ab.getD s5.toNat []).length then (bif !(decide (((ab.getD s4.toNat []).getD s5.toNat 0)=(zA (0-((ab.getD s5.toNat []).getD s4.toNat 0))))) then some (.inr false)
            else rec s3 s4 (zA (s5+1)) aa ae af ab)
           else none)
          else none)
         else none)
        else none)
       else none)
      else none)
     else none)
    else none)
   else none)
  else none)
 else some (.inl (s3,s4,aa,ae,af,ab))
def Aw (k:Nat):Nat→Tb
 |0,_,_,_,_,_,_,_=>none
 |n+1,s3,s4,s5,aa,ae,af,ab=>Ax k (Aw k n) s3 s4 s5 aa ae af ab
abbrev Te:Type:=Int→Int→List zH→EQ→AC→EQ→Option (Unit⊕Bool)
def Az (k:Nat)(rec:Te)(s3 s4:Int)(aa:List zH)(ae:EQ)(af:AC)(ab:EQ):Option (Unit⊕Bool):=
 bif decide (s4 < s3) then (bif zC s4 aa.length then ((Fs k (aa.getD s4.toNat (0,0,0)).1 (aa.getD s4.toNat (0,0,0)).2.1 (aa.getD s4.toNat (0,0,0)).2.2).bind fun x2=>
   bif !x2 then some (.inr false)
   else bif zC s4 af.length then ((Ft k (af.getD s4.toNat 0)).bind fun x3=>
    bif !x3 then some (.inr false)
    else(Aw k k s3 s4 0 aa ae af ab).bind fun z=>
    match z with
    |.inl z1=>rec z1.1 (zA (z1.2.1+1)) z1.2.2.1 z1.2.2.2.1 z1.2.2.2.2.1 z1.2.2.2.2.2
    |.inr z2=>some (.inr z2))
   else none)
  else none)
 else some (.inl ())
def Ay (k:Nat):Nat→Te
 |0,_,_,_,_,_,_=>none
 |n+1,s3,s4,aa,ae,af,ab=>Az k (Ay k n) s3 s4 aa ae af ab
def AA (k:Nat)(aL:List zH)(aZ:EQ)(aW:AC)(aT:EQ):Option Bool:=
 bif decide ((aL.length:Int)<1) then some false
 else bif decide ((aL.length:Int)>6) then some false
 else(Fu k aZ (aL.length:Int)).bind fun x0=>
 bif !x0 then some false
 else(Fu k aT (aL.length:Int)).bind fun x1=>
 bif !x1 then some false
 else bif !(decide ((aW.length:Int)=(aL.length:Int))) then some false
 else(Ay k k (aL.length:Int) 0 aL aZ aW aT).bind fun z3=>
 match z3 with
 |.inl z4=>some true
 |.inr z5=>some z5
def Lh (k:Nat)(a0:Int):Option AC:=
 some [(yA .i64 a0 65535),(yA .i64 (shr .i64 a0 16) 65535),(yA .i64 (shr .i64 a0 32) 65535),(yA .i64 (shr .i64 a0 48) 65535)]
def qXa (k:Nat)(rec:Int→AC→Option AC)(s3:Int)(r0:AC):Option AC:=
 bif decide ((zA (s3 + 1)) < (r0.length : Int)) then (bif zC (zA (s3 + 1)) r0.length then (bif zC s3 r0.length then (bif zC (zA (s3 + 1)) r0.length then (let y0:AC:=(r0.set (zA (s3+1)).toNat (zA ((r0.getD (zA (s3+1)).toNat 0)+(shr .i64 (r0.getD s3.toNat 0) 16))))
     bif zC s3 y0.length then (bif zC s3 y0.length then(rec (zA (s3+1)) (y0.set s3.toNat (yA .i64 (y0.getD s3.toNat 0) 65535)))
      else none)
     else none)
    else none)
   else none)
  else none)
 else some r0
def Tj (k:Nat):Nat→Int→AC→Option AC:=vH (fun _ _=>none) (qXa k)
def Cz (k:Nat)(a0:AC):Option AC:=
 (Tj k k 0 a0).bind fun z=>
 some z
abbrev Tm:Type:=Int×Int×AC×AC
abbrev Tk:Type:=Int→Int→Int→AC→AC→Option Tm
def yF8 (k:Nat)(rec:Tk)(s1 s7 s8:Int)(r0 r1:AC):Option Tm:=
 bif decide (s8 < 4) then (bif !(decide ((IntKind.wrap .u64 ((zA (16 * s8)))) < 0)) then (bif zC (zA (s7 + s8)) r1.length then (bif zC s7 r0.length then (bif zC (zA (s7 + s8)) r1.length then (let y0:AC:=(r1.set (zA (s7+s8)).toNat (zA ((r1.getD (zA (s7+s8)).toNat 0)+(zA ((r0.getD s7.toNat 0)*(yA .i64 (shr .i64 s1 (IntKind.wrap .u64 ((zA (16*s8))))) 65535))))))
      rec s1 s7 (zA (s8+1)) r0 y0)
     else none)
    else none)
   else none)
  else none)
 else some (s1,s7,r0,r1)
def Tn (k:Nat):Nat→Tk:=vH (fun _ _ _ _ _=>none) (yF8 k)
abbrev To:Type:=Int→Int→AC→AC→Option AC
def yQq (k:Nat)(rec:To)(s1 s7:Int)(r0 r1:AC):Option AC:=
 bif decide (s7 < 4) then ((Tn k k s1 s7 0 r0 r1).bind fun z=>
  rec z.1 (zA (z.2.1+1)) z.2.2.1 z.2.2.2)
 else some r1
def Lf (k:Nat):Nat→To:=vH (fun _ _ _ _=>none) (yQq k)
def Lg (k:Nat)(a0 a1:Int):Option AC:=
 (Lh k a0).bind fun x0=>
 (Lf k k a1 0 x0 [0,0,0,0,0,0,0,0,0]).bind fun z1=>
 (Cz k z1).bind fun x1=>
 some x1
def yR8 (k:Nat)(rec:Int→Int→AC→Option AC)(s1 s5:Int)(r0:AC):Option AC:=
 bif decide (s5 < (r0.length : Int)) then (bif zC s5 r0.length then (bif zC s5 r0.length then(rec s1 (zA (s5+1)) (r0.set s5.toNat (zA ((r0.getD s5.toNat 0)*s1))))
   else none)
  else none)
 else some r0
def Ld (k:Nat):Nat→Int→Int→AC→Option AC:=vH (fun _ _ _=>none) (yR8 k)
def Lc (k:Nat)(a0:AC)(a1:Int):Option AC:=
 (Ld k k a1 0 a0).bind fun z=>
 (Cz k z).bind fun x0=>
 some x0
abbrev Tt:Type:=Int→Int→Int→AC→Option AC
def yFw (k:Nat)(rec:Tt)(s1 s6 s7:Int)(r0:AC):Option AC:=
 bif decide (s7 ≥ 0) then (bif zC s7 r0.length then (bif !(decide (s1 = 0)) then (bif zC s7 r0.length then (let y0:AC:=(r0.set s7.toNat (zA (Int.tdiv (zA ((shl .i64 s6 16)+(r0.getD s7.toNat 0))) s1)))
     bif !(decide (s1=0)) then(rec s1 (Int.tmod (zA ((shl .i64 s6 16)+(r0.getD s7.toNat 0))) s1) (zA (s7-1)) y0)
     else none)
    else none)
   else none)
  else none)
 else some r0
def GY (k:Nat):Nat→Tt:=vH (fun _ _ _ _=>none) (yFw k)
abbrev Tu:Type:=Int→AC→Option (AC⊕wW)
def yRt (k:Nat)(rec:Tu)(s9:Int)(r0:AC):Option (AC⊕wW):=
 bif decide (s9 < (r0.length : Int)) then (bif zC s9 r0.length then (bif !(decide ((r0.getD s9.toNat 0)=0)) then some (.inr (0,false))
   else rec (zA (s9+1)) r0)
  else none)
 else some (.inl r0)
def CA (k:Nat):Nat→Tu:=vH (fun _ _=>none) (yRt k)
def Le (k:Nat)(a0:AC)(a1:Int):Option wW:=
 (GY k k a1 0 (zA ((a0.length:Int)-1)) a0).bind fun z=>
 (CA k k 4 z).bind fun z1=>
 match z1 with
 | .inl z2 => bif zC 3 z2.length then (bif decide ((z2.getD 3 0)≥32768) then some (0,false)
   else bif zC 3 z2.length then (bif zC 2 z2.length then (bif zC 1 z2.length then (bif zC 0 z2.length then some ((fe .i64 (fe .i64 (fe .i64 (shl .i64 (z2.getD 3 0) 48) (shl .i64 (z2.getD 2 0) 32)) (shl .i64 (z2.getD 1 0) 16)) (z2.getD 0 0)),true)
      else none)
     else none)
    else none)
   else none)
  else none
 |.inr z3=>some (z3.1,z3.2)
def Lp (k:Nat)(a0 a1 a2:Int):Option wW:=
 bif decide (a0<0) then some (0,false)
 else bif decide (a1<0) then some (0,false)
 else bif decide (a2<0) then some (0,false)
 else bif decide (a2>10000) then some (0,false)
 else(Lg k a0 a1).bind fun x0=>
 (Lc k x0 (zA (10000-a2))).bind fun x1=>
 (Le k x1 10000).bind fun x2=>
 some (x2.1,x2.2)
def CD (k:Nat)(a0 a1:Int):Option wW:=
 bif decide (a1 > 0) then (bif decide (a0>(zA (9223372036854775807-a1))) then some (0,false)
  else bif decide (a1 < 0) then (bif decide (a0<(zA ((-9223372036854775808)-a1))) then some (0,false)
   else some ((zA (a0+a1)),true))
  else some ((zA (a0+a1)),true))
 else bif decide (a1 < 0) then (bif decide (a0<(zA ((-9223372036854775808)-a1))) then some (0,false)
  else some ((zA (a0+a1)),true))
 else some ((zA (a0+a1)),true)
abbrev Tx:Type:=List wD→AC→AC→Int→Int→Option (Int⊕wW)
def CE (k:Nat)(rec:Tx)(s0:List wD)(s1 s2:AC)(s8 s9:Int):Option (Int⊕wW):=
 bif decide (s9 < (s0.length : Int)) then (bif zC s9 s1.length then (bif zC s9 s2.length then (bif zC s9 s0.length then ((Lp k (s1.getD s9.toNat 0) (s2.getD s9.toNat 0) (s0.getD s9.toNat (0,0)).2).bind fun x0=>
     (CD k s8 x0.1).bind fun x1=>
     bif !x0.2 then some (.inr (0,false))
     else bif !x1.2 then some (.inr (0,false))
     else rec s0 s1 s2 x1.1 (zA (s9+1)))
    else none)
   else none)
  else none)
 else some (.inl s8)
def G2 (k:Nat):Nat→Tx:=vH (fun _ _ _ _ _=>none) (CE k)
def tE (k:Nat)(a0:List wD)(a1 a2:AC):Option wW:=
 bif !(decide ((a1.length:Int)=(a0.length:Int))) then some (0,false)
 else bif !(decide ((a2.length:Int)=(a0.length:Int))) then some (0,false)
 else(G2 k k a0 a1 a2 0 0).bind fun z=>
 match z with
 |.inl z1=>some (z1,true)
 |.inr z2=>some (z2.1,z2.2)
abbrev TB:Type:=(yJ×yM)⊕Bool
abbrev TA:Type:=Int→yJ→yM→Option TB
def DJ (k:Nat)(rec:TA)(s5:Int)(b0:yJ)(b1:yM):Option TB:=
 bif decide (s5 < (b1.2.2.2.2.2.1.length : Int)) then (bif zC s5 b1.2.2.2.2.2.1.length then (bif decide ((b1.2.2.2.2.2.1.getD s5.toNat 0)<0) then some (.inr false)
   else bif zC s5 b1.2.2.2.2.2.1.length then (bif decide ((b1.2.2.2.2.2.1.getD s5.toNat 0)>1048576) then some (.inr false)
    else rec (zA (s5+1)) b0 b1)
   else none)
  else none)
 else some (.inl (b0,b1))
def tR (k:Nat):Nat→TA:=vH (fun _ _ _=>none) (DJ k)
abbrev TE:Type:=(Int×yJ×yM)⊕Bool
abbrev TC:Type:=Int→Int→yJ→yM→Option TE
def DK (k:Nat)(rec:TC)(s6 s7:Int)(b0:yJ)(b1:yM):Option TE:=
 bif zC s6 b1.2.2.2.2.2.2.1.length then (bif decide (s7 < ((b1.2.2.2.2.2.2.1.getD s6.toNat []).length : Int)) then (bif zC s6 b1.2.2.2.2.2.2.1.length then (bif zC s7 (b1.2.2.2.2.2.2.1.getD s6.toNat []).length then (bif decide (((b1.2.2.2.2.2.2.1.getD s6.toNat []).getD s7.toNat 0)<0) then some (.inr false)
     else bif zC s6 b1.2.2.2.2.2.2.1.length then (bif zC s7 (b1.2.2.2.2.2.2.1.getD s6.toNat []).length then (bif decide (((b1.2.2.2.2.2.2.1.getD s6.toNat []).getD s7.toNat 0)>1099511627776) then some (.inr false)
       else rec s6 (zA (s7+1)) b0 b1)
      else none)
     else none)
    else none)
   else none)
  else some (.inl (s6,b0,b1)))
 else none
def xC (k:Nat):Nat→TC:=vH (fun _ _ _ _=>none) (DK k)
abbrev TF:Type:=Int→yJ→yM→Option (Unit⊕Bool)
def DL (k:Nat)(rec:TF)(s6:Int)(b0:yJ)(b1:yM):Option (Unit⊕Bool):=
 bif decide (s6 < b0.1) then (bif zC s6 b1.2.2.2.2.2.2.1.length then (bif !(decide (((b1.2.2.2.2.2.2.1.getD s6.toNat []).length:Int)=(b0.2.1.length:Int))) then some (.inr false)
   else(xC k k s6 0 b0 b1).bind fun z2=>
   match z2 with
   | .inl z3 => bif zC z3.1 z3.2.2.2.2.2.2.2.2.1.length then ((tE k z3.2.1.2.1 z3.2.2.2.2.2.2.2.1 (z3.2.2.2.2.2.2.2.2.1.getD z3.1.toNat [])).bind fun x0=>
     bif !x0.2 then some (.inr false)
     else bif decide (x0.1>1152921504606846976) then some (.inr false)
     else bif zC z3.1 z3.2.2.2.1.length then (bif !(decide ((z3.2.2.2.1.getD z3.1.toNat (0,0,0)).2.1=x0.1)) then some (.inr false)
      else rec (zA (z3.1+1)) z3.2.1 z3.2.2)
     else none)
    else none
   |.inr z4=>some (.inr z4))
  else none)
 else some (.inl ())
def tS (k:Nat):Nat→TF:=vH (fun _ _ _=>none) (DL k)
def HP (k:Nat)(a0:yJ)(a1:yM):Option Bool:=
 bif !(decide ((a1.2.2.2.2.2.1.length:Int)=(a0.2.1.length:Int))) then some false
 else bif !(decide ((a1.2.2.2.2.2.2.1.length:Int)=a0.1)) then some false
 else(tR k k 0 a0 a1).bind fun z=>
 match z with
 |.inl z1=>(tS k k 0 z1.1 z1.2).bind fun z5=>
  match z5 with
  |.inl z6=>some true
  |.inr z7=>some z7
 |.inr z8=>some z8
abbrev TG:Type:=List zB→Int→Int→Option (Unit⊕Int)
def BA (k:Nat)(rec:TG)(s0:List zB)(s1 s5:Int):Option (Unit⊕Int):=
 bif decide (s5 < (s0.length : Int)) then (bif zC s5 s0.length then (bif decide ((s0.getD s5.toNat (0,0,0,0,0,0,0)).1=s1) then some (.inr s5)
   else rec s0 s1 (zA (s5+1)))
  else none)
 else some (.inl ())
def Bz (k:Nat):Nat→TG
 |0,_,_,_=>none
 |n+1,s0,s1,s5=>BA k (Bz k n) s0 s1 s5
def j0 (k:Nat)(a0:List zB)(a1:Int):Option Int:=
 (Bz k k a0 a1 0).bind fun z=>
 match z with
 |.inl z1=>some (-1)
 |.inr z2=>some z2
def CC (k:Nat)(bU aq bq aB az aI aN oS gi ka lE kb rz rA:Int):Option Bool:=
 bif decide (aq<gi) then some true
 else bif decide (aq=gi) then some (decide (az≤kb))
 else some false
abbrev TI:Type:=List zB→Int→Option SU
def DC (k:Nat)(rec:TI)(s0:List zB)(s3:Int):Option SU:=
 bif decide (s3 < (s0.length : Int)) then (bif zC s3 s0.length then ((j0 k s0 (s0.getD s3.toNat (0,0,0,0,0,0,0)).1).bind fun x0=>
   bif !(decide (x0=s3)) then some (.inr false)
   else bif decide (s3 > 0) then (bif zC (zA (s3 - 1)) s0.length then (bif zC s3 s0.length then ((CC k (s0.getD (zA (s3-1)).toNat (0,0,0,0,0,0,0)).1 (s0.getD (zA (s3-1)).toNat (0,0,0,0,0,0,0)).2.1 (s0.getD (zA (s3-1)).toNat (0,0,0,0,0,0,0)).2.2.1 (s0.getD (zA (s3-1)).toNat (0,0,0,0,0,0,0)).2.2.2.1 (s0.getD (zA (s3-1)).toNat (0,0,0,0,0,0,0)).2.2.2.2.1 (s0.getD (zA (s3-1)).toNat (0,0,0,0,0,0,0)).2.2.2.2.2.1 (s0.getD (zA (s3-1)).toNat (0,0,0,0,0,0,0)).2.2.2.2.2.2 (s0.getD s3.toNat (0,0,0,0,0,0,0)).1 (s0.getD s3.toNat (0,0,0,0,0,0,0)).2.1 (s0.getD s3.toNat (0,0,0,0,0,0,0)).2.2.1 (s0.getD s3.toNat (0,0,0,0,0,0,0)).2.2.2.1 (s0.getD s3.toNat (0,0,0,0,0,0,0)).2.2.2.2.1 (s0.getD s3.toNat (0,0,0,0,0,0,0)).2.2.2.2.2.1 (s0.getD s3.toNat (0,0,0,0,0,0,0)).2.2.2.2.2.2).bind fun x1=>
      bif !x1 then some (.inr false)
      else rec s0 (zA (s3+1)))
     else none)
    else none)
   else rec s0 (zA (s3+1)))
  else none)
 else some (.inl s0)
def tP (k:Nat):Nat→TI
 |0,_,_=>none
 |n+1,s0,s3=>DC k (tP k n) s0 s3
def HJ (k:Nat)(a0:List zB):Option Bool:=
 (tP k k a0 0).bind fun z=>
 match z with
 |.inl z1=>some (decide ((z1.length:Int)≤40))
 |.inr z2=>some z2
abbrev TL:Type:=AC→Int→Option (AC⊕Bool)
def DE (k:Nat)(rec:TL)(s0:AC)(s3:Int):Option (AC⊕Bool):=
 bif decide (s3 < (s0.length : Int)) then (bif zC s3 s0.length then (bif decide ((s0.getD s3.toNat 0)<1) then some (.inr false)
   else bif decide (s3 > 0) then (bif zC s3 s0.length then (bif zC (zA (s3 - 1)) s0.length then (bif decide ((s0.getD s3.toNat 0)≤(s0.getD (zA (s3-1)).toNat 0)) then some (.inr false)
      else rec s0 (zA (s3+1)))
     else none)
    else none)
   else rec s0 (zA (s3+1)))
  else none)
 else some (.inl s0)
def xA (k:Nat):Nat→TL:=vH (fun _ _=>none) (DE k)
def HL (k:Nat)(a0:AC):Option Bool:=
 (xA k k a0 0).bind fun z=>
 match z with
 |.inl z1=>some (decide ((z1.length:Int)≤200))
 |.inr z2=>some z2
def J5 (k:Nat)(aL:List zH)(aZ:EQ)(aW:AC)(aT:EQ)(oS gi ka lE kb rz rA:Int):Option Bool:=
 bif decide (gi ≥ 0) then (bif decide (gi < (aL.length : Int)) then (bif decide (ka ≥ 0) then (bif decide (ka < (aL.length : Int)) then (bif !(decide (gi = ka)) then (bif decide (lE ≥ 1) then (bif decide (lE ≤ 1099511627776) then (bif decide (kb≥1) then some (decide (kb≤3))
        else some false)
       else some false)
      else some false)
     else some false)
    else some false)
   else some false)
  else some false)
 else some false
abbrev TN:Type:=AC→Int→Int→Option (Unit⊕Bool)
def oL (k:Nat)(rec:TN)(s0:AC)(s1 s5:Int):Option (Unit⊕Bool):=
 bif decide (s5 < (s0.length : Int)) then (bif zC s5 s0.length then (bif decide ((s0.getD s5.toNat 0)=s1) then some (.inr true)
   else rec s0 s1 (zA (s5+1)))
  else none)
 else some (.inl ())
def oK (k:Nat):Nat→TN:=vH (fun _ _ _=>none) (oL k)
def xg (k:Nat)(a0:AC)(a1:Int):Option Bool:=
 (oK k k a0 a1 0).bind fun z=>
 match z with
 |.inl z1=>some false
 |.inr z2=>some z2
abbrev TP:Type:=Int→yM→Option (Unit⊕Bool)
def DH (k:Nat)(rec:TP)(s3:Int)(b0:yM):Option (Unit⊕Bool):=
 bif decide (s3 < (b0.2.2.2.2.2.2.2.1.length : Int)) then (bif zC s3 b0.2.2.2.2.2.2.2.1.length then ((J5 k b0.2.1 b0.2.2.1 b0.2.2.2.1 b0.2.2.2.2.1 (b0.2.2.2.2.2.2.2.1.getD s3.toNat (0,0,0,0,0,0,0)).1 (b0.2.2.2.2.2.2.2.1.getD s3.toNat (0,0,0,0,0,0,0)).2.1 (b0.2.2.2.2.2.2.2.1.getD s3.toNat (0,0,0,0,0,0,0)).2.2.1 (b0.2.2.2.2.2.2.2.1.getD s3.toNat (0,0,0,0,0,0,0)).2.2.2.1 (b0.2.2.2.2.2.2.2.1.getD s3.toNat (0,0,0,0,0,0,0)).2.2.2.2.1 (b0.2.2.2.2.2.2.2.1.getD s3.toNat (0,0,0,0,0,0,0)).2.2.2.2.2.1 (b0.2.2.2.2.2.2.2.1.getD s3.toNat (0,0,0,0,0,0,0)).2.2.2.2.2.2).bind fun x2=>
   bif !x2 then some (.inr false)
   else bif decide ((b0.2.2.2.2.2.2.2.1.getD s3.toNat (0,0,0,0,0,0,0)).2.2.2.2.2.1<0) then some (.inr false)
   else bif decide ((b0.2.2.2.2.2.2.2.1.getD s3.toNat (0,0,0,0,0,0,0)).2.2.2.2.2.2<(b0.2.2.2.2.2.2.2.1.getD s3.toNat (0,0,0,0,0,0,0)).2.2.2.2.2.1) then some (.inr false)
   else bif decide ((b0.2.2.2.2.2.2.2.1.getD s3.toNat (0,0,0,0,0,0,0)).2.2.2.2.2.2>1048576) then some (.inr false)
   else(xg k b0.2.2.2.2.2.2.2.2.1 (b0.2.2.2.2.2.2.2.1.getD s3.toNat (0,0,0,0,0,0,0)).1).bind fun x3=>
   bif !x3 then some (.inr false)
   else rec (zA (s3+1)) b0)
  else none)
 else some (.inl ())
def tQ (k:Nat):Nat→TP:=vH (fun _ _=>none) (DH k)
def HM (k:Nat)(a0:yM):Option Bool:=
 (HJ k a0.2.2.2.2.2.2.2.1).bind fun x0=>
 bif !x0 then some false
 else(HL k a0.2.2.2.2.2.2.2.2.1).bind fun x1=>
 bif !x1 then some false
 else(tQ k k 0 a0).bind fun z=>
 match z with
 |.inl z1=>some true
 |.inr z2=>some z2
def L1 (k:Nat)(xS ud a1:Int):Option wD:=
 some ((zA ((zA (xS+(shr .i64 a1 32)))+(shr .i64 (zA (ud+(yA .i64 a1 4294967295))) 32))),(yA .i64 (zA (ud+(yA .i64 a1 4294967295))) 4294967295))
abbrev TR:Type:=AC→Int→Int→Int→Option wD
def DA (k:Nat)(rec:TR)(s0:AC)(s5 aa ae:Int):Option wD:=
 bif decide (s5 < (s0.length : Int)) then (bif zC s5 s0.length then ((L1 k aa ae (s0.getD s5.toNat 0)).bind fun x0=>
   rec s0 (zA (s5+1)) x0.1 x0.2)
  else none)
 else some (aa,ae)
def HI (k:Nat):Nat→TR
 |0,_,_,_,_=>none
 |n+1,s0,s5,aa,ae=>DA k (HI k n) s0 s5 aa ae
def HH (k:Nat)(a0:AC):Option wW:=
 (HI k k a0 0 0 0).bind fun z=>
 bif decide (z.1<(-2147483648)) then some (0,false)
 else bif decide (z.1≥2147483648) then some (0,false)
 else some ((zA ((shl .i64 z.1 32)+z.2)),true)
abbrev TT:Type:=Int→yJ→yM→AC→Option S6
def DM (k:Nat)(rec:TT)(s6:Int)(b0:yJ)(b1:yM)(r2:AC):Option S6:=
 bif decide (s6 < b0.1) then (bif zC s6 b1.2.1.length then (bif zR (r2.length + 1) 8 then (let y0:AC:=(r2++[(b1.2.1.getD s6.toNat (0,0,0)).1])
    rec (zA (s6+1)) b0 b1 y0)
   else none)
  else none)
 else some (b0,b1,r2)
def xD (k:Nat):Nat→TT:=vH (fun _ _ _ _=>none) (DM k)
def L3 (k:Nat)(a0:yJ)(a1:yM):Option Bool:=
 bif decide (a1.1<0) then some false
 else bif decide (a1.1>a0.2.2.2.1) then some false
 else(AA k a1.2.1 a1.2.2.1 a1.2.2.2.1 a1.2.2.2.2.1).bind fun x0=>
 bif !x0 then some false
 else bif !(decide ((a1.2.1.length:Int)=a0.1)) then some false
 else(HP k a0 a1).bind fun x1=>
 bif !x1 then some false
 else(HM k a1).bind fun x2=>
 bif !x2 then some false
 else(xD k k 0 a0 a1 []).bind fun z=>
 (HH k z.2.2).bind fun x3=>
 bif x3.2 then (bif decide (x3.1 = z.2.1.2.2.2.2.2.2.2.2.2.1) then (bif decide (x3.1 ≥ 0) then (bif decide (x3.1 ≤ 1152921504606846976) then (bif gX z.2.1.2.2.2.2.2.2.2.2.2.2 (decide (z.2.1.1 = z.1.2.2.2.1)) then (bif !z.2.1.2.2.2.2.2.2.2.2.2.2 then some true
      else some (decide ((z.2.1.2.2.2.2.2.2.2.1.length:Int)=0)))
     else some false)
    else some false)
   else some false)
  else some false)
 else some false
def yEt (k:Nat)(a0:Int):Option yJ:=
 bif decide ((yA .i64 a0 3)=1) then some (4,[(100,1000),(7,0)],12,20,100)
 else bif decide ((yA .i64 a0 3)=2) then some (3,[],20,20,4)
 else bif decide ((yA .i64 a0 3)=3) then some (3,[(100,1000),(7,0)],0,6,1)
 else some (3,[(100,1000),(7,0)],12,20,4)
def FZ (k:Nat)(a0:Int):Option Bool:=
 bif decide (a0≥0) then some (decide (a0≤6))
 else some false
def Bb (k:Nat)(rec:Tt)(s1 bL bx:Int)(r0:AC):Option AC:=
 bif decide (bx < bL) then (bif zC bx r0.length then(rec s1 bL (zA (bx+1)) (r0.set bx.toNat s1))
  else none)
 else some r0
def F0 (k:Nat):Nat→Tt
 |0,_,_,_,_=>none
 |n+1,s1,bL,bx,r0=>Bb k (F0 k n) s1 bL bx r0
def we (k:Nat)(a0 a1:Int):Option AC:=
 (FZ k a0).bind fun x0=>
 bif !x0 then some []
 else bif Jx a0 a0 8 then ((F0 k k a1 ((List.replicate a0.toNat (0:Int)).length:Int) 0 (List.replicate a0.toNat (0:Int))).bind fun z=>
  some z)
 else none
abbrev TY:Type:=Int→Int→Int→Int→EQ→Option EQ
def Bd (k:Nat)(rec:TY)(s0 s1 bL bx:Int)(m0:EQ):Option EQ:=
 bif decide (bx < bL) then ((we k s0 s1).bind fun x1=>
  bif zC bx m0.length then(rec s0 s1 bL (zA (bx+1)) (m0.set bx.toNat x1))
  else none)
 else some m0
def F1 (k:Nat):Nat→TY
 |0,_,_,_,_,_=>none
 |n+1,s0,s1,bL,bx,m0=>Bd k (F1 k n) s0 s1 bL bx m0
def Bc (k:Nat)(a0 a1:Int):Option EQ:=
 (FZ k a0).bind fun x0=>
 bif !x0 then some []
 else bif Jx a0 a0 24 then ((F1 k k a0 a1 ((List.replicate a0.toNat ([]:AC)).length:Int) 0 (List.replicate a0.toNat ([]:AC))).bind fun z=>
  some z)
 else none
abbrev T1:Type:=Int×yJ×gh×gh×(List zH)×EQ×AC×EQ×AC
abbrev T0:Type:=Int→List wD→Int→Int→yJ→gh→gh→List zH→EQ→AC→EQ→AC→Option T1
def yOb (k:Nat)(rec:T0)(s3:Int)(cz:List wD)(s21 M7:Int)(b0:yJ)(b1 b2:gh)(r3:List zH)(m4:EQ)(r5:AC)(m6:EQ)(r7:AC):Option T1:=
 bif decide (M7 < s21) then (bif zC M7 cz.length then (bif zR (r7.length+1) 8 then(rec s3 cz s21 (zA (M7+1)) b0 b1 b2 r3 m4 r5 m6 (r7++[(cz.getD M7.toNat (0,0)).1]))
   else none)
  else none)
 else some (s3,b0,b1,b2,r3,m4,r5,m6,r7)
def T2 (k:Nat):Nat→T0:=vH (fun _ _ _ _ _ _ _ _ _ _ _ _=>none) (yOb k)
abbrev T4:Type:=gh×gh×(List zH)×EQ×AC×EQ×AC×EQ
abbrev T3:Type:=Int→Int→yJ→gh→gh→List zH→EQ→AC→EQ→AC→EQ→Option T4
def yJx (k:Nat)(rec:T3)(xT oT:Int)(b0:yJ)(b1 b2:gh)(r3:List zH)(m4:EQ)(r5:AC)(m6:EQ)(r7:AC)(m8:EQ):Option T4:=
 bif decide (oT < xT) then (bif Jx (b0.2.1.length : Int) (b0.2.1.length : Int) 8 then (bif zR (m8.length+1) 24 then(rec xT (zA (oT+1)) b0 b1 b2 r3 m4 r5 m6 r7 (m8++[(List.replicate b0.2.1.length (0:Int))]))
   else none)
  else none)
 else some (b1,b2,r3,m4,r5,m6,r7,m8)
def T5 (k:Nat):Nat→T3:=vH (fun _ _ _ _ _ _ _ _ _ _ _=>none) (yJx k)
def yAv (k:Nat)(a0:yJ):Option yM:=
 bif Jx a0.1 a0.1 24 then ((Bc k a0.1 (-1)).bind fun x0=>
  (we k a0.1 (-1)).bind fun x1=>
  (Bc k a0.1 0).bind fun x2=>
  (T2 k k a0.1 a0.2.1 (a0.2.1.length:Int) 0 a0 (0,0,false) (0,0,false) (List.replicate a0.1.toNat ((0,0,0):Int×Int×Int)) x0 x1 x2 []).bind fun z=>
  (T5 k k z.1 0 z.2.1 z.2.2.1 z.2.2.2.1 z.2.2.2.2.1 z.2.2.2.2.2.1 z.2.2.2.2.2.2.1 z.2.2.2.2.2.2.2.1 z.2.2.2.2.2.2.2.2 []).bind fun z1=>
  some (z1.2.1.1,(yXu z1 ([],[],z1.2.1.2))))
 else none
abbrev T9:Type:=Int×Int×Int×Int×Int×Int×Int×Int×Int×Int×Int×Int×Int×Int
abbrev T7:Type:=AC→Int→Int→Int→Int→Int→Int→Int→Int→Int→Int→Int→Int→Int→Int→Int→Option T9
def yJf (k:Nat)(rec:T7)(s1:AC)(s6 aa ae af ab aV bd bg an ar au ax aD aE aF:Int):Option T9:=
 bif decide (s6 < (s1.length : Int)) then (bif decide (s6 < 6) then (bif zC s6 s1.length then (bif decide (s6=0) then(rec s1 (zA (s6+1)) aa ae af ab aV bd bg an (s1.getD s6.toNat 0) au ax aD aE aF)
    else bif decide (s6=1) then(rec s1 (zA (s6+1)) aa ae af ab aV bd bg an ar (s1.getD s6.toNat 0) ax aD aE aF)
    else bif decide (s6=2) then(rec s1 (zA (s6+1)) aa ae af ab aV bd bg an ar au (s1.getD s6.toNat 0) aD aE aF)
    else bif decide (s6=3) then(rec s1 (zA (s6+1)) aa ae af ab aV bd bg an ar au ax (s1.getD s6.toNat 0) aE aF)
    else bif decide (s6=4) then(rec s1 (zA (s6+1)) aa ae af ab aV bd bg an ar au ax aD (s1.getD s6.toNat 0) aF)
    else bif decide (s6=5) then(rec s1 (zA (s6+1)) aa ae af ab aV bd bg an ar au ax aD aE (s1.getD s6.toNat 0))
    else none)
   else none)
  else some (aa,ae,af,ab,aV,bd,bg,an,ar,au,ax,aD,aE,aF))
 else some (aa,ae,af,ab,aV,bd,bg,an,ar,au,ax,aD,aE,aF)
def Mt (k:Nat):Nat→T7
 |0,_,_,_,_,_,_,_,_,_,_,_,_,_,_,_,_=>none
 |n+1,s1,s6,aa,ae,af,ab,aV,bd,bg,an,ar,au,ax,aD,aE,aF=>yJf k (Mt k n) s1 s6 aa ae af ab aV bd bg an ar au ax aD aE aF
def wY (k:Nat)(a0:Int)(a1:AC):Option zB:=
 (Mt k k a1 0 0 0 0 0 0 0 0 a0 0 0 0 0 0 0).bind fun z=>
 some (z.2.2.2.2.2.2.2.1,z.2.2.2.2.2.2.2.2.1,z.2.2.2.2.2.2.2.2.2.1,z.2.2.2.2.2.2.2.2.2.2.1,z.2.2.2.2.2.2.2.2.2.2.2.1,z.2.2.2.2.2.2.2.2.2.2.2.2.1,z.2.2.2.2.2.2.2.2.2.2.2.2.2)
def Ua (k:Nat)(a0 a1:Int)(a2:AC):Option qO:=
 (wY k a1 a2).bind fun x0=>
 some (a0,x0)
def LK (k:Nat)(a0:Int):Option Bool:=
 bif decide (a0≥10) then some (decide (a0≤14))
 else some false
def Hs (k:Nat)(a0:Int):Option Bool:=
 bif decide (a0≥1) then some (decide (a0≤14))
 else some false
def LJ (k:Nat)(a0:Int):Option Int:=
 bif decide (a0=9) then some 0
 else bif decide (a0=13) then some 0
 else bif decide (a0=14) then some 0
 else bif decide (a0=15) then some 0
 else bif decide (a0=2) then some 1
 else bif decide (a0=6) then some 1
 else bif decide (a0=7) then some 1
 else bif decide (a0=16) then some 1
 else bif decide (a0=19) then some 1
 else bif decide (a0=20) then some 1
 else bif decide (a0=21) then some 1
 else bif decide (a0=22) then some 1
 else bif decide (a0=23) then some 1
 else bif decide (a0=3) then some 2
 else bif decide (a0=4) then some 2
 else bif decide (a0=5) then some 2
 else bif decide (a0=8) then some 2
 else bif decide (a0=10) then some 2
 else bif decide (a0=11) then some 2
 else bif decide (a0=12) then some 2
 else bif decide (a0=18) then some 4
 else bif decide (a0=17) then some 5
 else bif decide (a0=1) then some 6
 else some (-1)
def tI (k:Nat)(rec:TN)(bL:AC)(bx ba:Int):Option (Unit⊕Bool):=
 bif decide (ba < bx) then (bif zC ba bL.length then (bif !(decide ((bL.getD ba.toNat 0)=0)) then some (.inr false)
   else rec bL bx (zA (ba+1)))
  else none)
 else some (.inl ())
def qy (k:Nat):Nat→TN:=vH (fun _ _ _=>none) (tI k)
def tJ (k:Nat)(a0:zB):Option Bool:=
 (LJ k a0.1).bind fun x0=>
 bif decide (x0<0) then some false
 else bif (decide (0 ≤ x0)) && (decide (x0 ≤ 6)) then ((qy k k (qZ [a0.2.1,a0.2.2.1,a0.2.2.2.1,a0.2.2.2.2.1,a0.2.2.2.2.2.1,a0.2.2.2.2.2.2] x0.toNat (6-x0.toNat)) ((qZ [a0.2.1,a0.2.2.1,a0.2.2.2.1,a0.2.2.2.2.1,a0.2.2.2.2.2.1,a0.2.2.2.2.2.2] x0.toNat (6-x0.toNat)).length:Int) 0).bind fun z=>
  match z with
  |.inl z1=>some true
  |.inr z2=>some z2)
 else none
def tK (k:Nat)(a0:yJ)(a1:yM)(a2:qO):Option Int:=
 (LK k a2.2.1).bind fun x0=>
 bif decide (a2.1 ≥ 0) then ((Hs k a2.2.1).bind fun x1=>
  bif !x1 then some 5
  else(tJ k a2.2).bind fun x2=>
  bif !x2 then some 5
  else bif x0 then (bif !(decide (a2.1=(-1))) then some 5
   else bif !x0 then (bif !(decide (a2.1<a0.1)) then some 5
    else bif a1.2.2.2.2.2.2.2.2.2.2 then (bif !(decide (a2.2.1=9)) then some 7
     else some 0)
    else some 0)
   else bif a1.2.2.2.2.2.2.2.2.2.2 then (bif !(decide (a2.2.1=9)) then some 7
    else some 0)
   else some 0)
  else bif !x0 then (bif !(decide (a2.1<a0.1)) then some 5
   else bif a1.2.2.2.2.2.2.2.2.2.2 then (bif !(decide (a2.2.1=9)) then some 7
    else some 0)
   else some 0)
  else bif a1.2.2.2.2.2.2.2.2.2.2 then (bif !(decide (a2.2.1=9)) then some 7
   else some 0)
  else some 0)
 else(Hs k a2.2.1).bind fun x3=>
 bif !x3 then some 5
 else(tJ k a2.2).bind fun x4=>
 bif !x4 then some 5
 else bif x0 then (bif !(decide (a2.1=(-1))) then some 5
  else bif !x0 then some 5
  else bif a1.2.2.2.2.2.2.2.2.2.2 then (bif !(decide (a2.2.1=9)) then some 7
   else some 0)
  else some 0)
 else bif !x0 then some 5
 else bif a1.2.2.2.2.2.2.2.2.2.2 then (bif !(decide (a2.2.1=9)) then some 7
  else some 0)
 else some 0
def Q4 (k:Nat)(bU aq bq aB az aI aN a1:Int):Option Bool:=
 some (decide (aq=a1))
abbrev Uf:Type:=List zB
abbrev Ud:Type:=List zB→Int→Int→Int→List zB→Option Uf
def Ca (k:Nat)(rec:Ud)(s8:List zB)(s9 ao aa:Int)(r1:List zB):Option Uf:=
 bif decide (ao < s9) then (bif zC ao s8.length then ((Q4 k (s8.getD ao.toNat (0,0,0,0,0,0,0)).1 (s8.getD ao.toNat (0,0,0,0,0,0,0)).2.1 (s8.getD ao.toNat (0,0,0,0,0,0,0)).2.2.1 (s8.getD ao.toNat (0,0,0,0,0,0,0)).2.2.2.1 (s8.getD ao.toNat (0,0,0,0,0,0,0)).2.2.2.2.1 (s8.getD ao.toNat (0,0,0,0,0,0,0)).2.2.2.2.2.1 (s8.getD ao.toNat (0,0,0,0,0,0,0)).2.2.2.2.2.2 aa).bind fun x0=>
   bif x0 then (bif zR (r1.length + 1) 56 then (let y0:List zB:=(r1++[(s8.getD ao.toNat (0,0,0,0,0,0,0))])
     rec s8 s9 (zA (ao+1)) aa y0)
    else none)
   else rec s8 s9 (zA (ao+1)) aa r1)
  else none)
 else some r1
def GK (k:Nat):Nat→Ud
 |0,_,_,_,_,_=>none
 |n+1,s8,s9,ao,aa,r1=>Ca k (GK k n) s8 s9 ao aa r1
def Q3 (k:Nat)(a0:List zB)(cH:Int):Option (List zB):=
 (GK k k a0 (a0.length:Int) 0 cH []).bind fun z=>
 some z
def GJ (k:Nat)(a0:List zB)(a1:Int):Option (List zB):=
 (Q3 k a0 a1).bind fun x0=>
 some x0
def yEr (k:Nat)(a0:(Int×Int×Int×Int×Int×Int×Bool×Int))(a1:Int)(a2:AC):Option wL:=
 some (a0.1,[],(fO a0 ([],[],[],[],[],[],[],[],a0.2.2.2.2.2.1,a0.2.2.2.2.2.2.1,a0.2.2.2.2.2.2.2,[(a0.2.2.2.2.2.2.2,a1,(bif (Nat.blt 0 a2.length) then(a2.getD 0 0) else 0),(bif (Nat.blt 1 a2.length) then(a2.getD 1 0) else 0),(bif (Nat.blt 2 a2.length) then(a2.getD 2 0) else 0),(bif (Nat.blt 3 a2.length) then(a2.getD 3 0) else 0),(bif (Nat.blt 4 a2.length) then(a2.getD 4 0) else 0),(bif (Nat.blt 5 a2.length) then(a2.getD 5 0) else 0))])))
def LQ (k:Nat)(a0:yM)(a1:Int):Option (List qO):=
 bif zC a1 a0.2.1.length then ((GJ k a0.2.2.2.2.2.2.2.1 a1).bind fun x0=>
  (yEr k (0,0,0,0,0,0,false,a1) 17 [(a0.2.1.getD a1.toNat (0,0,0)).1,(a0.2.1.getD a1.toNat (0,0,0)).2.1,(a0.2.1.getD a1.toNat (0,0,0)).2.2,(x0.length:Int),a0.1]).bind fun x1=>
  some x1.2.2.2.2.2.2.2.2.2.2.2.2.2.2.2.2.2)
 else none
def LR (k:Nat)(a0:iW)(a1:Int)(a2:AC):Option wL:=
 some (vD a0 [(a0.2.2.2.2.2.2.2.2.2.2.2.2.2.2.2.2,a1,(bif (Nat.blt 0 a2.length) then(a2.getD 0 0) else 0),(bif (Nat.blt 1 a2.length) then(a2.getD 1 0) else 0),(bif (Nat.blt 2 a2.length) then(a2.getD 2 0) else 0),(bif (Nat.blt 3 a2.length) then(a2.getD 3 0) else 0),(bif (Nat.blt 4 a2.length) then(a2.getD 4 0) else 0),(bif (Nat.blt 5 a2.length) then(a2.getD 5 0) else 0))])
def GU (k:Nat)(a0:yJ)(a1:Int):Option Bool:=
 bif decide (a1≥0) then some (decide (a1<a0.1))
 else some false
def K8 (k:Nat)(a0:yJ)(a1:Int)(a2:zB):Option Bool:=
 (GU k a0 a2.2.1).bind fun x0=>
 bif x0 then ((GU k a0 a2.2.2.1).bind fun x1=>
  bif x1 then (bif decide (a2.1 ≥ 1) then (bif decide (a2.2.2.2.1 ≥ 1) then (bif decide (a2.2.2.2.1 ≤ 1099511627776) then (bif decide (a2.2.2.2.2.1 ≥ 1) then (bif !(decide (a2.2.1 = a2.2.2.1)) then (bif decide (a2.2.2.2.2.1 ≤ 3) then (bif decide (a2.2.2.2.2.2.1 ≥ 0) then (bif decide (a2.2.2.2.2.2.1 ≤ a2.2.2.2.2.2.2) then (bif decide (a2.2.2.2.2.2.2≥a1) then some (decide (a2.2.2.2.2.2.2≤1048576))
           else some false)
          else some false)
         else some false)
        else some false)
       else some false)
      else bif !(decide (a2.2.1=a2.2.2.1)) then some false
      else some false)
     else bif !(decide (a2.2.1=a2.2.2.1)) then some false
     else some false)
    else bif !(decide (a2.2.1=a2.2.2.1)) then some false
    else some false)
   else bif !(decide (a2.2.1=a2.2.2.1)) then some false
   else some false)
  else bif decide (a2.1 ≥ 1) then (bif decide (a2.2.2.2.1 ≥ 1) then (bif decide (a2.2.2.2.1 ≤ 1099511627776) then (bif decide (a2.2.2.2.2.1≥1) then some false
     else some false)
    else some false)
   else some false)
  else some false)
 else bif decide (a2.1 ≥ 1) then (bif decide (a2.2.2.2.1 ≥ 1) then (bif decide (a2.2.2.2.1 ≤ 1099511627776) then (bif decide (a2.2.2.2.2.1≥1) then some false
    else some false)
   else some false)
  else some false)
 else some false
def xa (k:Nat)(a0:yJ)(a1 a2:Int):Option Int:=
 bif decide (a1≥a0.2.2.2.1) then some 7
 else bif decide (a2 = 3) then (bif decide (a1≥a0.2.2.1) then some 7
  else some 0)
 else some 0
def Cw (k:Nat)(a0:yJ)(a1:Int)(a2:zB):Option Int:=
 (K8 k a0 a1 a2).bind fun x0=>
 bif !x0 then some 1
 else(xa k a0 a1 a2.2.2.2.2.1).bind fun x1=>
 some x1
def mW (k:Nat)(a0:AC):Option AC:=
 bif zR (0+a0.length) 8 then some a0
 else none
abbrev yRv (k:Nat)(a0:AC)(a1:Int)(a2:AC):Option AC:=ins 8 a0 a1 a2
def BN (k:Nat)(a0:AC)(a1:Int):Option (AC×Int):=
 (BM k a0 a1).bind fun x0=>
 bif x0.2 then some (a0,6)
 else bif decide ((a0.length:Int)≥200) then some (a0,3)
 else(mW k a0).bind fun x1=>
 (yRv k x1 x0.1 [a1]).bind fun x2=>
 some (x2,0)
def sW (k:Nat)(a0:List zB):Option (List zB):=
 bif zR (0+a0.length) 56 then some a0
 else none
abbrev KF (k:Nat)(a0:List zB)(a1:Int)(a2:List zB):Option (List zB):=ins 56 a0 a1 a2
abbrev Uo:Type:=(List zB)×Int×zB
abbrev Um:Type:=List zB→Int→zB→Option Uo
def BH (k:Nat)(rec:Um)(s0:List zB)(s6:Int)(b0:zB):Option Uo:=
 bif decide (s6 < (s0.length : Int)) then (bif zC s6 s0.length then ((BE k (s0.getD s6.toNat (0,0,0,0,0,0,0)).1 (s0.getD s6.toNat (0,0,0,0,0,0,0)).2.1 (s0.getD s6.toNat (0,0,0,0,0,0,0)).2.2.1 (s0.getD s6.toNat (0,0,0,0,0,0,0)).2.2.2.1 (s0.getD s6.toNat (0,0,0,0,0,0,0)).2.2.2.2.1 (s0.getD s6.toNat (0,0,0,0,0,0,0)).2.2.2.2.2.1 (s0.getD s6.toNat (0,0,0,0,0,0,0)).2.2.2.2.2.2 b0.1 b0.2.1 b0.2.2.1 b0.2.2.2.1 b0.2.2.2.2.1 b0.2.2.2.2.2.1 b0.2.2.2.2.2.2).bind fun x1=>
   bif decide (x1≤0) then(rec s0 (zA (s6+1)) b0)
   else some (s0,s6,b0))
  else none)
 else some (s0,s6,b0)
def Gq (k:Nat):Nat→Um:=vH (fun _ _ _=>none) (BH k)
def sX (k:Nat)(a0:List zB)(a1:zB):Option ((List zB)×Int):=
 (mc k a0 a1.1).bind fun x0=>
 bif decide (x0≥0) then some (a0,6)
 else bif decide ((a0.length:Int)≥40) then some (a0,3)
 else(Gq k k a0 0 a1).bind fun z=>
 (sW k z.1).bind fun x2=>
 (KF k x2 z.2.1 [z.2.2]).bind fun x3=>
 some (x3,0)
def K9 (k:Nat)(a0:wL)(a1:Im):Option (Int×wL):=
 (yW k a1.2.1 0 (zA (a0.1-1))).bind fun x0=>
 bif !x0 then some (1,a0)
 else(yW k a1.2.2.2.1 1 3).bind fun x1=>
 bif !x1 then some (1,a0)
 else(Cw k (qX a0) a0.2.2.2.2.2.1 (a1.1,a0.2.2.2.2.2.2.2.2.2.2.2.2.2.2.2.2.1,a1.2)).bind fun x2=>
 bif !(decide (x2=0)) then some (x2,a0)
 else(BN k a0.2.2.2.2.2.2.2.2.2.2.2.2.2.1 a1.1).bind fun x3=>
 bif !(decide (x3.2=0)) then some (x3.2,a0)
 else(sX k a0.2.2.2.2.2.2.2.2.2.2.2.2.1 (a1.1,a0.2.2.2.2.2.2.2.2.2.2.2.2.2.2.2.2.1,a1.2)).bind fun x4=>
 bif !(decide (x4.2=0)) then some (x4.2,a0)
 else some (0,(gU a0 (x4.1,x3.1,a0.2.2.2.2.2.2.2.2.2.2.2.2.2.2)))
def Ur (k:Nat)(a0:wL)(a1:Int):Option (zB×Int):=
 (mc k a0.2.2.2.2.2.2.2.2.2.2.2.2.1 a1).bind fun x0=>
 bif decide (x0<0) then some ((0,0,0,0,0,0,0),4)
 else bif zC x0 a0.2.2.2.2.2.2.2.2.2.2.2.2.1.length then (bif !(decide ((a0.2.2.2.2.2.2.2.2.2.2.2.2.1.getD x0.toNat (0,0,0,0,0,0,0)).2.1=a0.2.2.2.2.2.2.2.2.2.2.2.2.2.2.2.2.1)) then some ((0,0,0,0,0,0,0),4)
  else bif zC x0 a0.2.2.2.2.2.2.2.2.2.2.2.2.1.length then some ((a0.2.2.2.2.2.2.2.2.2.2.2.2.1.getD x0.toNat (0,0,0,0,0,0,0)),0)
  else none)
 else none
def Gk (k:Nat)(a0:List zB)(a1 a2:Int):Option (List zB):=
 bif ((((decide (0 ≤ a1)) && (decide (a1 ≤ a2))) && (decide (a2 ≤ (a0.length : Int)))) && (decide (((a2.toNat : Nat) : Int) ≤ (a0.length : Int)))) && (decide ((a0.length : Int) ≤ (a0.length : Int))) then (bif decide (a1=a2) then some a0
  else bif (decide (0 ≤ a1)) && (decide (a1 ≤ (a0.length : Int))) then (bif (decide (0 ≤ a2)) && (decide (a2 ≤ (a0.length : Int))) then (bif Nat.ble (a1.toNat - 0) (0 + a2.toNat) then (let y0:List zB:=(((List.take (a1.toNat-0) a0)++(qZ a0 (0+a2.toNat) (a0.length-a2.toNat)))++(List.drop ((a1.toNat-0)+(a0.length-a2.toNat)) a0))
     bif ((decide (0 ≤ ((qZ y0 0 ((a1.toNat - 0) + (a0.length - a2.toNat))).length : Int))) && (decide (((qZ y0 0 ((a1.toNat - 0) + (a0.length - a2.toNat))).length : Int) ≤ (a0.length : Int)))) && (decide ((a0.length : Int) ≤ (((y0.length - 0) : Nat) : Int))) then (let y1:List zB:=(((List.take (0+(qZ y0 0 ((a1.toNat-0)+(a0.length-a2.toNat))).length) y0)++(List.replicate (a0.length-(qZ y0 0 ((a1.toNat-0)+(a0.length-a2.toNat))).length) ((0,0,0,0,0,0,0):Int×Int×Int×Int×Int×Int×Int)))++(List.drop ((0+(qZ y0 0 ((a1.toNat-0)+(a0.length-a2.toNat))).length)+(a0.length-(qZ y0 0 ((a1.toNat-0)+(a0.length-a2.toNat))).length)) y0))
      some (List.take ((a1.toNat-0)+(a0.length-a2.toNat)) y1))
     else none)
    else none)
   else none)
  else none)
 else none
def nc (k:Nat)(a0:List zB)(a1:Int):Option X7:=
 (mc k a0 a1).bind fun x0=>
 bif decide (x0<0) then some (a0,0,0,0,0,0,0,0,4)
 else(sW k a0).bind fun x1=>
 (Gk k x1 x0 (zA (x0+1))).bind fun x2=>
 bif zC x0 a0.length then some (x2,(gg (a0.getD x0.toNat (0,0,0,0,0,0,0)) 0))
 else none
def tt (k:Nat)(a0:wL)(a1:Int)(a2:AC):Option wL:=
 bif zR (a0.2.2.2.2.2.2.2.2.2.2.2.2.2.2.2.2.2.length + 1) 64 then (let y0:List qO:=(a0.2.2.2.2.2.2.2.2.2.2.2.2.2.2.2.2.2++[(a0.2.2.2.2.2.2.2.2.2.2.2.2.2.2.2.2.1,a1,(bif (Nat.blt 0 a2.length) then(a2.getD 0 0) else 0),(bif (Nat.blt 1 a2.length) then(a2.getD 1 0) else 0),(bif (Nat.blt 2 a2.length) then(a2.getD 2 0) else 0),(bif (Nat.blt 3 a2.length) then(a2.getD 3 0) else 0),(bif (Nat.blt 4 a2.length) then(a2.getD 4 0) else 0),(bif (Nat.blt 5 a2.length) then(a2.getD 5 0) else 0))])
  some (qU a0 y0))
 else none
def BI (k:Nat)(a0:List zB)(a1 a2:Int):Option ((List zB)×Int):=
 (nc k a0 a1).bind fun x0=>
 bif !(decide (x0.2.2.2.2.2.2.2.2=0)) then some (a0,x0.2.2.2.2.2.2.2.2)
 else(sX k x0.1 (fO x0 (a2,x0.2.2.2.2.2.2.1,x0.2.2.2.2.2.2.2.1))).bind fun x1=>
 some (x1.1,x1.2)
def QN (k:Nat)(a0:List zB)(a1:Int):Option X7:=
 (mc k a0 a1).bind fun x0=>
 bif decide (x0<0) then none
 else(sW k a0).bind fun x1=>
 (Gk k x1 x0 (zA (x0+1))).bind fun x2=>
 bif zC x0 a0.length then some (x2,(gg (a0.getD x0.toNat (0,0,0,0,0,0,0)) 0))
 else none
abbrev Uu:Type:=Int×(List zB)×zB
abbrev Us:Type:=Int→List zB→zB→Option Uu
def BK (k:Nat)(rec:Us)(s9:Int)(r0:List zB)(b1:zB):Option Uu:=
 bif decide (s9 < (r0.length : Int)) then (bif zC s9 r0.length then ((BE k (r0.getD s9.toNat (0,0,0,0,0,0,0)).1 (r0.getD s9.toNat (0,0,0,0,0,0,0)).2.1 (r0.getD s9.toNat (0,0,0,0,0,0,0)).2.2.1 (r0.getD s9.toNat (0,0,0,0,0,0,0)).2.2.2.1 (r0.getD s9.toNat (0,0,0,0,0,0,0)).2.2.2.2.1 (r0.getD s9.toNat (0,0,0,0,0,0,0)).2.2.2.2.2.1 (r0.getD s9.toNat (0,0,0,0,0,0,0)).2.2.2.2.2.2 b1.1 b1.2.1 b1.2.2.1 b1.2.2.2.1 b1.2.2.2.2.1 b1.2.2.2.2.2.1 b1.2.2.2.2.2.2).bind fun x1=>
   bif decide (x1<0) then(rec (zA (s9+1)) r0 b1)
   else some (s9,r0,b1))
  else none)
 else some (s9,r0,b1)
def Gt (k:Nat):Nat→Us:=vH (fun _ _ _=>none) (BK k)
def BL (k:Nat)(a0:List zB)(a1:Int):Option ((List zB)×Int):=
 (QN k a0 a1).bind fun x0=>
 bif !(decide (x0.2.2.2.2.2.2.2.2=0)) then some (a0,x0.2.2.2.2.2.2.2.2)
 else(Gt k k 0 x0.1 (My x0)).bind fun z=>
 (KF k z.2.1 z.1 [z.2.2]).bind fun x2=>
 some (x2,0)
def BJ (k:Nat)(a0:List zB)(a1:Int):Option ((List zB)×Int):=
 (nc k a0 a1).bind fun x0=>
 bif !(decide (x0.2.2.2.2.2.2.2.2=0)) then some (a0,x0.2.2.2.2.2.2.2.2)
 else(sX k x0.1 (My x0)).bind fun x1=>
 some (x1.1,x1.2)
def xc (k:Nat)(a0:wL)(a1:zB):Option (Int×wL):=
 (Ur k a0 a1.2.1).bind fun x0=>
 bif !(decide (x0.2=0)) then some (x0.2,a0)
 else bif decide (a1.1 = 2) then ((nc k a0.2.2.2.2.2.2.2.2.2.2.2.2.1 a1.2.1).bind fun x1=>
  (tt k (gU a0 (x1.1,a0.2.2.2.2.2.2.2.2.2.2.2.2.2)) 20 [a1.2.1]).bind fun x2=>
  some (x1.2.2.2.2.2.2.2.2,x2))
 else bif decide (a1.1 = 4) then ((yW k a1.2.2.1 1 3).bind fun x3=>
  bif !x3 then some (1,a0)
  else(xa k (qX a0) a0.2.2.2.2.2.1 a1.2.2.1).bind fun x4=>
  bif !(decide (x4=0)) then some (x4,a0)
  else(BI k a0.2.2.2.2.2.2.2.2.2.2.2.2.1 a1.2.1 a1.2.2.1).bind fun x5=>
  some (x5.2,(gU a0 (x5.1,a0.2.2.2.2.2.2.2.2.2.2.2.2.2))))
 else bif decide (a1.2.2.1 = 0) then ((BL k a0.2.2.2.2.2.2.2.2.2.2.2.2.1 a1.2.1).bind fun x6=>
  some (x6.2,(gU a0 (x6.1,a0.2.2.2.2.2.2.2.2.2.2.2.2.2))))
 else bif decide (a1.2.2.1 = 1) then ((BJ k a0.2.2.2.2.2.2.2.2.2.2.2.2.1 a1.2.1).bind fun x7=>
  some (x7.2,(gU a0 (x7.1,a0.2.2.2.2.2.2.2.2.2.2.2.2.2))))
 else some (1,a0)
def Qb (k:Nat)(a0:List zH):Option (List zH):=
 bif zR (0+a0.length) 24 then some a0
 else none
def Qa (k:Nat)(a0:EQ):Option Nat:=
 bif zR (0+a0.length) 24 then some a0.length
 else none
abbrev Uv:Type:=EQ→Int→Int→EQ→Nat→Option (EQ×Nat)
def AM (k:Nat)(rec:Uv)(s8:EQ)(s9 ao:Int)(m0:EQ)(n0:Nat):Option (EQ×Nat):=
 bif decide (ao < s9) then (bif zC ao s8.length then ((mW k (s8.getD ao.toNat [])).bind fun x1=>
   bif zC ao n0 then (bif Nat.beq ao.toNat m0.length then(rec s8 s9 (zA (ao+1)) (m0++[x1]) n0)
    else none)
   else none)
  else none)
 else some (m0,n0)
def FF (k:Nat):Nat→Uv
 |0,_,_,_,_,_=>none
 |n+1,s8,s9,ao,m0,n0=>AM k (FF k n) s8 s9 ao m0 n0
def FG (k:Nat)(a0:EQ):Option EQ:=
 (Qa k a0).bind fun x0=>
 (FF k k a0 (a0.length:Int) 0 [] x0).bind fun z=>
 Pp z.1 z.2
def jW (k:Nat)(aL:List zH)(aZ:EQ)(aW:AC)(aT:EQ):Option ((List zH)×EQ×AC×EQ):=
 (Qb k aL).bind fun x0=>
 (FG k aZ).bind fun x1=>
 (mW k aW).bind fun x2=>
 (FG k aT).bind fun x3=>
 some (x0,x1,x2,x3)
def Ux (k:Nat)(a0:wL)(a1:Int):Option Bool:=
 (yW k a1 0 (zA (a0.1-1))).bind fun x0=>
 bif x0 then some (!(decide (a1=a0.2.2.2.2.2.2.2.2.2.2.2.2.2.2.2.2.1)))
 else some false
def xd (k:Nat)(a0:wL)(a1:zB):Option (Int×wL):=
 (jW k a0.2.2.2.2.2.2.1 a0.2.2.2.2.2.2.2.1 a0.2.2.2.2.2.2.2.2.1 a0.2.2.2.2.2.2.2.2.2.1).bind fun x0=>
 bif decide (a1.1 = 5) then ((Ux k a0 a1.2.1).bind fun x1=>
  bif !x1 then some (1,a0)
  else(yW k a1.2.2.1 (-1) 1152921504606846976).bind fun x2=>
  bif !x2 then some (1,a0)
  else bif zC a0.2.2.2.2.2.2.2.2.2.2.2.2.2.2.2.2.1 x0.2.1.length then (bif zC a1.2.1 (x0.2.1.getD a0.2.2.2.2.2.2.2.2.2.2.2.2.2.2.2.2.1.toNat []).length then (let y0:EQ:=(x0.2.1.set a0.2.2.2.2.2.2.2.2.2.2.2.2.2.2.2.2.1.toNat ((x0.2.1.getD a0.2.2.2.2.2.2.2.2.2.2.2.2.2.2.2.2.1.toNat []).set a1.2.1.toNat a1.2.2.1))
    some (0,(wJ a0 (x0.1,y0,x0.2.2.1,x0.2.2.2,a0.2.2.2.2.2.2.2.2.2.2))))
   else none)
  else none)
 else bif decide (a1.1 = 6) then ((yW k a1.2.1 (-1) 1152921504606846976).bind fun x3=>
  bif !x3 then some (1,a0)
  else bif zC a0.2.2.2.2.2.2.2.2.2.2.2.2.2.2.2.2.1 x0.2.2.1.length then (let y1:AC:=(x0.2.2.1.set a0.2.2.2.2.2.2.2.2.2.2.2.2.2.2.2.2.1.toNat a1.2.1)
   some (0,(wJ a0 (x0.1,x0.2.1,y1,x0.2.2.2,a0.2.2.2.2.2.2.2.2.2.2))))
  else none)
 else(yW k a1.2.1 0 1152921504606846976).bind fun x4=>
 bif !x4 then some (1,a0)
 else bif zC a0.2.2.2.2.2.2.2.2.2.2.2.2.2.2.2.2.1 x0.1.length then (let y2:List zH:=(x0.1.set a0.2.2.2.2.2.2.2.2.2.2.2.2.2.2.2.2.1.toNat ((x0.1.getD a0.2.2.2.2.2.2.2.2.2.2.2.2.2.2.2.2.1.toNat (0,0,0)).1,(x0.1.getD a0.2.2.2.2.2.2.2.2.2.2.2.2.2.2.2.2.1.toNat (0,0,0)).2.1,a1.2.1))
  some (0,(wJ a0 (y2,x0.2.1,x0.2.2.1,x0.2.2.2,a0.2.2.2.2.2.2.2.2.2.2))))
 else none
def H0 (k:Nat)(a0:wL)(a1:Int):Option Bool:=
 (yW k a1 0 (zA ((a0.2.1.length:Int)-1))).bind fun x0=>
 some x0
def Cy (k:Nat)(a0:EQ):Option EQ:=
 bif zR (0+a0.length) 24 then some a0
 else none
def ni (k:Nat)(a0:AC)(a1 a2:Int):Option AC:=
 (mW k a0).bind fun x0=>
 bif decide (a1 ≥ 0) then (bif decide (a1 < (x0.length : Int)) then (bif zC a1 x0.length then some (x0.set a1.toNat a2)
   else none)
  else some x0)
 else some x0
def La (k:Nat)(a0:wL)(a1 a2:Int):Option (Int×wL):=
 (H0 k a0 a1).bind fun x0=>
 bif !x0 then some (1,a0)
 else(yW k a2 0 1099511627776).bind fun x1=>
 bif !x1 then some (1,a0)
 else(Cy k a0.2.2.2.2.2.2.2.2.2.2.2.1).bind fun x2=>
 bif zC a0.2.2.2.2.2.2.2.2.2.2.2.2.2.2.2.2.1 x2.length then ((ni k (x2.getD a0.2.2.2.2.2.2.2.2.2.2.2.2.2.2.2.2.1.toNat []) a1 a2).bind fun x3=>
  bif zC a0.2.2.2.2.2.2.2.2.2.2.2.2.2.2.2.2.1 x2.length then (let y0:EQ:=(x2.set a0.2.2.2.2.2.2.2.2.2.2.2.2.2.2.2.2.1.toNat x3)
   bif zC a0.2.2.2.2.2.2.2.2.2.2.2.2.2.2.2.2.1 y0.length then ((oD k a0.2.1 a0.2.2.2.2.2.2.2.2.2.2.1 (y0.getD a0.2.2.2.2.2.2.2.2.2.2.2.2.2.2.2.2.1.toNat [])).bind fun x4=>
    bif zC a0.2.2.2.2.2.2.2.2.2.2.2.2.2.2.2.2.1 a0.2.2.2.2.2.2.1.length then (bif !x4.2 then some (8,a0)
     else bif decide (x4.1>1152921504606846976) then some (8,a0)
     else bif decide (x4.1 < (a0.2.2.2.2.2.2.1.getD a0.2.2.2.2.2.2.2.2.2.2.2.2.2.2.2.2.1.toNat (0, 0, 0)).2.1) then (bif decide ((zA ((a0.2.2.2.2.2.2.1.getD a0.2.2.2.2.2.2.2.2.2.2.2.2.2.2.2.2.1.toNat (0,0,0)).1+x4.1))<0) then some (9,a0)
      else(jW k a0.2.2.2.2.2.2.1 a0.2.2.2.2.2.2.2.1 a0.2.2.2.2.2.2.2.2.1 a0.2.2.2.2.2.2.2.2.2.1).bind fun x5=>
      bif zC a0.2.2.2.2.2.2.2.2.2.2.2.2.2.2.2.2.1 x5.1.length then (let y1:List zH:=(x5.1.set a0.2.2.2.2.2.2.2.2.2.2.2.2.2.2.2.2.1.toNat ((x5.1.getD a0.2.2.2.2.2.2.2.2.2.2.2.2.2.2.2.2.1.toNat (0,0,0)).1,x4.1,(x5.1.getD a0.2.2.2.2.2.2.2.2.2.2.2.2.2.2.2.2.1.toNat (0,0,0)).2.2))
       some (0,(wJ a0 (y1,x5.2.1,x5.2.2.1,x5.2.2.2,a0.2.2.2.2.2.2.2.2.2.2.1,y0,a0.2.2.2.2.2.2.2.2.2.2.2.2))))
      else none)
     else(jW k a0.2.2.2.2.2.2.1 a0.2.2.2.2.2.2.2.1 a0.2.2.2.2.2.2.2.2.1 a0.2.2.2.2.2.2.2.2.2.1).bind fun x6=>
     bif zC a0.2.2.2.2.2.2.2.2.2.2.2.2.2.2.2.2.1 x6.1.length then (let y2:List zH:=(x6.1.set a0.2.2.2.2.2.2.2.2.2.2.2.2.2.2.2.2.1.toNat ((x6.1.getD a0.2.2.2.2.2.2.2.2.2.2.2.2.2.2.2.2.1.toNat (0,0,0)).1,x4.1,(x6.1.getD a0.2.2.2.2.2.2.2.2.2.2.2.2.2.2.2.2.1.toNat (0,0,0)).2.2))
      some (0,(wJ a0 (y2,x6.2.1,x6.2.2.1,x6.2.2.2,a0.2.2.2.2.2.2.2.2.2.2.1,y0,a0.2.2.2.2.2.2.2.2.2.2.2.2))))
     else none)
    else none)
   else none)
  else none)
 else none
def Lb (k:Nat)(a0 a1:Int):Option wW:=
 bif decide (a1 > 0) then (bif decide (a0>(zA (9223372036854775807-a1))) then some (0,false)
  else bif decide (a1 < 0) then (bif decide (a0<(zA ((-9223372036854775808)-a1))) then some (0,false)
   else some ((zA (a0+a1)),true))
  else some ((zA (a0+a1)),true))
 else bif decide (a1 < 0) then (bif decide (a0<(zA ((-9223372036854775808)-a1))) then some (0,false)
  else some ((zA (a0+a1)),true))
 else some ((zA (a0+a1)),true)
def GW (k:Nat)(a0:zH)(a1:Int):Option (zH×Int):=
 (Lb k a0.1 a1).bind fun x0=>
 bif !x0.2 then some (a0,8)
 else(JT k x0.1 a0.2.1 a0.2.2).bind fun x1=>
 bif !x1 then some (a0,8)
 else some ((x0.1,a0.2),0)
def CL (k:Nat)(a0:zH)(a1:Int):Option (zH×Int):=
 (GW k a0 a1).bind fun x0=>
 some (x0.1,x0.2)
def sQ (k:Nat)(bm bz aP a1:Int):Option Int:=
 some (vh false (zA (aP-a1)) 0)
def CM (k:Nat)(a0:zH)(a1 a2:Int):Option (zH×Int):=
 (GW k a0 (zA (0-a1))).bind fun x0=>
 bif decide (x0.2 = 0) then (bif decide (a2 = 1) then ((sQ k a0.1 a0.2.1 a0.2.2 a1).bind fun x1=>
   some ((x0.1.1,x0.1.2.1,x1),x0.2))
  else bif decide (a2 = 2) then ((sQ k a0.1 a0.2.1 a0.2.2 a1).bind fun x2=>
   some ((x0.1.1,x0.1.2.1,x2),x0.2))
  else some (x0.1,x0.2))
 else some (x0.1,x0.2)
def CN (k:Nat)(a0:zH)(a1:Int):Option Int:=
 bif decide (a1=3) then some (zA ((zA (a0.1+a0.2.1))-a0.2.2))
 else some (zA (a0.1+a0.2.1))
def Uy (k:Nat)(a0:wL)(a1 a2 a3:Int):Option (Int×wL):=
 (yW k a2 0 (zA (a0.1-1))).bind fun x0=>
 bif !x0 then some (1,a0)
 else(yW k a3 1 1099511627776).bind fun x1=>
 bif !x1 then some (1,a0)
 else bif zC a2 a0.2.2.2.2.2.2.1.length then ((CL k (a0.2.2.2.2.2.2.1.getD a2.toNat (0,0,0)) a3).bind fun x2=>
  bif decide (a1 = 11) then ((CM k (a0.2.2.2.2.2.2.1.getD a2.toNat (0,0,0)) a3 3).bind fun x3=>
   (CN k (a0.2.2.2.2.2.2.1.getD a2.toNat (0,0,0)) 3).bind fun x4=>
   bif decide (x4<a3) then some (9,a0)
   else bif decide ((zA (a0.2.2.2.2.2.2.2.2.2.2.2.2.2.2.1-a3))<0) then some (9,a0)
   else bif !(decide (x3.2=0)) then some (x3.2,a0)
   else bif decide ((zA (a0.2.2.2.2.2.2.2.2.2.2.2.2.2.2.1-a3))>1152921504606846976) then some (8,a0)
   else(jW k a0.2.2.2.2.2.2.1 a0.2.2.2.2.2.2.2.1 a0.2.2.2.2.2.2.2.2.1 a0.2.2.2.2.2.2.2.2.2.1).bind fun x5=>
   bif zC a2 x5.1.length then some (0,(wJ a0 ((x5.1.set a2.toNat x3.1),x5.2.1,x5.2.2.1,x5.2.2.2,(D3 a0 ((zA (a0.2.2.2.2.2.2.2.2.2.2.2.2.2.2.1-a3)),a0.2.2.2.2.2.2.2.2.2.2.2.2.2.2.2)))))
   else none)
  else bif !(decide (x2.2=0)) then some (x2.2,a0)
  else bif decide ((zA (a0.2.2.2.2.2.2.2.2.2.2.2.2.2.2.1+a3))>1152921504606846976) then some (8,a0)
  else(jW k a0.2.2.2.2.2.2.1 a0.2.2.2.2.2.2.2.1 a0.2.2.2.2.2.2.2.2.1 a0.2.2.2.2.2.2.2.2.2.1).bind fun x6=>
  bif zC a2 x6.1.length then some (0,(wJ a0 ((x6.1.set a2.toNat x2.1),x6.2.1,x6.2.2.1,x6.2.2.2,(D3 a0 ((zA (a0.2.2.2.2.2.2.2.2.2.2.2.2.2.2.1+a3)),a0.2.2.2.2.2.2.2.2.2.2.2.2.2.2.2)))))
  else none)
 else none
abbrev UC:Type:=(iW×(List qO)×AC×(List zH)×EQ×AC×EQ)⊕(Int×iW×(List qO))
abbrev UA:Type:=EQ→Int→Int→iW→List qO→AC→List zH→EQ→AC→EQ→Option UC
def yLt (k:Nat)(rec:UA)(gk:EQ)(mv iK:Int)(b0:iW)(r1:List qO)(r2:AC)(r4:List zH)(m5:EQ)(r6:AC)(m7:EQ):Option UC:=
 bif decide (iK < mv) then (bif zC iK gk.length then ((oD k b0.2.1 r2 (gk.getD iK.toNat [])).bind fun x4=>
   bif !x4.2 then some (.inr (8,b0,r1))
   else bif decide (x4.1>1152921504606846976) then some (.inr (8,b0,r1))
   else bif zC iK r4.length then (let y0:List zH:=(r4.set iK.toNat ((r4.getD iK.toNat (0,0,0)).1,x4.1,(r4.getD iK.toNat (0,0,0)).2.2))
    rec gk mv (zA (iK+1)) b0 r1 r2 y0 m5 r6 m7)
   else none)
  else none)
 else some (.inl (b0,r1,r2,r4,m5,r6,m7))
def UD (k:Nat):Nat→UA:=vH (fun _ _ _ _ _ _ _ _ _ _=>none) (yLt k)
def yEw (k:Nat)(a0:wL)(a1 a2:Int):Option (Int×wL):=
 (H0 k a0 a1).bind fun x0=>
 bif !x0 then some (1,a0)
 else(yW k a2 0 1048576).bind fun x1=>
 bif !x1 then some (1,a0)
 else(ni k a0.2.2.2.2.2.2.2.2.2.2.1 a1 a2).bind fun x2=>
 (jW k a0.2.2.2.2.2.2.1 a0.2.2.2.2.2.2.2.1 a0.2.2.2.2.2.2.2.2.1 a0.2.2.2.2.2.2.2.2.2.1).bind fun x3=>
 (UD k k a0.2.2.2.2.2.2.2.2.2.2.2.1 (a0.2.2.2.2.2.2.2.2.2.2.2.1.length:Int) 0 (iU a0) a0.2.2.2.2.2.2.2.2.2.2.2.2.2.2.2.2.2 x2 x3.1 x3.2.1 x3.2.2.1 x3.2.2.2).bind fun z=>
 match z with
 |.inl z1=>some (0,(wJ z1.1 (yVe z1 (z1.2.2.1,(Ru z1.1 z1.2.1)))))
 |.inr z2=>some (z2.1,(vD z2.2.1 z2.2.2))
def LN (k:Nat)(a0:wL)(a1:zB):Option (Int×wL):=
 bif decide (a1.1 = 1) then ((K9 k a0 a1.2).bind fun x0=>
  some (x0.1,x0.2))
 else bif decide (a1.1 = 2) then ((xc k a0 a1).bind fun x1=>
  some (x1.1,x1.2))
 else bif decide (a1.1 = 3) then ((xc k a0 a1).bind fun x2=>
  some (x2.1,x2.2))
 else bif decide (a1.1 = 4) then ((xc k a0 a1).bind fun x3=>
  some (x3.1,x3.2))
 else bif decide (a1.1 = 5) then ((xd k a0 a1).bind fun x4=>
  some (x4.1,x4.2))
 else bif decide (a1.1 = 6) then ((xd k a0 a1).bind fun x5=>
  some (x5.1,x5.2))
 else bif decide (a1.1 = 7) then ((xd k a0 a1).bind fun x6=>
  some (x6.1,x6.2))
 else bif decide (a1.1 = 8) then ((La k a0 a1.2.1 a1.2.2.1).bind fun x7=>
  some (x7.1,x7.2))
 else bif decide (a1.1 = 10) then ((Uy k a0 a1.1 a1.2.1 a1.2.2.1).bind fun x8=>
  some (x8.1,x8.2))
 else bif decide (a1.1 = 11) then ((Uy k a0 a1.1 a1.2.1 a1.2.2.1).bind fun x9=>
  some (x9.1,x9.2))
 else bif decide (a1.1 = 12) then ((yEw k a0 a1.2.1 a1.2.2.1).bind fun gf=>
  some (gf.1,gf.2))
 else some (0,a0)
def nk (k:Nat)(a0 a1:Int)(a2:AC):Option qO:=
 some (a0,a1,(bif (Nat.blt 0 a2.length) then(a2.getD 0 0) else 0),(bif (Nat.blt 1 a2.length) then(a2.getD 1 0) else 0),(bif (Nat.blt 2 a2.length) then(a2.getD 2 0) else 0),(bif (Nat.blt 3 a2.length) then(a2.getD 3 0) else 0),(bif (Nat.blt 4 a2.length) then(a2.getD 4 0) else 0),(bif (Nat.blt 5 a2.length) then(a2.getD 5 0) else 0))
abbrev UF:Type:=Int×(List zH)×EQ×AC×EQ×AC×EQ×(List zB)×AC×Int×Bool×Int×Int×Bool×(List qO)
abbrev UE:Type:=List zB→Int→Int→Int→List zH→EQ→AC→EQ→AC→EQ→List zB→AC→Int→Bool→Int→Int→Bool→List qO→Option UF
def Cp (k:Nat)(rec:UE)(ao:List zB)(bc lG aa:Int)(ae:List zH)(af:EQ)(ab:AC)(aV:EQ)(bd:AC)(bg:EQ)(du:List zB)(dv:AC)(dw:Int)(bR:Bool)(an bA:Int)(aQ:Bool)(r2:List qO):Option UF:=
 bif decide (lG < bc) then (bif zC lG ao.length then ((nk k (ao.getD lG.toNat (0,0,0,0,0,0,0)).2.1 22 [(ao.getD lG.toNat (0,0,0,0,0,0,0)).1]).bind fun x0=>
   bif zR (r2.length+1) 64 then(rec ao bc (zA (lG+1)) aa ae af ab aV bd bg du dv dw bR an bA aQ (r2++[x0]))
   else none)
  else none)
 else some (aa,ae,af,ab,aV,bd,bg,du,dv,dw,bR,an,bA,aQ,r2)
def Co (k:Nat):Nat→UE
 |0,_,_,_,_,_,_,_,_,_,_,_,_,_,_,_,_,_,_=>none
 |n+1,ao,bc,lG,aa,ae,af,ab,aV,bd,bg,du,dv,dw,bR,an,bA,aQ,r2=>Cp k (Co k n) ao bc lG aa ae af ab aV bd bg du dv dw bR an bA aQ r2
abbrev UG:Type:=List zH→Int→Int→Int→List zH→EQ→AC→EQ→AC→EQ→List zB→AC→Int→Bool→Int→Int→Bool→List qO→Option UF
def Cr (k:Nat)(rec:UG)(iX:List zH)(eg ke aa:Int)(ae:List zH)(af:EQ)(ab:AC)(aV:EQ)(bd:AC)(bg:EQ)(du:List zB)(dv:AC)(dw:Int)(bR:Bool)(an bA:Int)(aQ:Bool)(r2:List qO):Option UF:=
 bif decide (ke < eg) then (bif zC ke iX.length then ((nk k ke 23 [(iX.getD ke.toNat (0,0,0)).1]).bind fun x1=>
   bif zR (r2.length+1) 64 then(rec iX eg (zA (ke+1)) aa ae af ab aV bd bg du dv dw bR an bA aQ (r2++[x1]))
   else none)
  else none)
 else some (aa,ae,af,ab,aV,bd,bg,du,dv,dw,bR,an,bA,aQ,r2)
def GR (k:Nat):Nat→UG
 |0,_,_,_,_,_,_,_,_,_,_,_,_,_,_,_,_,_,_=>none
 |n+1,iX,eg,ke,aa,ae,af,ab,aV,bd,bg,du,dv,dw,bR,an,bA,aQ,r2=>Cr k (GR k n) iX eg ke aa ae af ab aV bd bg du dv dw bR an bA aQ r2
def K7 (k:Nat)(xQ:Int)(Ib:List zH)(Ic:EQ)(Ie:AC)(Ig:EQ)(Ih:AC)(Ii:EQ)(xR:List zB)(Ij:AC)(Ik:Int)(Il:Bool):Option M4:=
 (Co k k xR (xR.length:Int) 0 xQ Ib Ic Ie Ig Ih Ii xR Ij Ik Il 0 0 false []).bind fun z=>
 (GR k k z.2.1 (z.2.1.length:Int) 0 z.1 z.2.1 z.2.2.1 z.2.2.2.1 z.2.2.2.2.1 z.2.2.2.2.2.1 z.2.2.2.2.2.2.1 z.2.2.2.2.2.2.2.1 z.2.2.2.2.2.2.2.2.1 z.2.2.2.2.2.2.2.2.2.1 z.2.2.2.2.2.2.2.2.2.2.1 z.2.2.2.2.2.2.2.2.2.2.2.1 z.2.2.2.2.2.2.2.2.2.2.2.2.1 z.2.2.2.2.2.2.2.2.2.2.2.2.2.1 z.2.2.2.2.2.2.2.2.2.2.2.2.2.2).bind fun z1=>
 some (gP z1 ([],z1.2.2.2.2.2.2.2.2.1,z1.2.2.2.2.2.2.2.2.2.1,true,z1.2.2.2.2.2.2.2.2.2.2.2.2.2.2))
def Q9 (k:Nat)(bU aq bq aB az aI aN a1:Int):Option Bool:=
 some (decide (a1>aN))
def Cv (k:Nat)(cO:Int)(dy:List wD)(dz cP bV a1:Int):Option Bool:=
 bif decide (a1 > 0) then (bif decide (a1 < cP) then (bif !(decide (bV=0)) then some (decide ((Int.tmod a1 bV)=0))
   else none)
  else some false)
 else some false
def Qw (k:Nat)(bU aq bq aB az aI aN a1:Int):Option Bool:=
 bif decide (a1≥aI) then some (decide (a1≤aN))
 else some false
def Qv (k:Nat)(bU aq bq aB az aI aN a1:Int):Option Bool:=
 (Qw k bU aq bq aB az aI aN a1).bind fun x0=>
 some x0
def Bo (k:Nat)(rec:Ud)(s8:List zB)(s9 ao aa:Int)(r1:List zB):Option Uf:=
 bif decide (ao < s9) then (bif zC ao s8.length then ((Qv k (s8.getD ao.toNat (0,0,0,0,0,0,0)).1 (s8.getD ao.toNat (0,0,0,0,0,0,0)).2.1 (s8.getD ao.toNat (0,0,0,0,0,0,0)).2.2.1 (s8.getD ao.toNat (0,0,0,0,0,0,0)).2.2.2.1 (s8.getD ao.toNat (0,0,0,0,0,0,0)).2.2.2.2.1 (s8.getD ao.toNat (0,0,0,0,0,0,0)).2.2.2.2.2.1 (s8.getD ao.toNat (0,0,0,0,0,0,0)).2.2.2.2.2.2 aa).bind fun x0=>
   bif x0 then (bif zR (r1.length + 1) 56 then (let y0:List zB:=(r1++[(s8.getD ao.toNat (0,0,0,0,0,0,0))])
     rec s8 s9 (zA (ao+1)) aa y0)
    else none)
   else rec s8 s9 (zA (ao+1)) aa r1)
  else none)
 else some r1
def Ga (k:Nat):Nat→Ud
 |0,_,_,_,_,_=>none
 |n+1,s8,s9,ao,aa,r1=>Bo k (Ga k n) s8 s9 ao aa r1
def Qu (k:Nat)(a0:List zB)(cH:Int):Option (List zB):=
 (Ga k k a0 (a0.length:Int) 0 cH []).bind fun z=>
 some z
def Bn (k:Nat)(a0:List zB)(a1:Int):Option (List zB):=
 (Qu k a0 a1).bind fun x0=>
 some x0
def QA (k:Nat)(bU aq bq aB az aI aN oS gi ka lE kb rz rA:Int):Option Bool:=
 bif decide (aq=gi) then some (!(decide (az=3)))
 else some false
abbrev UM:Type:=List zB→Int→Int→Int→Int→Int→Int→Int→Int→Int→Option (Unit⊕Int)
def Bw (k:Nat)(rec:UM)(s0:List zB)(s7 s8 aa ae af ab aV bd bg:Int):Option (Unit⊕Int):=
 bif decide (s8 < s7) then (bif zC s8 s0.length then ((QA k (s0.getD s8.toNat (0,0,0,0,0,0,0)).1 (s0.getD s8.toNat (0,0,0,0,0,0,0)).2.1 (s0.getD s8.toNat (0,0,0,0,0,0,0)).2.2.1 (s0.getD s8.toNat (0,0,0,0,0,0,0)).2.2.2.1 (s0.getD s8.toNat (0,0,0,0,0,0,0)).2.2.2.2.1 (s0.getD s8.toNat (0,0,0,0,0,0,0)).2.2.2.2.2.1 (s0.getD s8.toNat (0,0,0,0,0,0,0)).2.2.2.2.2.2 aa ae af ab aV bd bg).bind fun x0=>
   bif x0 then some (.inr s8)
   else rec s0 s7 (zA (s8+1)) aa ae af ab aV bd bg)
  else none)
 else some (.inl ())
def Gg (k:Nat):Nat→UM
 |0,_,_,_,_,_,_,_,_,_,_=>none
 |n+1,s0,s7,s8,aa,ae,af,ab,aV,bd,bg=>Bw k (Gg k n) s0 s7 s8 aa ae af ab aV bd bg
def QB (k:Nat)(a0:List zB)(kf eE kg cV dJ dK eF:Int):Option Int:=
 (Gg k k a0 (a0.length:Int) 0 kf eE kg cV dJ dK eF).bind fun z=>
 match z with
 |.inl z1=>some (-1)
 |.inr z2=>some z2
def Kz (k:Nat)(a0:List zB)(kf eE kg cV dJ dK eF:Int):Option Bool:=
 (QB k a0 kf eE kg cV dJ dK eF).bind fun x0=>
 some (decide (x0≥0))
def QD (k:Nat)(bU aq bq aB az aI aN:Int)(a1:List wW)(a2:List zB):Option (Bool×(List wW)):=
 bif !(Option.getD (List.lookup aq a1) false) then some (true,((aq,true)::a1))
 else bif decide (az = 3) then ((Kz k a2 bU aq bq aB az aI aN).bind fun x0=>
  some ((!x0),((aq,true)::a1)))
 else some (false,((aq,true)::a1))
abbrev UQ:Type:=(List wW)×(List zB)×(List zB)
abbrev UO:Type:=List zB→Int→Int→List wW→List zB→List zB→Option UQ
def By (k:Nat)(rec:UO)(s8:List zB)(s9 ao:Int)(p1:List wW)(aY r3:List zB):Option UQ:=
 bif decide (ao < s9) then (bif zC ao s8.length then ((QD k (s8.getD ao.toNat (0,0,0,0,0,0,0)).1 (s8.getD ao.toNat (0,0,0,0,0,0,0)).2.1 (s8.getD ao.toNat (0,0,0,0,0,0,0)).2.2.1 (s8.getD ao.toNat (0,0,0,0,0,0,0)).2.2.2.1 (s8.getD ao.toNat (0,0,0,0,0,0,0)).2.2.2.2.1 (s8.getD ao.toNat (0,0,0,0,0,0,0)).2.2.2.2.2.1 (s8.getD ao.toNat (0,0,0,0,0,0,0)).2.2.2.2.2.2 p1 aY).bind fun x0=>
   bif x0.1 then (bif zR (r3.length + 1) 56 then (let y0:List zB:=(r3++[(s8.getD ao.toNat (0,0,0,0,0,0,0))])
     rec s8 s9 (zA (ao+1)) x0.2 aY y0)
    else none)
   else rec s8 s9 (zA (ao+1)) x0.2 aY r3)
  else none)
 else some (p1,aY,r3)
def Bx (k:Nat):Nat→UO
 |0,_,_,_,_,_,_=>none
 |n+1,s8,s9,ao,p1,aY,r3=>By k (Bx k n) s8 s9 ao p1 aY r3
def QC (k:Nat)(a0:List zB)(cH:List wW)(Yb:List zB):Option ((List zB)×(List wW)):=
 (Bx k k a0 (a0.length:Int) 0 cH Yb []).bind fun z=>
 some (z.2.2,z.1)
def Gh (k:Nat)(a0:List zB)(a1:Int):Option (List zB):=
 (Bn k a0 a1).bind fun x0=>
 (QC k x0 [] x0).bind fun x1=>
 some x1.1
def Qr (k:Nat)(bU aq bq aB az aI aN:Int)(iJ:List zH)(rE:EQ)(rF:AC)(rG:EQ):Option Bool:=
 (AQ k iJ rE rF rG bU aq bq aB az aI aN).bind fun x0=>
 some (!x0)
abbrev UR:Type:=List zB→Int→Int→List zH→EQ→AC→EQ→Option (Unit⊕Int)
def Bm (k:Nat)(rec:UR)(s0:List zB)(s7 s8:Int)(aa:List zH)(ae:EQ)(af:AC)(ab:EQ):Option (Unit⊕Int):=
 bif decide (s8 < s7) then (bif zC s8 s0.length then ((Qr k (s0.getD s8.toNat (0,0,0,0,0,0,0)).1 (s0.getD s8.toNat (0,0,0,0,0,0,0)).2.1 (s0.getD s8.toNat (0,0,0,0,0,0,0)).2.2.1 (s0.getD s8.toNat (0,0,0,0,0,0,0)).2.2.2.1 (s0.getD s8.toNat (0,0,0,0,0,0,0)).2.2.2.2.1 (s0.getD s8.toNat (0,0,0,0,0,0,0)).2.2.2.2.2.1 (s0.getD s8.toNat (0,0,0,0,0,0,0)).2.2.2.2.2.2 aa ae af ab).bind fun x0=>
   bif x0 then some (.inr s8)
   else rec s0 s7 (zA (s8+1)) aa ae af ab)
  else none)
 else some (.inl ())
def F8 (k:Nat):Nat→UR
 |0,_,_,_,_,_,_,_=>none
 |n+1,s0,s7,s8,aa,ae,af,ab=>Bm k (F8 k n) s0 s7 s8 aa ae af ab
def Qs (k:Nat)(a0:List zB)(bC:List zH)(cj:EQ)(cm:AC)(cn:EQ):Option Int:=
 (F8 k k a0 (a0.length:Int) 0 bC cj cm cn).bind fun z=>
 match z with
 |.inl z1=>some (-1)
 |.inr z2=>some z2
def Kv (k:Nat)(a0:List zB)(bC:List zH)(cj:EQ)(cm:AC)(cn:EQ):Option Bool:=
 (Qs k a0 bC cj cm cn).bind fun x0=>
 some (decide (x0≥0))
abbrev UX:Type:=AC×AC×EQ
abbrev UU:Type:=List zB→Int→Int→AC→AC→EQ→Option UX
def Be (k:Nat)(rec:UU)(ba:List zB)(ca bj:Int)(r2 r3:AC)(m4:EQ):Option UX:=
 bif decide (bj < ca) then (bif zC bj ba.length then (bif zC (ba.getD bj.toNat (0, 0, 0, 0, 0, 0, 0)).2.1 r2.length then (bif zC (ba.getD bj.toNat (0, 0, 0, 0, 0, 0, 0)).2.1 r2.length then (let y0:AC:=(r2.set (ba.getD bj.toNat (0,0,0,0,0,0,0)).2.1.toNat (zA ((r2.getD (ba.getD bj.toNat (0,0,0,0,0,0,0)).2.1.toNat 0)-(ba.getD bj.toNat (0,0,0,0,0,0,0)).2.2.2.1)))
     bif zC (ba.getD bj.toNat (0, 0, 0, 0, 0, 0, 0)).2.2.1 y0.length then (bif zC (ba.getD bj.toNat (0, 0, 0, 0, 0, 0, 0)).2.2.1 y0.length then (let y1:AC:=(y0.set (ba.getD bj.toNat (0,0,0,0,0,0,0)).2.2.1.toNat (zA ((y0.getD (ba.getD bj.toNat (0,0,0,0,0,0,0)).2.2.1.toNat 0)+(ba.getD bj.toNat (0,0,0,0,0,0,0)).2.2.2.1)))
       bif zC (ba.getD bj.toNat (0, 0, 0, 0, 0, 0, 0)).2.1 m4.length then (bif zC (ba.getD bj.toNat (0, 0, 0, 0, 0, 0, 0)).2.2.1 (m4.getD (ba.getD bj.toNat (0, 0, 0, 0, 0, 0, 0)).2.1.toNat []).length then (bif zC (ba.getD bj.toNat (0, 0, 0, 0, 0, 0, 0)).2.2.1 (m4.getD (ba.getD bj.toNat (0, 0, 0, 0, 0, 0, 0)).2.1.toNat []).length then (let y2:EQ:=(m4.set (ba.getD bj.toNat (0,0,0,0,0,0,0)).2.1.toNat ((m4.getD (ba.getD bj.toNat (0,0,0,0,0,0,0)).2.1.toNat []).set (ba.getD bj.toNat (0,0,0,0,0,0,0)).2.2.1.toNat (zA (((m4.getD (ba.getD bj.toNat (0,0,0,0,0,0,0)).2.1.toNat []).getD (ba.getD bj.toNat (0,0,0,0,0,0,0)).2.2.1.toNat 0)+(ba.getD bj.toNat (0,0,0,0,0,0,0)).2.2.2.1))))
          bif zC (ba.getD bj.toNat (0, 0, 0, 0, 0, 0, 0)).2.2.1 y2.length then (bif zC (ba.getD bj.toNat (0, 0, 0, 0, 0, 0, 0)).2.1 (y2.getD (ba.getD bj.toNat (0, 0, 0, 0, 0, 0, 0)).2.2.1.toNat []).length then (bif zC (ba.getD bj.toNat (0, 0, 0, 0, 0, 0, 0)).2.1 (y2.getD (ba.getD bj.toNat (0, 0, 0, 0, 0, 0, 0)).2.2.1.toNat []).length then (let y3:EQ:=(y2.set (ba.getD bj.toNat (0,0,0,0,0,0,0)).2.2.1.toNat ((y2.getD (ba.getD bj.toNat (0,0,0,0,0,0,0)).2.2.1.toNat []).set (ba.getD bj.toNat (0,0,0,0,0,0,0)).2.1.toNat (zA (((y2.getD (ba.getD bj.toNat (0,0,0,0,0,0,0)).2.2.1.toNat []).getD (ba.getD bj.toNat (0,0,0,0,0,0,0)).2.1.toNat 0)-(ba.getD bj.toNat (0,0,0,0,0,0,0)).2.2.2.1))))
             bif !(decide ((ba.getD bj.toNat (0, 0, 0, 0, 0, 0, 0)).2.2.2.2.1 = 3)) then (bif zC (ba.getD bj.toNat (0, 0, 0, 0, 0, 0, 0)).2.1 r3.length then (bif zC (ba.getD bj.toNat (0, 0, 0, 0, 0, 0, 0)).2.1 r3.length then (let y4:AC:=(r3.set (ba.getD bj.toNat (0,0,0,0,0,0,0)).2.1.toNat (zA ((r3.getD (ba.getD bj.toNat (0,0,0,0,0,0,0)).2.1.toNat 0)+(ba.getD bj.toNat (0,0,0,0,0,0,0)).2.2.2.1)))
                rec ba ca (zA (bj+1)) y1 y4 y3)
               else none)
              else none)
             else rec ba ca (zA (bj+1)) y1 r3 y3)
            else none)
           else none)
          else none)
         else none)
        else none)
       else none)
      else none)
     else none)
    else none)
   else none)
  else none)
 else some (r2,r3,m4)
def F4 (k:Nat):Nat→UU
 |0,_,_,_,_,_,_=>none
 |n+1,ba,ca,bj,r2,r3,m4=>Be k (F4 k n) ba ca bj r2 r3 m4
def Kq (k:Nat)(a0:Int)(a1:List zB):Option (AC×AC×EQ):=
 (we k a0 0).bind fun x0=>
 (we k a0 0).bind fun x1=>
 (Bc k a0 0).bind fun x2=>
 (F4 k k a1 (a1.length:Int) 0 x0 x1 x2).bind fun z=>
 some (z.1,z.2.1,z.2.2)
def Ql (k:Nat)(bU aq bq aB az aI aN a1:Int):Option Bool:=
 some (decide (aq=a1))
def Bf (k:Nat)(rec:SK)(s0:List zB)(s7 s8 aa:Int):Option (Unit⊕Int):=
 bif decide (s8 < s7) then (bif zC s8 s0.length then ((Ql k (s0.getD s8.toNat (0,0,0,0,0,0,0)).1 (s0.getD s8.toNat (0,0,0,0,0,0,0)).2.1 (s0.getD s8.toNat (0,0,0,0,0,0,0)).2.2.1 (s0.getD s8.toNat (0,0,0,0,0,0,0)).2.2.2.1 (s0.getD s8.toNat (0,0,0,0,0,0,0)).2.2.2.2.1 (s0.getD s8.toNat (0,0,0,0,0,0,0)).2.2.2.2.2.1 (s0.getD s8.toNat (0,0,0,0,0,0,0)).2.2.2.2.2.2 aa).bind fun x0=>
   bif x0 then some (.inr s8)
   else rec s0 s7 (zA (s8+1)) aa)
  else none)
 else some (.inl ())
def F5 (k:Nat):Nat→SK
 |0,_,_,_,_=>none
 |n+1,s0,s7,s8,aa=>Bf k (F5 k n) s0 s7 s8 aa
def Qm (k:Nat)(a0:List zB)(cH:Int):Option Int:=
 (F5 k k a0 (a0.length:Int) 0 cH).bind fun z=>
 match z with
 |.inl z1=>some (-1)
 |.inr z2=>some z2
def Kr (k:Nat)(a0:List zB)(cH:Int):Option Bool:=
 (Qm k a0 cH).bind fun x0=>
 some (decide (x0≥0))
def Ba (k:Nat)(rec:Int→AC→Int→Int→Option Int)(s5:Int)(lG:AC)(bL bx:Int):Option Int:=
 bif decide (bx < bL) then (bif zC bx lG.length then(rec (zA (s5+(lG.getD bx.toNat 0))) lG bL (zA (bx+1)))
  else none)
 else some s5
def A9 (k:Nat):Nat→Int→AC→Int→Int→Option Int
 |0,_,_,_,_=>none
 |n+1,s5,lG,bL,bx=>Ba k (A9 k n) s5 lG bL bx
def Kn (k:Nat)(aL:List zH)(aZ:EQ)(aW:AC)(aT:EQ)(a1:Int):Option Int:=
 bif zC a1 aT.length then ((A9 k k 0 (aT.getD a1.toNat []) ((aT.getD a1.toNat []).length:Int) 0).bind fun z=>
  some z)
 else none
def Bh (k:Nat)(a0 a1:Int):Option Bool:=
 bif !(decide (a1=(-1))) then some (decide (a0>a1))
 else some false
def Qn (k:Nat)(bU aq bq aB az aI aN a1 lH nr lI:Int)(Yc kQ:AC)(dL:EQ)(a4:Int)(M8:List zH)(fP:EQ)(aah:AC)(fQ:EQ):Option Bool:=
 bif !(decide (aq=a1)) then some false
 else bif zC a1 kQ.length then ((sQ k lH nr lI (kQ.getD a1.toNat 0)).bind fun x0=>
  bif decide (az = 3) then (bif decide (a4<x0) then some true
   else bif zC a1 fQ.length then (bif zC bq (fQ.getD a1.toNat []).length then (bif zC a1 dL.length then (bif zC bq (dL.getD a1.toNat []).length then (bif zC a1 fP.length then (bif zC bq (fP.getD a1.toNat []).length then ((Bh k (zA (((fQ.getD a1.toNat []).getD bq.toNat 0)+((dL.getD a1.toNat []).getD bq.toNat 0))) ((fP.getD a1.toNat []).getD bq.toNat 0)).bind fun x1=>
         some x1)
        else none)
       else none)
      else none)
     else none)
    else none)
   else none)
  else bif zC a1 fQ.length then (bif zC bq (fQ.getD a1.toNat []).length then (bif zC a1 dL.length then (bif zC bq (dL.getD a1.toNat []).length then (bif zC a1 fP.length then (bif zC bq (fP.getD a1.toNat []).length then ((Bh k (zA (((fQ.getD a1.toNat []).getD bq.toNat 0)+((dL.getD a1.toNat []).getD bq.toNat 0))) ((fP.getD a1.toNat []).getD bq.toNat 0)).bind fun x2=>
        some x2)
       else none)
      else none)
     else none)
    else none)
   else none)
  else none)
 else none
abbrev U3:Type:=List zB→Int→Int→Int→Int→Int→Int→AC→AC→EQ→Int→List zH→EQ→AC→EQ→Option (Unit⊕Int)
def Bi (k:Nat)(rec:U3)(s0:List zB)(s7 s8 aa an ar au:Int)(aY bP:AC)(bQ:EQ)(bW:Int)(gl:List zH)(rH:EQ)(rI:AC)(rJ:EQ):Option (Unit⊕Int):=
 bif decide (s8 < s7) then (bif zC s8 s0.length then ((Qn k (s0.getD s8.toNat (0,0,0,0,0,0,0)).1 (s0.getD s8.toNat (0,0,0,0,0,0,0)).2.1 (s0.getD s8.toNat (0,0,0,0,0,0,0)).2.2.1 (s0.getD s8.toNat (0,0,0,0,0,0,0)).2.2.2.1 (s0.getD s8.toNat (0,0,0,0,0,0,0)).2.2.2.2.1 (s0.getD s8.toNat (0,0,0,0,0,0,0)).2.2.2.2.2.1 (s0.getD s8.toNat (0,0,0,0,0,0,0)).2.2.2.2.2.2 aa an ar au aY bP bQ bW gl rH rI rJ).bind fun x0=>
   bif x0 then some (.inr s8)
   else rec s0 s7 (zA (s8+1)) aa an ar au aY bP bQ bW gl rH rI rJ)
  else none)
 else some (.inl ())
def F7 (k:Nat):Nat→U3
 |0,_,_,_,_,_,_,_,_,_,_,_,_,_,_,_=>none
 |n+1,s0,s7,s8,aa,an,ar,au,aY,bP,bQ,bW,gl,rH,rI,rJ=>Bi k (F7 k n) s0 s7 s8 aa an ar au aY bP bQ bW gl rH rI rJ
def Qo (k:Nat)(a0:List zB)(cH cI cW cJ:Int)(eG dM:AC)(eH:EQ)(xU:Int)(dN:List zH)(gm:EQ)(gn:AC)(gp:EQ):Option Int:=
 (F7 k k a0 (a0.length:Int) 0 cH cI cW cJ eG dM eH xU dN gm gn gp).bind fun z=>
 match z with
 |.inl z1=>some (-1)
 |.inr z2=>some z2
def Ks (k:Nat)(a0:List zB)(cH cI cW cJ:Int)(eG dM:AC)(eH:EQ)(xU:Int)(dN:List zH)(gm:EQ)(gn:AC)(gp:EQ):Option Bool:=
 (Qo k a0 cH cI cW cJ eG dM eH xU dN gm gn gp).bind fun x0=>
 some (decide (x0≥0))
abbrev U8:Type:=(List zB)×Int×AC×AC×EQ×(List zH)×EQ×AC×EQ×Int×Int×Int×Int×Int
abbrev U6:Type:=List zB→Int→AC→Int→Int→AC→AC→EQ→List zH→EQ→AC→EQ→Int→Int→Int→Int→Int→Option U8
def Bj (k:Nat)(rec:U6)(s3:List zB)(bc:Int)(oU:AC)(gk mv:Int)(aa ae:AC)(af:EQ)(an:List zH)(ar:EQ)(au:AC)(ax:EQ)(aY bW cK cQ gl:Int):Option U8:=
 bif decide (mv < gk) then (bif zC mv oU.length then(rec s3 (zA (bc+(oU.getD mv.toNat 0))) oU gk (zA (mv+1)) aa ae af an ar au ax aY bW cK cQ gl)
  else none)
 else some (s3,bc,aa,ae,af,an,ar,au,ax,aY,bW,cK,cQ,gl)
def wh (k:Nat):Nat→U6
 |0,_,_,_,_,_,_,_,_,_,_,_,_,_,_,_,_,_=>none
 |n+1,s3,bc,oU,gk,mv,aa,ae,af,an,ar,au,ax,aY,bW,cK,cQ,gl=>Bj k (wh k n) s3 bc oU gk mv aa ae af an ar au ax aY bW cK cQ gl
def Ku (k:Nat)(gq rK:AC)(gu:EQ)(iJ:List zH)(rE:EQ)(rF:AC)(rG:EQ)(a2:Int)(a3:List zB):Option Bool:=
 bif zC a2 iJ.length then (bif zC a2 gq.length then (bif decide ((zA ((zA ((iJ.getD a2.toNat (0,0,0)).1+(iJ.getD a2.toNat (0,0,0)).2.1))+(gq.getD a2.toNat 0)))<0) then some true
   else(Kn k iJ rE rF rG a2).bind fun x0=>
   bif zC a2 gu.length then ((wh k k a3 x0 (gu.getD a2.toNat []) ((gu.getD a2.toNat []).length:Int) 0 gq rK gu iJ rE rF rG a2 (iJ.getD a2.toNat (0,0,0)).1 (iJ.getD a2.toNat (0,0,0)).2.1 (iJ.getD a2.toNat (0,0,0)).2.2 (zA ((zA ((iJ.getD a2.toNat (0,0,0)).1+(iJ.getD a2.toNat (0,0,0)).2.1))+(gq.getD a2.toNat 0)))).bind fun z=>
    bif zC z.2.2.2.2.2.2.2.2.2.1 z.2.2.2.2.2.2.2.1.length then ((Bh k z.2.1 (z.2.2.2.2.2.2.2.1.getD z.2.2.2.2.2.2.2.2.2.1.toNat 0)).bind fun x1=>
     bif x1 then some true
     else(Ks k z.1 z.2.2.2.2.2.2.2.2.2.1 z.2.2.2.2.2.2.2.2.2.2.1 z.2.2.2.2.2.2.2.2.2.2.2.1 z.2.2.2.2.2.2.2.2.2.2.2.2.1 z.2.2.1 z.2.2.2.1 z.2.2.2.2.1 z.2.2.2.2.2.2.2.2.2.2.2.2.2 z.2.2.2.2.2.1 z.2.2.2.2.2.2.1 z.2.2.2.2.2.2.2.1 z.2.2.2.2.2.2.2.2.1).bind fun x2=>
     some x2)
    else none)
   else none)
  else none)
 else none
abbrev U9:Type:=List zB→Int→Int→List zH→EQ→AC→EQ→AC→AC→EQ→AC→Option AC
def Bl (k:Nat)(rec:U9)(s1:List zB)(ca bj:Int)(aa:List zH)(ae:EQ)(af:AC)(ab:EQ)(r2 r3:AC)(m4:EQ)(r5:AC):Option AC:=
 bif decide (bj < ca) then ((Kr k s1 bj).bind fun x1=>
  bif x1 then ((Ku k r2 r3 m4 aa ae af ab bj s1).bind fun x2=>
   bif x2 then (bif zR (r5.length+1) 8 then(rec s1 ca (zA (bj+1)) aa ae af ab r2 r3 m4 (r5++[bj]))
    else none)
   else rec s1 ca (zA (bj+1)) aa ae af ab r2 r3 m4 r5)
  else rec s1 ca (zA (bj+1)) aa ae af ab r2 r3 m4 r5)
 else some r5
def Bk (k:Nat):Nat→U9
 |0,_,_,_,_,_,_,_,_,_,_,_=>none
 |n+1,s1,ca,bj,aa,ae,af,ab,r2,r3,m4,r5=>Bl k (Bk k n) s1 ca bj aa ae af ab r2 r3 m4 r5
def wi (k:Nat)(aL:List zH)(aZ:EQ)(aW:AC)(aT:EQ)(a1:List zB):Option AC:=
 (Kq k (aL.length:Int) a1).bind fun x0=>
 (Bk k k a1 (aL.length:Int) 0 aL aZ aW aT x0.1 x0.2.1 x0.2.2 []).bind fun z=>
 some z
def wj (k:Nat)(aL:List zH)(aZ:EQ)(aW:AC)(aT:EQ)(a1:List zB):Option Bool:=
 bif decide ((a1.length : Int) ≤ 64) then ((Kv k a1 aL aZ aW aT).bind fun x0=>
  bif !x0 then ((wi k aL aZ aW aT a1).bind fun x1=>
   some (decide ((x1.length:Int)=0)))
  else some false)
 else some false
def Qd (k:Nat)(bU aq bq aB az aI aN:Int)(iJ:List zH)(rE:EQ)(rF:AC)(rG:EQ):Option Bool:=
 (AQ k iJ rE rF rG bU aq bq aB az aI aN).bind fun x0=>
 some (!x0)
def AR (k:Nat)(rec:UR)(s0:List zB)(s7 s8:Int)(aa:List zH)(ae:EQ)(af:AC)(ab:EQ):Option (Unit⊕Int):=
 bif decide (s8 < s7) then (bif zC s8 s0.length then ((Qd k (s0.getD s8.toNat (0,0,0,0,0,0,0)).1 (s0.getD s8.toNat (0,0,0,0,0,0,0)).2.1 (s0.getD s8.toNat (0,0,0,0,0,0,0)).2.2.1 (s0.getD s8.toNat (0,0,0,0,0,0,0)).2.2.2.1 (s0.getD s8.toNat (0,0,0,0,0,0,0)).2.2.2.2.1 (s0.getD s8.toNat (0,0,0,0,0,0,0)).2.2.2.2.2.1 (s0.getD s8.toNat (0,0,0,0,0,0,0)).2.2.2.2.2.2 aa ae af ab).bind fun x0=>
   bif x0 then some (.inr s8)
   else rec s0 s7 (zA (s8+1)) aa ae af ab)
  else none)
 else some (.inl ())
def FP (k:Nat):Nat→UR
 |0,_,_,_,_,_,_,_=>none
 |n+1,s0,s7,s8,aa,ae,af,ab=>AR k (FP k n) s0 s7 s8 aa ae af ab
def Qe (k:Nat)(a0:List zB)(bC:List zH)(cj:EQ)(cm:AC)(cn:EQ):Option Int:=
 (FP k k a0 (a0.length:Int) 0 bC cj cm cn).bind fun z=>
 match z with
 |.inl z1=>some (-1)
 |.inr z2=>some z2
def J6 (k:Nat)(a0:List zB)(bC:List zH)(cj:EQ)(cm:AC)(cn:EQ):Option Bool:=
 (Qe k a0 bC cj cm cn).bind fun x0=>
 some (decide (x0≥0))
abbrev Vf:Type:=(List zH)×EQ×AC×EQ×(List zH)×EQ×AC×EQ
abbrev Vd:Type:=List zB→Int→Int→List zH→EQ→AC→EQ→List zH→EQ→AC→EQ→Option Vf
def AW (k:Nat)(rec:Vd)(bo:List zB)(gV aR:Int)(aa:List zH)(ae:EQ)(af:AC)(ab:EQ)(r3:List zH)(m4:EQ)(r5:AC)(m6:EQ):Option Vf:=
 bif decide (aR < gV) then (bif zC aR bo.length then (bif zC (bo.getD aR.toNat (0, 0, 0, 0, 0, 0, 0)).2.1 r3.length then (bif zC (bo.getD aR.toNat (0, 0, 0, 0, 0, 0, 0)).2.2.1 r3.length then (let y0:List zH:=(r3.set (bo.getD aR.toNat (0,0,0,0,0,0,0)).2.1.toNat ((zA ((r3.getD (bo.getD aR.toNat (0,0,0,0,0,0,0)).2.1.toNat (0,0,0)).1-(bo.getD aR.toNat (0,0,0,0,0,0,0)).2.2.2.1)),(r3.getD (bo.getD aR.toNat (0,0,0,0,0,0,0)).2.1.toNat (0,0,0)).2))
     let y1:List zH:=(y0.set (bo.getD aR.toNat (0,0,0,0,0,0,0)).2.2.1.toNat ((zA ((y0.getD (bo.getD aR.toNat (0,0,0,0,0,0,0)).2.2.1.toNat (0,0,0)).1+(bo.getD aR.toNat (0,0,0,0,0,0,0)).2.2.2.1)),(y0.getD (bo.getD aR.toNat (0,0,0,0,0,0,0)).2.2.1.toNat (0,0,0)).2))
     bif !(decide ((bo.getD aR.toNat (0, 0, 0, 0, 0, 0, 0)).2.2.2.2.1 = 3)) then ((sQ k (y1.getD (bo.getD aR.toNat (0,0,0,0,0,0,0)).2.1.toNat (0,0,0)).1 (y1.getD (bo.getD aR.toNat (0,0,0,0,0,0,0)).2.1.toNat (0,0,0)).2.1 (y1.getD (bo.getD aR.toNat (0,0,0,0,0,0,0)).2.1.toNat (0,0,0)).2.2 (bo.getD aR.toNat (0,0,0,0,0,0,0)).2.2.2.1).bind fun x2=>
      let y2:List zH:=(y1.set (bo.getD aR.toNat (0,0,0,0,0,0,0)).2.1.toNat ((y1.getD (bo.getD aR.toNat (0,0,0,0,0,0,0)).2.1.toNat (0,0,0)).1,(y1.getD (bo.getD aR.toNat (0,0,0,0,0,0,0)).2.1.toNat (0,0,0)).2.1,x2))
      bif zC (bo.getD aR.toNat (0, 0, 0, 0, 0, 0, 0)).2.1 m6.length then (bif zC (bo.getD aR.toNat (0, 0, 0, 0, 0, 0, 0)).2.2.1 (m6.getD (bo.getD aR.toNat (0, 0, 0, 0, 0, 0, 0)).2.1.toNat []).length then (bif zC (bo.getD aR.toNat (0, 0, 0, 0, 0, 0, 0)).2.2.1 (m6.getD (bo.getD aR.toNat (0, 0, 0, 0, 0, 0, 0)).2.1.toNat []).length then (let y3:EQ:=(m6.set (bo.getD aR.toNat (0,0,0,0,0,0,0)).2.1.toNat ((m6.getD (bo.getD aR.toNat (0,0,0,0,0,0,0)).2.1.toNat []).set (bo.getD aR.toNat (0,0,0,0,0,0,0)).2.2.1.toNat (zA (((m6.getD (bo.getD aR.toNat (0,0,0,0,0,0,0)).2.1.toNat []).getD (bo.getD aR.toNat (0,0,0,0,0,0,0)).2.2.1.toNat 0)+(bo.getD aR.toNat (0,0,0,0,0,0,0)).2.2.2.1))))
         bif zC (bo.getD aR.toNat (0, 0, 0, 0, 0, 0, 0)).2.2.1 y3.length then (bif zC (bo.getD aR.toNat (0, 0, 0, 0, 0, 0, 0)).2.1 (y3.getD (bo.getD aR.toNat (0, 0, 0, 0, 0, 0, 0)).2.2.1.toNat []).length then (bif zC (bo.getD aR.toNat (0, 0, 0, 0, 0, 0, 0)).2.1 (y3.getD (bo.getD aR.toNat (0, 0, 0, 0, 0, 0, 0)).2.2.1.toNat []).length then (let y4:EQ:=(y3.set (bo.getD aR.toNat (0,0,0,0,0,0,0)).2.2.1.toNat ((y3.getD (bo.getD aR.toNat (0,0,0,0,0,0,0)).2.2.1.toNat []).set (bo.getD aR.toNat (0,0,0,0,0,0,0)).2.1.toNat (zA (((y3.getD (bo.getD aR.toNat (0,0,0,0,0,0,0)).2.2.1.toNat []).getD (bo.getD aR.toNat (0,0,0,0,0,0,0)).2.1.toNat 0)-(bo.getD aR.toNat (0,0,0,0,0,0,0)).2.2.2.1))))
            rec bo gV (zA (aR+1)) aa ae af ab y2 m4 r5 y4)
           else none)
          else none)
         else none)
        else none)
       else none)
      else none)
     else bif zC (bo.getD aR.toNat (0, 0, 0, 0, 0, 0, 0)).2.1 m6.length then (bif zC (bo.getD aR.toNat (0, 0, 0, 0, 0, 0, 0)).2.2.1 (m6.getD (bo.getD aR.toNat (0, 0, 0, 0, 0, 0, 0)).2.1.toNat []).length then (bif zC (bo.getD aR.toNat (0, 0, 0, 0, 0, 0, 0)).2.2.1 (m6.getD (bo.getD aR.toNat (0, 0, 0, 0, 0, 0, 0)).2.1.toNat []).length then (let y5:EQ:=(m6.set (bo.getD aR.toNat (0,0,0,0,0,0,0)).2.1.toNat ((m6.getD (bo.getD aR.toNat (0,0,0,0,0,0,0)).2.1.toNat []).set (bo.getD aR.toNat (0,0,0,0,0,0,0)).2.2.1.toNat (zA (((m6.getD (bo.getD aR.toNat (0,0,0,0,0,0,0)).2.1.toNat []).getD (bo.getD aR.toNat (0,0,0,0,0,0,0)).2.2.1.toNat 0)+(bo.getD aR.toNat (0,0,0,0,0,0,0)).2.2.2.1))))
        bif zC (bo.getD aR.toNat (0, 0, 0, 0, 0, 0, 0)).2.2.1 y5.length then (bif zC (bo.getD aR.toNat (0, 0, 0, 0, 0, 0, 0)).2.1 (y5.getD (bo.getD aR.toNat (0, 0, 0, 0, 0, 0, 0)).2.2.1.toNat []).length then (bif zC (bo.getD aR.toNat (0, 0, 0, 0, 0, 0, 0)).2.1 (y5.getD (bo.getD aR.toNat (0, 0, 0, 0, 0, 0, 0)).2.2.1.toNat []).length then (let y6:EQ:=(y5.set (bo.getD aR.toNat (0,0,0,0,0,0,0)).2.2.1.toNat ((y5.getD (bo.getD aR.toNat (0,0,0,0,0,0,0)).2.2.1.toNat []).set (bo.getD aR.toNat (0,0,0,0,0,0,0)).2.1.toNat (zA (((y5.getD (bo.getD aR.toNat (0,0,0,0,0,0,0)).2.2.1.toNat []).getD (bo.getD aR.toNat (0,0,0,0,0,0,0)).2.1.toNat 0)-(bo.getD aR.toNat (0,0,0,0,0,0,0)).2.2.2.1))))
           rec bo gV (zA (aR+1)) aa ae af ab y1 m4 r5 y6)
          else none)
         else none)
        else none)
       else none)
      else none)
     else none)
    else none)
   else none)
  else none)
 else some (aa,ae,af,ab,r3,m4,r5,m6)
def AV (k:Nat):Nat→Vd
 |0,_,_,_,_,_,_,_,_,_,_,_=>none
 |n+1,bo,gV,aR,aa,ae,af,ab,r3,m4,r5,m6=>AW k (AV k n) bo gV aR aa ae af ab r3 m4 r5 m6
def mY (k:Nat)(aL:List zH)(aZ:EQ)(aW:AC)(aT:EQ)(a1:List zB):Option ((List zH)×EQ×AC×EQ×Int):=
 bif decide ((a1.length:Int)>64) then some (aL,aZ,aW,aT,1)
 else(J6 k a1 aL aZ aW aT).bind fun x0=>
 bif x0 then some (aL,aZ,aW,aT,1)
 else(jW k aL aZ aW aT).bind fun x1=>
 (AV k k a1 (a1.length:Int) 0 aL aZ aW aT x1.1 x1.2.1 x1.2.2.1 x1.2.2.2).bind fun z=>
 (vz k z.2.2.2.2.1 z.2.2.2.2.2.1 z.2.2.2.2.2.2.1 z.2.2.2.2.2.2.2).bind fun x3=>
 bif !x3 then some (vG z 8)
 else some (yOr z 0)
abbrev Vi:Type:=((List zH)×EQ×AC×EQ×Int×Int×Int×Int×Int×Int×Int)⊕(Bool×Int×Int×Int×Int×Int×Int×Int×(List zH)×EQ×AC×EQ)
abbrev Vg:Type:=Int→Int→List zH→EQ→AC→EQ→Int→Int→Int→Int→Int→Int→Int→List zB→Option Vi
def BX (k:Nat)(rec:Vg)(ca bj:Int)(aa:List zH)(ae:EQ)(af:AC)(ab:EQ)(an ar au ax aD aE aF:Int)(r3:List zB):Option Vi:=
 bif decide (bj < ca) then (bif zC bj r3.length then ((wj k aa ae af ab [(r3.getD bj.toNat (0,0,0,0,0,0,0))]).bind fun x1=>
   bif !x1 then(rec ca (zA (bj+1)) aa ae af ab an ar au ax aD aE aF r3)
   else(mY k aa ae af ab [(r3.getD bj.toNat (0,0,0,0,0,0,0))]).bind fun x2=>
   bif decide (x2.2.2.2.2=0) then some (.inr (true,(gg (r3.getD bj.toNat (0,0,0,0,0,0,0)) (rj x2))))
   else rec ca (zA (bj+1)) aa ae af ab an ar au ax aD aE aF r3)
  else none)
 else some (.inl (aa,ae,af,ab,an,ar,au,ax,aD,aE,aF))
def Gy (k:Nat):Nat→Vg
 |0,_,_,_,_,_,_,_,_,_,_,_,_,_,_=>none
 |n+1,ca,bj,aa,ae,af,ab,an,ar,au,ax,aD,aE,aF,r3=>BX k (Gy k n) ca bj aa ae af ab an ar au ax aD aE aF r3
def KR (k:Nat)(aL:List zH)(aZ:EQ)(aW:AC)(aT:EQ)(a1:List zB)(a2:Int):Option (Int×Int×Int×Int×Int×Int×Int×(List zH)×EQ×AC×EQ×Bool):=
 (Gh k a1 a2).bind fun x0=>
 (Gy k k (x0.length:Int) 0 aL aZ aW aT 0 0 0 0 0 0 0 x0).bind fun z=>
 match z with
 |.inl z1=>some (0,0,0,0,0,0,0,(vG z1 false))
 |.inr z2=>some (vK7 z2 z2.1)
abbrev Vm:Type:=(List zB)×(List zH)×EQ×AC×EQ×(List zB)
abbrev Vk:Type:=Int→List zB→List zH→EQ→AC→EQ→List zB→Option Vm
def BZ (k:Nat)(rec:Vk)(s2:Int)(s7:List zB)(aa:List zH)(ae:EQ)(af:AC)(ab:EQ)(r1:List zB):Option Vm:=
 (KR k aa ae af ab s7 s2).bind fun x0=>
 bif !x0.2.2.2.2.2.2.2.2.2.2.2 then some (s7,aa,ae,af,ab,r1)
 else(nc k s7 x0.1).bind fun x1=>
 bif zR (r1.length + 1) 56 then (let y0:List zB:=(r1++[(wC x0)])
  rec s2 x1.1 x0.2.2.2.2.2.2.2.1 x0.2.2.2.2.2.2.2.2.1 x0.2.2.2.2.2.2.2.2.2.1 x0.2.2.2.2.2.2.2.2.2.2.1 y0)
 else none
def Gz (k:Nat):Nat→Vk
 |0,_,_,_,_,_,_,_=>none
 |n+1,s2,s7,aa,ae,af,ab,r1=>BZ k (Gz k n) s2 s7 aa ae af ab r1
def KS (k:Nat)(aL:List zH)(aZ:EQ)(aW:AC)(aT:EQ)(a1:List zB)(a2:Int):Option oR:=
 (Gz k k a2 a1 aL aZ aW aT []).bind fun z=>
 some (fO z (z.1,z.2.2.2.2.2))
abbrev Vp:Type:=(Int×Int×(List zH)×EQ×AC×EQ×Int×Int×Int×Int×Int×Int×Int×Int×Int×Int×Int×Int×Int×Int×(List zB))⊕yFp
abbrev Vn:Type:=Int→Int→Int→Int→List zH→EQ→AC→EQ→Int→Int→Int→Int→Int→Int→Int→Int→Int→Int→Int→Int→Int→Int→List zB→Int→Int→Int→Int→Int→Int→Int→Option Vp
def B3 (k:Nat)(rec:Vn)(di cz gV aR:Int)(aa:List zH)(ae:EQ)(af:AC)(ab:EQ)(an ar au ax aD aE aF cp cq bA aQ bX bY bZ:Int)(r2:List zB)(bW cK cQ fq ft fu fw:Int):Option Vp:=
 bif decide (aR < gV) then (bif zC aR r2.length then (bif !(decide ((r2.getD aR.toNat (0,0,0,0,0,0,0)).2.1=cQ)) then(rec di cz gV (zA (aR+1)) aa ae af ab an ar au ax aD aE aF cp cq bA aQ bX bY bZ r2 bW cK cQ fq ft fu fw)
   else bif !(decide ((r2.getD aR.toNat (0,0,0,0,0,0,0)).2.2.1=cK)) then(rec di cz gV (zA (aR+1)) aa ae af ab an ar au ax aD aE aF cp cq bA aQ bX bY bZ r2 bW cK cQ fq ft fu fw)
   else bif decide (cK≥(r2.getD aR.toNat (0,0,0,0,0,0,0)).2.1) then(rec di cz gV (zA (aR+1)) aa ae af ab an ar au ax aD aE aF cp cq bA aQ bX bY bZ r2 bW cK cQ fq ft fu fw)
   else(wj k aa ae af ab [(bW,cK,cQ,fq,ft,fu,fw),(r2.getD aR.toNat (0,0,0,0,0,0,0))]).bind fun x1=>
   bif !x1 then(rec di cz gV (zA (aR+1)) aa ae af ab an ar au ax aD aE aF cp cq bA aQ bX bY bZ r2 bW cK cQ fq ft fu fw)
   else(mY k aa ae af ab [(bW,cK,cQ,fq,ft,fu,fw),(r2.getD aR.toNat (0,0,0,0,0,0,0))]).bind fun x2=>
   bif decide (x2.2.2.2.2=0) then some (.inr (true,bW,cK,cQ,fq,ft,fu,fw,(gg (r2.getD aR.toNat (0,0,0,0,0,0,0)) (rj x2))))
   else rec di cz gV (zA (aR+1)) aa ae af ab an ar au ax aD aE aF cp cq bA aQ bX bY bZ r2 bW cK cQ fq ft fu fw)
  else none)
 else some (.inl (di,cz,aa,ae,af,ab,an,ar,au,ax,aD,aE,aF,cp,cq,bA,aQ,bX,bY,bZ,r2))
def GA (k:Nat):Nat→Vn
 |0,_,_,_,_,_,_,_,_,_,_,_,_,_,_,_,_,_,_,_,_,_,_,_,_,_,_,_,_,_,_=>none
 |n+1,di,cz,gV,aR,aa,ae,af,ab,an,ar,au,ax,aD,aE,aF,cp,cq,bA,aQ,bX,bY,bZ,r2,bW,cK,cQ,fq,ft,fu,fw=>B3 k (GA k n) di cz gV aR aa ae af ab an ar au ax aD aE aF cp cq bA aQ bX bY bZ r2 bW cK cQ fq ft fu fw
abbrev Vt:Type:=(Int×Int×Int×Int×Int×Int×Int×Int×Int×Int×Int×Int×Int×Int)⊕yFp
abbrev Vr:Type:=Int→Int→List zH→EQ→AC→EQ→Int→Int→Int→Int→Int→Int→Int→Int→Int→Int→Int→Int→Int→Int→List zB→Option Vt
def B4 (k:Nat)(rec:Vr)(di cz:Int)(aa:List zH)(ae:EQ)(af:AC)(ab:EQ)(an ar au ax aD aE aF cp cq bA aQ bX bY bZ:Int)(r2:List zB):Option Vt:=
 bif decide (cz < di) then (bif zC cz r2.length then ((GA k k di cz (r2.length:Int) 0 aa ae af ab an ar au ax aD aE aF cp cq bA aQ bX bY bZ r2 (r2.getD cz.toNat (0,0,0,0,0,0,0)).1 (r2.getD cz.toNat (0,0,0,0,0,0,0)).2.1 (r2.getD cz.toNat (0,0,0,0,0,0,0)).2.2.1 (r2.getD cz.toNat (0,0,0,0,0,0,0)).2.2.2.1 (r2.getD cz.toNat (0,0,0,0,0,0,0)).2.2.2.2.1 (r2.getD cz.toNat (0,0,0,0,0,0,0)).2.2.2.2.2.1 (r2.getD cz.toNat (0,0,0,0,0,0,0)).2.2.2.2.2.2).bind fun z=>
   match z with
   |.inl z1=>rec z1.1 (zA (z1.2.1+1)) z1.2.2.1 z1.2.2.2.1 z1.2.2.2.2.1 z1.2.2.2.2.2.1 z1.2.2.2.2.2.2.1 z1.2.2.2.2.2.2.2.1 z1.2.2.2.2.2.2.2.2.1 z1.2.2.2.2.2.2.2.2.2.1 z1.2.2.2.2.2.2.2.2.2.2.1 z1.2.2.2.2.2.2.2.2.2.2.2.1 z1.2.2.2.2.2.2.2.2.2.2.2.2.1 z1.2.2.2.2.2.2.2.2.2.2.2.2.2.1 z1.2.2.2.2.2.2.2.2.2.2.2.2.2.2.1 z1.2.2.2.2.2.2.2.2.2.2.2.2.2.2.2.1 z1.2.2.2.2.2.2.2.2.2.2.2.2.2.2.2.2.1 z1.2.2.2.2.2.2.2.2.2.2.2.2.2.2.2.2.2.1 z1.2.2.2.2.2.2.2.2.2.2.2.2.2.2.2.2.2.2.1 z1.2.2.2.2.2.2.2.2.2.2.2.2.2.2.2.2.2.2.2.1 z1.2.2.2.2.2.2.2.2.2.2.2.2.2.2.2.2.2.2.2.2
   |.inr z2=>some (.inr (z2.1,z2.2.1,z2.2.2.1,z2.2.2.2.1,z2.2.2.2.2.1,z2.2.2.2.2.2.1,z2.2.2.2.2.2.2.1,z2.2.2.2.2.2.2.2.1,z2.2.2.2.2.2.2.2.2.1,z2.2.2.2.2.2.2.2.2.2.1,z2.2.2.2.2.2.2.2.2.2.2.1,z2.2.2.2.2.2.2.2.2.2.2.2.1,z2.2.2.2.2.2.2.2.2.2.2.2.2.1,z2.2.2.2.2.2.2.2.2.2.2.2.2.2.1,z2.2.2.2.2.2.2.2.2.2.2.2.2.2.2.1,z2.2.2.2.2.2.2.2.2.2.2.2.2.2.2.2.1,z2.2.2.2.2.2.2.2.2.2.2.2.2.2.2.2.2.1,z2.2.2.2.2.2.2.2.2.2.2.2.2.2.2.2.2.2.1,z2.2.2.2.2.2.2.2.2.2.2.2.2.2.2.2.2.2.2)))
  else none)
 else some (.inl (an,ar,au,ax,aD,aE,aF,cp,cq,bA,aQ,bX,bY,bZ))
def GC (k:Nat):Nat→Vr
 |0,_,_,_,_,_,_,_,_,_,_,_,_,_,_,_,_,_,_,_,_,_=>none
 |n+1,di,cz,aa,ae,af,ab,an,ar,au,ax,aD,aE,aF,cp,cq,bA,aQ,bX,bY,bZ,r2=>B4 k (GC k n) di cz aa ae af ab an ar au ax aD aE aF cp cq bA aQ bX bY bZ r2
def KU (k:Nat)(aL:List zH)(aZ:EQ)(aW:AC)(aT:EQ)(a1:List zB)(a2:Int):Option (Int×Int×Int×Int×Int×Int×Int×Int×Int×Int×Int×Int×Int×Int×(List zH)×EQ×AC×EQ×Bool):=
 (Gh k a1 a2).bind fun x0=>
 (GC k k (x0.length:Int) 0 aL aZ aW aT 0 0 0 0 0 0 0 0 0 0 0 0 0 0 x0).bind fun z3=>
 match z3 with
 |.inl z4=>some (0,0,0,0,0,0,0,0,0,0,0,0,0,0,[],[],[],[],false)
 |.inr z5=>some (Vq z5 z5.1)
abbrev VA:Type:=Int×(List zB)×(List zH)×EQ×AC×EQ×(List zB)
abbrev Vy:Type:=Int→List zB→Int→Int→List zH→EQ→AC→EQ→List zB→List zB→Option VA
def tc (k:Nat)(rec:Vy)(s2:Int)(s7:List zB)(xT oT:Int)(aa:List zH)(ae:EQ)(af:AC)(ab:EQ)(r1 r2:List zB):Option VA:=
 bif decide (oT < xT) then (bif zC oT r2.length then ((nc k s7 (r2.getD oT.toNat (0,0,0,0,0,0,0)).1).bind fun x1=>
   bif zR (r1.length + 1) 56 then (let y0:List zB:=(r1++[(r2.getD oT.toNat (0,0,0,0,0,0,0))])
    rec s2 x1.1 xT (zA (oT+1)) aa ae af ab y0 r2)
   else none)
  else none)
 else some (s2,s7,aa,ae,af,ab,r1)
def ta (k:Nat):Nat→Vy
 |0,_,_,_,_,_,_,_,_,_,_=>none
 |n+1,s2,s7,xT,oT,aa,ae,af,ab,r1,r2=>tc k (ta k n) s2 s7 xT oT aa ae af ab r1 r2
def B5 (k:Nat)(rec:Vk)(s2:Int)(s7:List zB)(aa:List zH)(ae:EQ)(af:AC)(ab:EQ)(r1:List zB):Option Vm:=
 (KU k aa ae af ab s7 s2).bind fun x0=>
 bif !x0.2.2.2.2.2.2.2.2.2.2.2.2.2.2.2.2.2.2 then some (s7,aa,ae,af,ab,r1)
 else(ta k k s2 s7 2 0 x0.2.2.2.2.2.2.2.2.2.2.2.2.2.2.1 x0.2.2.2.2.2.2.2.2.2.2.2.2.2.2.2.1 x0.2.2.2.2.2.2.2.2.2.2.2.2.2.2.2.2.1 x0.2.2.2.2.2.2.2.2.2.2.2.2.2.2.2.2.2.1 r1 [(wC x0),(Ya x0)]).bind fun z=>
 rec z.1 z.2.1 z.2.2.1 z.2.2.2.1 z.2.2.2.2.1 z.2.2.2.2.2.1 z.2.2.2.2.2.2
def GD (k:Nat):Nat→Vk
 |0,_,_,_,_,_,_,_=>none
 |n+1,s2,s7,aa,ae,af,ab,r1=>B5 k (GD k n) s2 s7 aa ae af ab r1
def KV (k:Nat)(aL:List zH)(aZ:EQ)(aW:AC)(aT:EQ)(a1:List zB)(a2:Int):Option oR:=
 (GD k k a2 a1 aL aZ aW aT []).bind fun z1=>
 some (fO z1 (z1.1,z1.2.2.2.2.2))
def K2 (k:Nat)(rec:Vk)(s2:Int)(s7:List zB)(aa:List zH)(ae:EQ)(af:AC)(ab:EQ)(r1:List zB):Option Vm:=
 (KS k aa ae af ab s7 s2).bind fun x0=>
 (KV k x0.1 x0.2.1 x0.2.2.1 x0.2.2.2.1 x0.2.2.2.2.1 s2).bind fun x1=>
 bif zR (r1.length + x0.2.2.2.2.2.length) 56 then (bif zR ((r1 ++ x0.2.2.2.2.2).length + x1.2.2.2.2.2.length) 56 then (let y0:List zB:=((r1++x0.2.2.2.2.2)++x1.2.2.2.2.2)
   bif decide ((x1.2.2.2.2.2.length:Int)=0) then some (x1.2.2.2.2.1,(vG x1 y0))
   else rec s2 x1.2.2.2.2.1 x1.1 x1.2.1 x1.2.2.1 x1.2.2.2.1 y0)
  else none)
 else none
def GM (k:Nat):Nat→Vk
 |0,_,_,_,_,_,_,_=>none
 |n+1,s2,s7,aa,ae,af,ab,r1=>K2 k (GM k n) s2 s7 aa ae af ab r1
def GN (k:Nat)(aL:List zH)(aZ:EQ)(aW:AC)(aT:EQ)(a1:List zB)(a2:Int):Option oR:=
 (GM k k a2 a1 aL aZ aW aT []).bind fun z=>
 some (fO z (z.1,z.2.2.2.2.2))
def Q0 (k:Nat)(a0:AC):Option AC:=
 bif zR (0+a0.length) 8 then some a0
 else none
def Q2 (k:Nat)(bU aq bq aB az aI aN:Int)(a1:AC):Option (Bool×AC):=
 bif decide (aq<0) then some (false,a1)
 else bif decide (aq≥(a1.length:Int)) then some (false,a1)
 else bif zC aq a1.length then (bif decide ((a1.getD aq.toNat 0)<1) then some (false,a1)
  else bif zC aq a1.length then (bif zC aq a1.length then some (true,(a1.set aq.toNat (zA ((a1.getD aq.toNat 0)-1))))
   else none)
  else none)
 else none
abbrev VK:Type:=AC×(List zB)
abbrev VI:Type:=List zB→Int→Int→AC→List zB→Option VK
def B9 (k:Nat)(rec:VI)(s8:List zB)(s9 ao:Int)(r1:AC)(r2:List zB):Option VK:=
 bif decide (ao < s9) then (bif zC ao s8.length then ((Q2 k (s8.getD ao.toNat (0,0,0,0,0,0,0)).1 (s8.getD ao.toNat (0,0,0,0,0,0,0)).2.1 (s8.getD ao.toNat (0,0,0,0,0,0,0)).2.2.1 (s8.getD ao.toNat (0,0,0,0,0,0,0)).2.2.2.1 (s8.getD ao.toNat (0,0,0,0,0,0,0)).2.2.2.2.1 (s8.getD ao.toNat (0,0,0,0,0,0,0)).2.2.2.2.2.1 (s8.getD ao.toNat (0,0,0,0,0,0,0)).2.2.2.2.2.2 r1).bind fun x0=>
   bif x0.1 then (bif zR (r2.length + 1) 56 then (let y0:List zB:=(r2++[(s8.getD ao.toNat (0,0,0,0,0,0,0))])
     rec s8 s9 (zA (ao+1)) x0.2 y0)
    else none)
   else rec s8 s9 (zA (ao+1)) x0.2 r2)
  else none)
 else some (r1,r2)
def B8 (k:Nat):Nat→VI
 |0,_,_,_,_,_=>none
 |n+1,s8,s9,ao,r1,r2=>B9 k (B8 k n) s8 s9 ao r1 r2
def Q1 (k:Nat)(a0:List zB)(cH:AC):Option ((List zB)×AC):=
 (B8 k k a0 (a0.length:Int) 0 cH []).bind fun z=>
 some (z.2,z.1)
def B7 (k:Nat)(a0:List zB)(a1:AC):Option (List zB):=
 (Q0 k a1).bind fun x0=>
 (Q1 k a0 x0).bind fun x1=>
 some x1.1
abbrev VM:Type:=Int×(List zH)×EQ×AC×EQ×AC×(List zB)
abbrev VL:Type:=Int→Int→Int→List zH→EQ→AC→EQ→AC→List zB→Option VM
def Cb (k:Nat)(rec:VL)(s7 mu di:Int)(aa:List zH)(ae:EQ)(af:AC)(ab:EQ)(r1:AC)(r2:List zB):Option VM:=
 bif decide (di < mu) then ((GJ k r2 di).bind fun x1=>
  bif zR (r1.length+1) 8 then(rec s7 mu (zA (di+1)) aa ae af ab (r1++[(x1.length:Int)]) r2)
  else none)
 else some (s7,aa,ae,af,ab,r1,r2)
def w4 (k:Nat):Nat→VL
 |0,_,_,_,_,_,_,_,_,_=>none
 |n+1,s7,mu,di,aa,ae,af,ab,r1,r2=>Cb k (w4 k n) s7 mu di aa ae af ab r1 r2
abbrev VN:Type:=Int→Int→Int→List zH→EQ→AC→EQ→AC→List zB→AC→Option VM
def Cd (k:Nat)(rec:VN)(s7 M9 lF:Int)(aa:List zH)(ae:EQ)(af:AC)(ab:EQ)(r1:AC)(r2:List zB)(r3:AC):Option VM:=
 bif decide (lF < M9) then (bif zC lF r3.length then (bif zC (r3.getD lF.toNat 0) r1.length then (bif zC (r3.getD lF.toNat 0) r1.length then (let y0:AC:=(r1.set (r3.getD lF.toNat 0).toNat (zA ((r1.getD (r3.getD lF.toNat 0).toNat 0)-1)))
     rec s7 M9 (zA (lF+1)) aa ae af ab y0 r2 r3)
    else none)
   else none)
  else none)
 else some (s7,aa,ae,af,ab,r1,r2)
def Cc (k:Nat):Nat→VN
 |0,_,_,_,_,_,_,_,_,_,_=>none
 |n+1,s7,M9,lF,aa,ae,af,ab,r1,r2,r3=>Cd k (Cc k n) s7 M9 lF aa ae af ab r1 r2 r3
abbrev VQ:Type:=Int→List zH→EQ→AC→EQ→AC→List zB→Option (Int×AC)
def Ce (k:Nat)(rec:VQ)(s7:Int)(aa:List zH)(ae:EQ)(af:AC)(ab:EQ)(r1:AC)(r2:List zB):Option (Int×AC):=
 (B7 k r2 r1).bind fun x2=>
 (wi k aa ae af ab x2).bind fun x3=>
 bif decide ((x3.length:Int)=0) then some ((zA (s7+1)),r1)
 else(Cc k k (zA (s7+1)) (x3.length:Int) 0 aa ae af ab r1 r2 x3).bind fun z1=>
 rec z1.1 z1.2.1 z1.2.2.1 z1.2.2.2.1 z1.2.2.2.2.1 z1.2.2.2.2.2.1 z1.2.2.2.2.2.2
def GL (k:Nat):Nat→VQ
 |0,_,_,_,_,_,_,_=>none
 |n+1,s7,aa,ae,af,ab,r1,r2=>Ce k (GL k n) s7 aa ae af ab r1 r2
def KZ (k:Nat)(aL:List zH)(aZ:EQ)(aW:AC)(aT:EQ)(a1:List zB)(a2:Int):Option (AC×Int):=
 (Bn k a1 a2).bind fun x0=>
 (w4 k k 0 (aL.length:Int) 0 aL aZ aW aT [] x0).bind fun z=>
 (GL k k z.1 z.2.1 z.2.2.1 z.2.2.2.1 z.2.2.2.2.1 z.2.2.2.2.2.1 z.2.2.2.2.2.2).bind fun z2=>
 some (z2.2,z2.1)
abbrev VR:Type:=List zB→Int→Int→List zH→EQ→AC→EQ→List zB→Option Vm
def Cf (k:Nat)(rec:VR)(s7:List zB)(oU gk:Int)(aa:List zH)(ae:EQ)(af:AC)(ab:EQ)(r1:List zB):Option Vm:=
 bif decide (gk < oU) then (bif zC gk r1.length then ((nc k s7 (r1.getD gk.toNat (0,0,0,0,0,0,0)).1).bind fun x4=>
   rec x4.1 oU (zA (gk+1)) aa ae af ab r1)
  else none)
 else some (s7,aa,ae,af,ab,r1)
def w5 (k:Nat):Nat→VR
 |0,_,_,_,_,_,_,_,_=>none
 |n+1,s7,oU,gk,aa,ae,af,ab,r1=>Cf k (w5 k n) s7 oU gk aa ae af ab r1
def w6 (k:Nat)(aL:List zH)(aZ:EQ)(aW:AC)(aT:EQ)(a1:List zB)(a2:Int):Option oR:=
 (KZ k aL aZ aW aT a1 a2).bind fun x0=>
 (Bn k a1 a2).bind fun x1=>
 (B7 k x1 x0.1).bind fun x2=>
 (mY k aL aZ aW aT x2).bind fun x3=>
 bif !(decide (x3.2.2.2.2=0)) then some (aL,aZ,aW,aT,a1,[])
 else(w5 k k a1 (x2.length:Int) 0 x3.1 x3.2.1 x3.2.2.1 x3.2.2.2.1 x2).bind fun z=>
 some (fO z (z.1,z.2.2.2.2.2))
def th (k:Nat)(aL:List zH)(aZ:EQ)(aW:AC)(aT:EQ)(a1:List zB)(a2:Int)(a3:Bool):Option oR:=
 (GN k aL aZ aW aT a1 a2).bind fun x0=>
 bif !a3 then some (x0.1,x0.2.1,x0.2.2.1,x0.2.2.2.1,x0.2.2.2.2.1,x0.2.2.2.2.2)
 else(w6 k x0.1 x0.2.1 x0.2.2.1 x0.2.2.2.1 x0.2.2.2.2.1 a2).bind fun x1=>
 bif decide ((x1.2.2.2.2.2.length:Int)=0) then some (xL x1 x0.2.2.2.2.2)
 else(GN k x1.1 x1.2.1 x1.2.2.1 x1.2.2.2.1 x1.2.2.2.2.1 a2).bind fun x2=>
 bif zR (x0.2.2.2.2.2.length + x1.2.2.2.2.2.length) 56 then (bif zR ((x0.2.2.2.2.2 ++ x1.2.2.2.2.2).length + x2.2.2.2.2.2.length) 56 then (let y0:List zB:=((x0.2.2.2.2.2++x1.2.2.2.2.2)++x2.2.2.2.2.2)
   some (xL x2 y0))
  else none)
 else none
abbrev VX:Type:=(List zB)×Int×Int×(List qO)
abbrev VV:Type:=List zB→Int→Int→Int→Int→List qO→Int→Int→Int→Int→Int→Int→Int→AC→Option VX
def tm (k:Nat)(rec:VV)(s8:List zB)(s9 ao di cz:Int)(r0:List qO)(an ar au ax aD aE aF:Int)(r2:AC):Option VX:=
 bif decide (cz < di) then (bif zC cz r2.length then ((nk k (r2.getD cz.toNat 0) 18 [an,ar,au,ax]).bind fun x0=>
   bif zR (r0.length+1) 64 then(rec s8 s9 ao di (zA (cz+1)) (r0++[x0]) an ar au ax aD aE aF r2)
   else none)
  else none)
 else some (s8,s9,ao,r0)
def tl (k:Nat):Nat→VV
 |0,_,_,_,_,_,_,_,_,_,_,_,_,_,_=>none
 |n+1,s8,s9,ao,di,cz,r0,an,ar,au,ax,aD,aE,aF,r2=>tm k (tl k n) s8 s9 ao di cz r0 an ar au ax aD aE aF r2
abbrev V0:Type:=List qO
abbrev VY:Type:=List zB→Int→Int→List qO→Option V0
def Ck (k:Nat)(rec:VY)(s8:List zB)(s9 ao:Int)(r0:List qO):Option V0:=
 bif decide (ao < s9) then (bif zC ao s8.length then ((tl k k s8 s9 ao 2 0 r0 (s8.getD ao.toNat (0,0,0,0,0,0,0)).1 (s8.getD ao.toNat (0,0,0,0,0,0,0)).2.1 (s8.getD ao.toNat (0,0,0,0,0,0,0)).2.2.1 (s8.getD ao.toNat (0,0,0,0,0,0,0)).2.2.2.1 (s8.getD ao.toNat (0,0,0,0,0,0,0)).2.2.2.2.1 (s8.getD ao.toNat (0,0,0,0,0,0,0)).2.2.2.2.2.1 (s8.getD ao.toNat (0,0,0,0,0,0,0)).2.2.2.2.2.2 [(s8.getD ao.toNat (0,0,0,0,0,0,0)).2.1,(s8.getD ao.toNat (0,0,0,0,0,0,0)).2.2.1]).bind fun z=>
   rec z.1 z.2.1 (zA (z.2.2.1+1)) z.2.2.2)
  else none)
 else some r0
def GO (k:Nat):Nat→VY
 |0,_,_,_,_=>none
 |n+1,s8,s9,ao,r0=>Ck k (GO k n) s8 s9 ao r0
def K3 (k:Nat)(a0:List zB):Option (List qO):=
 (GO k k a0 (a0.length:Int) 0 []).bind fun z1=>
 some z1
def qf (k:Nat)(xQ:Int)(Ib:List zH)(Ic:EQ)(Ie:AC)(Ig:EQ)(Ih:AC)(Ii:EQ)(xR:List zB)(Ij:AC)(Ik:Int)(Il a1:Bool):Option M4:=
 (th k Ib Ic Ie Ig xR xQ a1).bind fun x0=>
 (K3 k x0.2.2.2.2.2).bind fun x1=>
 some (xQ,(vG x0 (Ih,Ii,x0.2.2.2.2.1,Ij,Ik,Il,x1)))
abbrev V5:Type:=Int×(List wD)×Int×Int×Int×Int×(List zH)×EQ×AC×EQ×AC×EQ×(List zB)×AC×Int×Bool×Int×Int×Bool×(List qO)×(List zB)
abbrev V3:Type:=List zB→Int→Int→Int→List wD→Int→Int→Int→Int→List zH→EQ→AC→EQ→AC→EQ→List zB→AC→Int→Bool→Int→Int→Bool→List qO→List zB→Option V5
def Cu (k:Nat)(rec:V3)(ee:List zB)(iX eg aa:Int)(ae:List wD)(af ab aV an:Int)(ar:List zH)(au:EQ)(ax:AC)(aD:EQ)(aE:AC)(aF:EQ)(cp:List zB)(cq:AC)(bA:Int)(aQ:Bool)(aY nu:Int)(iL:Bool)(r3:List qO)(r4:List zB):Option V5:=
 bif decide (eg < iX) then (bif zC eg ee.length then ((Q9 k (ee.getD eg.toNat (0,0,0,0,0,0,0)).1 (ee.getD eg.toNat (0,0,0,0,0,0,0)).2.1 (ee.getD eg.toNat (0,0,0,0,0,0,0)).2.2.1 (ee.getD eg.toNat (0,0,0,0,0,0,0)).2.2.2.1 (ee.getD eg.toNat (0,0,0,0,0,0,0)).2.2.2.2.1 (ee.getD eg.toNat (0,0,0,0,0,0,0)).2.2.2.2.2.1 (ee.getD eg.toNat (0,0,0,0,0,0,0)).2.2.2.2.2.2 an).bind fun x2=>
   bif x2 then ((nk k (ee.getD eg.toNat (0,0,0,0,0,0,0)).2.1 21 [(ee.getD eg.toNat (0,0,0,0,0,0,0)).1]).bind fun x3=>
    bif zR (r3.length+1) 64 then(rec ee iX (zA (eg+1)) aa ae af ab aV an ar au ax aD aE aF cp cq bA aQ aY nu iL (r3++[x3]) r4)
    else none)
   else bif zR (r4.length + 1) 56 then (let y0:List zB:=(r4++[(ee.getD eg.toNat (0,0,0,0,0,0,0))])
    rec ee iX (zA (eg+1)) aa ae af ab aV an ar au ax aD aE aF cp cq bA aQ aY nu iL r3 y0)
   else none)
  else none)
 else some (aa,ae,af,ab,aV,an,ar,au,ax,aD,aE,aF,cp,cq,bA,aQ,aY,nu,iL,r3,r4)
def Ct (k:Nat):Nat→V3
 |0,_,_,_,_,_,_,_,_,_,_,_,_,_,_,_,_,_,_,_,_,_,_,_,_=>none
 |n+1,ee,iX,eg,aa,ae,af,ab,aV,an,ar,au,ax,aD,aE,aF,cp,cq,bA,aQ,aY,nu,iL,r3,r4=>Cu k (Ct k n) ee iX eg aa ae af ab aV an ar au ax aD aE aF cp cq bA aQ aY nu iL r3 r4
def tp (k:Nat)(cO:Int)(dy:List wD)(dz cP bV gv:Int)(ct:List zH)(cX:EQ)(cY:AC)(cZ:EQ)(eI:AC)(gw:EQ)(eJ:List zB)(nv:AC)(gx:Int)(gy:Bool):Option M4:=
 bif gy then some (gv,ct,cX,cY,cZ,eI,gw,eJ,nv,gx,gy,[])
 else(w9 k cO dy dz cP bV (zA (gv+1))).bind fun x0=>
 bif x0 then ((K7 k (zA (gv+1)) ct cX cY cZ eI gw eJ nv gx gy).bind fun x1=>
  some (x1.1,x1.2.1,x1.2.2.1,x1.2.2.2.1,x1.2.2.2.2.1,x1.2.2.2.2.2.1,x1.2.2.2.2.2.2.1,x1.2.2.2.2.2.2.2.1,x1.2.2.2.2.2.2.2.2.1,x1.2.2.2.2.2.2.2.2.2.1,x1.2.2.2.2.2.2.2.2.2.2.1,x1.2.2.2.2.2.2.2.2.2.2.2))
 else(Ct k k eJ (eJ.length:Int) 0 cO dy dz cP bV (zA (gv+1)) ct cX cY cZ eI gw eJ nv gx gy 0 0 false [] []).bind fun z=>
 (Cv k z.1 z.2.1 z.2.2.1 z.2.2.2.1 z.2.2.2.2.1 z.2.2.2.2.2.1).bind fun x4=>
 (qf k z.2.2.2.2.2.1 z.2.2.2.2.2.2.1 z.2.2.2.2.2.2.2.1 z.2.2.2.2.2.2.2.2.1 z.2.2.2.2.2.2.2.2.2.1 z.2.2.2.2.2.2.2.2.2.2.1 z.2.2.2.2.2.2.2.2.2.2.2.1 z.2.2.2.2.2.2.2.2.2.2.2.2.2.2.2.2.2.2.2.2 z.2.2.2.2.2.2.2.2.2.2.2.2.2.1 z.2.2.2.2.2.2.2.2.2.2.2.2.2.2.1 z.2.2.2.2.2.2.2.2.2.2.2.2.2.2.2.1 x4).bind fun x5=>
 bif zR (z.2.2.2.2.2.2.2.2.2.2.2.2.2.2.2.2.2.2.2.1.length + x5.2.2.2.2.2.2.2.2.2.2.2.length) 64 then (let y1:List qO:=(z.2.2.2.2.2.2.2.2.2.2.2.2.2.2.2.2.2.2.2.1++x5.2.2.2.2.2.2.2.2.2.2.2)
  some (tZ x5 y1))
 else none
def qYp (k:Nat)(a0:iW)(a1:Im):Option (Int×wL):=
 (yW k a1.2.1 0 (zA (a0.1-1))).bind fun x0=>
 bif !x0 then some (1,(vD a0 []))
 else(yW k a1.2.2.2.1 1 3).bind fun x1=>
 bif !x1 then some (1,(vD a0 []))
 else(Cw k (qX a0) a0.2.2.2.2.2.1 (a1.1,a0.2.2.2.2.2.2.2.2.2.2.2.2.2.2.2.2,a1.2)).bind fun x2=>
 bif !(decide (x2=0)) then some (x2,(vD a0 []))
 else(BN k a0.2.2.2.2.2.2.2.2.2.2.2.2.2.1 a1.1).bind fun x3=>
 bif !(decide (x3.2=0)) then some (x3.2,(vD a0 []))
 else(sX k a0.2.2.2.2.2.2.2.2.2.2.2.2.1 (a1.1,a0.2.2.2.2.2.2.2.2.2.2.2.2.2.2.2.2,a1.2)).bind fun x4=>
 bif !(decide (x4.2=0)) then some (x4.2,(vD a0 []))
 else some (0,(gU a0 (x4.1,x3.1,a0.2.2.2.2.2.2.2.2.2.2.2.2.2.2.1,a0.2.2.2.2.2.2.2.2.2.2.2.2.2.2.2.1,a0.2.2.2.2.2.2.2.2.2.2.2.2.2.2.2.2,[])))
def MM (k:Nat)(a0:iW)(a1:zB):Option (Int×wL):=
 (Ur k (vD a0 []) a1.2.1).bind fun x0=>
 bif !(decide (x0.2=0)) then some (x0.2,(vD a0 []))
 else bif decide (a1.1 = 2) then ((nc k a0.2.2.2.2.2.2.2.2.2.2.2.2.1 a1.2.1).bind fun x1=>
  (LR k (gU a0 (x1.1,a0.2.2.2.2.2.2.2.2.2.2.2.2.2)) 20 [a1.2.1]).bind fun x2=>
  some (x1.2.2.2.2.2.2.2.2,x2))
 else bif decide (a1.1 = 4) then ((yW k a1.2.2.1 1 3).bind fun x3=>
  bif !x3 then some (1,(vD a0 []))
  else(xa k (qX a0) a0.2.2.2.2.2.1 a1.2.2.1).bind fun x4=>
  bif !(decide (x4=0)) then some (x4,(vD a0 []))
  else(BI k a0.2.2.2.2.2.2.2.2.2.2.2.2.1 a1.2.1 a1.2.2.1).bind fun x5=>
  some (x5.2,(gU a0 (x5.1,(X8 a0 [])))))
 else bif decide (a1.2.2.1 = 0) then ((BL k a0.2.2.2.2.2.2.2.2.2.2.2.2.1 a1.2.1).bind fun x6=>
  some (x6.2,(gU a0 (x6.1,(X8 a0 [])))))
 else bif decide (a1.2.2.1 = 1) then ((BJ k a0.2.2.2.2.2.2.2.2.2.2.2.2.1 a1.2.1).bind fun x7=>
  some (x7.2,(gU a0 (x7.1,(X8 a0 [])))))
 else some (1,(vD a0 []))
def MN (k:Nat)(a0:iW)(a1:zB):Option (Int×wL):=
 (jW k a0.2.2.2.2.2.2.1 a0.2.2.2.2.2.2.2.1 a0.2.2.2.2.2.2.2.2.1 a0.2.2.2.2.2.2.2.2.2.1).bind fun x0=>
 bif decide (a1.1 = 5) then ((Ux k (vD a0 []) a1.2.1).bind fun x1=>
  bif !x1 then some (1,(vD a0 []))
  else(yW k a1.2.2.1 (-1) 1152921504606846976).bind fun x2=>
  bif !x2 then some (1,(vD a0 []))
  else bif zC a0.2.2.2.2.2.2.2.2.2.2.2.2.2.2.2.2 x0.2.1.length then (bif zC a1.2.1 (x0.2.1.getD a0.2.2.2.2.2.2.2.2.2.2.2.2.2.2.2.2.toNat []).length then (let y0:EQ:=(x0.2.1.set a0.2.2.2.2.2.2.2.2.2.2.2.2.2.2.2.2.toNat ((x0.2.1.getD a0.2.2.2.2.2.2.2.2.2.2.2.2.2.2.2.2.toNat []).set a1.2.1.toNat a1.2.2.1))
    some (0,(wJ a0 (x0.1,y0,x0.2.2.1,x0.2.2.2,(X9 a0 [])))))
   else none)
  else none)
 else bif decide (a1.1 = 6) then ((yW k a1.2.1 (-1) 1152921504606846976).bind fun x3=>
  bif !x3 then some (1,(vD a0 []))
  else bif zC a0.2.2.2.2.2.2.2.2.2.2.2.2.2.2.2.2 x0.2.2.1.length then (let y1:AC:=(x0.2.2.1.set a0.2.2.2.2.2.2.2.2.2.2.2.2.2.2.2.2.toNat a1.2.1)
   some (0,(wJ a0 (x0.1,x0.2.1,y1,x0.2.2.2,(X9 a0 [])))))
  else none)
 else(yW k a1.2.1 0 1152921504606846976).bind fun x4=>
 bif !x4 then some (1,(vD a0 []))
 else bif zC a0.2.2.2.2.2.2.2.2.2.2.2.2.2.2.2.2 x0.1.length then (let y2:List zH:=(x0.1.set a0.2.2.2.2.2.2.2.2.2.2.2.2.2.2.2.2.toNat ((x0.1.getD a0.2.2.2.2.2.2.2.2.2.2.2.2.2.2.2.2.toNat (0,0,0)).1,(x0.1.getD a0.2.2.2.2.2.2.2.2.2.2.2.2.2.2.2.2.toNat (0,0,0)).2.1,a1.2.1))
  some (0,(wJ a0 (y2,x0.2.1,x0.2.2.1,x0.2.2.2,(X9 a0 [])))))
 else none
def yM3 (k:Nat)(a0:iW)(a1 a2:Int):Option (Int×wL):=
 (H0 k (vD a0 []) a1).bind fun x0=>
 bif !x0 then some (1,(vD a0 []))
 else(yW k a2 0 1099511627776).bind fun x1=>
 bif !x1 then some (1,(vD a0 []))
 else(Cy k a0.2.2.2.2.2.2.2.2.2.2.2.1).bind fun x2=>
 bif zC a0.2.2.2.2.2.2.2.2.2.2.2.2.2.2.2.2 x2.length then ((ni k (x2.getD a0.2.2.2.2.2.2.2.2.2.2.2.2.2.2.2.2.toNat []) a1 a2).bind fun x3=>
  bif zC a0.2.2.2.2.2.2.2.2.2.2.2.2.2.2.2.2 x2.length then (let y0:EQ:=(x2.set a0.2.2.2.2.2.2.2.2.2.2.2.2.2.2.2.2.toNat x3)
   bif zC a0.2.2.2.2.2.2.2.2.2.2.2.2.2.2.2.2 y0.length then ((oD k a0.2.1 a0.2.2.2.2.2.2.2.2.2.2.1 (y0.getD a0.2.2.2.2.2.2.2.2.2.2.2.2.2.2.2.2.toNat [])).bind fun x4=>
    bif zC a0.2.2.2.2.2.2.2.2.2.2.2.2.2.2.2.2 a0.2.2.2.2.2.2.1.length then (bif !x4.2 then some (8,(vD a0 []))
     else bif decide (x4.1>1152921504606846976) then some (8,(vD a0 []))
     else bif decide (x4.1 < (a0.2.2.2.2.2.2.1.getD a0.2.2.2.2.2.2.2.2.2.2.2.2.2.2.2.2.toNat (0, 0, 0)).2.1) then (bif decide ((zA ((a0.2.2.2.2.2.2.1.getD a0.2.2.2.2.2.2.2.2.2.2.2.2.2.2.2.2.toNat (0,0,0)).1+x4.1))<0) then some (9,(vD a0 []))
      else(jW k a0.2.2.2.2.2.2.1 a0.2.2.2.2.2.2.2.1 a0.2.2.2.2.2.2.2.2.1 a0.2.2.2.2.2.2.2.2.2.1).bind fun x5=>
      bif zC a0.2.2.2.2.2.2.2.2.2.2.2.2.2.2.2.2 x5.1.length then (let y1:List zH:=(x5.1.set a0.2.2.2.2.2.2.2.2.2.2.2.2.2.2.2.2.toNat ((x5.1.getD a0.2.2.2.2.2.2.2.2.2.2.2.2.2.2.2.2.toNat (0,0,0)).1,x4.1,(x5.1.getD a0.2.2.2.2.2.2.2.2.2.2.2.2.2.2.2.2.toNat (0,0,0)).2.2))
       some (0,(wJ a0 (y1,x5.2.1,x5.2.2.1,x5.2.2.2,a0.2.2.2.2.2.2.2.2.2.2.1,y0,(ySh a0 [])))))
      else none)
     else(jW k a0.2.2.2.2.2.2.1 a0.2.2.2.2.2.2.2.1 a0.2.2.2.2.2.2.2.2.1 a0.2.2.2.2.2.2.2.2.2.1).bind fun x6=>
     bif zC a0.2.2.2.2.2.2.2.2.2.2.2.2.2.2.2.2 x6.1.length then (let y2:List zH:=(x6.1.set a0.2.2.2.2.2.2.2.2.2.2.2.2.2.2.2.2.toNat ((x6.1.getD a0.2.2.2.2.2.2.2.2.2.2.2.2.2.2.2.2.toNat (0,0,0)).1,x4.1,(x6.1.getD a0.2.2.2.2.2.2.2.2.2.2.2.2.2.2.2.2.toNat (0,0,0)).2.2))
      some (0,(wJ a0 (y2,x6.2.1,x6.2.2.1,x6.2.2.2,a0.2.2.2.2.2.2.2.2.2.2.1,y0,(ySh a0 [])))))
     else none)
    else none)
   else none)
  else none)
 else none
def CK (k:Nat)(a0:iW)(a1 a2 a3:Int):Option (Int×wL):=
 (yW k a2 0 (zA (a0.1-1))).bind fun x0=>
 bif !x0 then some (1,(vD a0 []))
 else(yW k a3 1 1099511627776).bind fun x1=>
 bif !x1 then some (1,(vD a0 []))
 else bif zC a2 a0.2.2.2.2.2.2.1.length then ((CL k (a0.2.2.2.2.2.2.1.getD a2.toNat (0,0,0)) a3).bind fun x2=>
  bif decide (a1 = 11) then ((CM k (a0.2.2.2.2.2.2.1.getD a2.toNat (0,0,0)) a3 3).bind fun x3=>
   (CN k (a0.2.2.2.2.2.2.1.getD a2.toNat (0,0,0)) 3).bind fun x4=>
   bif decide (x4<a3) then some (9,(vD a0 []))
   else bif decide ((zA (a0.2.2.2.2.2.2.2.2.2.2.2.2.2.2.1-a3))<0) then some (9,(vD a0 []))
   else bif !(decide (x3.2=0)) then some (x3.2,(vD a0 []))
   else bif decide ((zA (a0.2.2.2.2.2.2.2.2.2.2.2.2.2.2.1-a3))>1152921504606846976) then some (8,(vD a0 []))
   else(jW k a0.2.2.2.2.2.2.1 a0.2.2.2.2.2.2.2.1 a0.2.2.2.2.2.2.2.2.1 a0.2.2.2.2.2.2.2.2.2.1).bind fun x5=>
   bif zC a2 x5.1.length then some (0,(wJ a0 ((x5.1.set a2.toNat x3.1),x5.2.1,x5.2.2.1,x5.2.2.2,(D3 a0 ((zA (a0.2.2.2.2.2.2.2.2.2.2.2.2.2.2.1-a3)),a0.2.2.2.2.2.2.2.2.2.2.2.2.2.2.2.1,a0.2.2.2.2.2.2.2.2.2.2.2.2.2.2.2.2,[])))))
   else none)
  else bif !(decide (x2.2=0)) then some (x2.2,(vD a0 []))
  else bif decide ((zA (a0.2.2.2.2.2.2.2.2.2.2.2.2.2.2.1+a3))>1152921504606846976) then some (8,(vD a0 []))
  else(jW k a0.2.2.2.2.2.2.1 a0.2.2.2.2.2.2.2.1 a0.2.2.2.2.2.2.2.2.1 a0.2.2.2.2.2.2.2.2.2.1).bind fun x6=>
  bif zC a2 x6.1.length then some (0,(wJ a0 ((x6.1.set a2.toNat x2.1),x6.2.1,x6.2.2.1,x6.2.2.2,(D3 a0 ((zA (a0.2.2.2.2.2.2.2.2.2.2.2.2.2.2.1+a3)),a0.2.2.2.2.2.2.2.2.2.2.2.2.2.2.2.1,a0.2.2.2.2.2.2.2.2.2.2.2.2.2.2.2.2,[])))))
  else none)
 else none
abbrev Wa:Type:=(iW×AC×(List zH)×EQ×AC×EQ)⊕(Int×iW)
abbrev V7:Type:=EQ→Int→Int→iW→AC→List zH→EQ→AC→EQ→Option Wa
def CP (k:Nat)(rec:V7)(gk:EQ)(mv iK:Int)(b0:iW)(r1:AC)(r3:List zH)(m4:EQ)(r5:AC)(m6:EQ):Option Wa:=
 bif decide (iK < mv) then (bif zC iK gk.length then ((oD k b0.2.1 r1 (gk.getD iK.toNat [])).bind fun x4=>
   bif !x4.2 then some (.inr (8,b0))
   else bif decide (x4.1>1152921504606846976) then some (.inr (8,b0))
   else bif zC iK r3.length then (let y0:List zH:=(r3.set iK.toNat ((r3.getD iK.toNat (0,0,0)).1,x4.1,(r3.getD iK.toNat (0,0,0)).2.2))
    rec gk mv (zA (iK+1)) b0 r1 y0 m4 r5 m6)
   else none)
  else none)
 else some (.inl (b0,r1,r3,m4,r5,m6))
def qp (k:Nat):Nat→V7:=vH (fun _ _ _ _ _ _ _ _ _=>none) (CP k)
def Ls (k:Nat)(a0:iW)(a1 a2:Int):Option (Int×wL):=
 (H0 k (vD a0 []) a1).bind fun x0=>
 bif !x0 then some (1,(vD a0 []))
 else(yW k a2 0 1048576).bind fun x1=>
 bif !x1 then some (1,(vD a0 []))
 else(ni k a0.2.2.2.2.2.2.2.2.2.2.1 a1 a2).bind fun x2=>
 (jW k a0.2.2.2.2.2.2.1 a0.2.2.2.2.2.2.2.1 a0.2.2.2.2.2.2.2.2.1 a0.2.2.2.2.2.2.2.2.2.1).bind fun x3=>
 (qp k k a0.2.2.2.2.2.2.2.2.2.2.2.1 (a0.2.2.2.2.2.2.2.2.2.2.2.1.length:Int) 0 a0 x2 x3.1 x3.2.1 x3.2.2.1 x3.2.2.2).bind fun z=>
 match z with
 |.inl z1=>some (0,(wJ z1.1 (xi z1 (z1.2.1,(Ru z1.1 [])))))
 |.inr z2=>some (jS z2 [])
def Dp (k:Nat)(a0:iW)(a1:zB):Option (Int×wL):=
 bif decide (a1.1 = 1) then ((qYp k a0 a1.2).bind fun x0=>
  some (x0.1,x0.2))
 else bif decide (a1.1 = 2) then ((MM k a0 a1).bind fun x1=>
  some (x1.1,x1.2))
 else bif decide (a1.1 = 3) then ((MM k a0 a1).bind fun x2=>
  some (x2.1,x2.2))
 else bif decide (a1.1 = 4) then ((MM k a0 a1).bind fun x3=>
  some (x3.1,x3.2))
 else bif decide (a1.1 = 5) then ((MN k a0 a1).bind fun x4=>
  some (x4.1,x4.2))
 else bif decide (a1.1 = 6) then ((MN k a0 a1).bind fun x5=>
  some (x5.1,x5.2))
 else bif decide (a1.1 = 7) then ((MN k a0 a1).bind fun x6=>
  some (x6.1,x6.2))
 else bif decide (a1.1 = 8) then ((yM3 k a0 a1.2.1 a1.2.2.1).bind fun x7=>
  some (x7.1,x7.2))
 else bif decide (a1.1 = 10) then ((CK k a0 a1.1 a1.2.1 a1.2.2.1).bind fun x8=>
  some (x8.1,x8.2))
 else bif decide (a1.1 = 11) then ((CK k a0 a1.1 a1.2.1 a1.2.2.1).bind fun x9=>
  some (x9.1,x9.2))
 else bif decide (a1.1 = 12) then ((Ls k a0 a1.2.1 a1.2.2.1).bind fun gf=>
  some (gf.1,gf.2))
 else some (0,(vD a0 []))
def Hv (k:Nat)(a0:yJ)(a1:yM)(a2:qO):Option (yM×(List qO)×Int):=
 (tK k a0 a1 a2).bind fun x0=>
 bif !(decide (x0=0)) then some (a1,[],x0)
 else bif decide (a2.2.1 = 9) then ((LQ k a1 a2.1).bind fun x1=>
  some (a1,x1,0))
 else bif !(decide (a2.1 = (-1))) then ((LR k (eW a0 (jP a1 a2.1)) 15 []).bind fun x2=>
  (LN k x2 a2.2).bind fun x3=>
  bif !(decide (x3.1=0)) then some (a1,[],x3.1)
  else bif decide (a2.2.1 = 14) then ((tp k a0.1 a0.2.1 a0.2.2.1 a0.2.2.2.1 a0.2.2.2.2 a1.1 a1.2.1 a1.2.2.1 a1.2.2.2.1 a1.2.2.2.2.1 a1.2.2.2.2.2.1 a1.2.2.2.2.2.2.1 a1.2.2.2.2.2.2.2.1 a1.2.2.2.2.2.2.2.2.1 a1.2.2.2.2.2.2.2.2.2.1 a1.2.2.2.2.2.2.2.2.2.2).bind fun x4=>
   some ((qR x4),x4.2.2.2.2.2.2.2.2.2.2.2,0))
  else(qf k x3.2.2.2.2.2.2.1 x3.2.2.2.2.2.2.2.1 x3.2.2.2.2.2.2.2.2.1 x3.2.2.2.2.2.2.2.2.2.1 x3.2.2.2.2.2.2.2.2.2.2.1 x3.2.2.2.2.2.2.2.2.2.2.2.1 x3.2.2.2.2.2.2.2.2.2.2.2.2.1 x3.2.2.2.2.2.2.2.2.2.2.2.2.2.1 x3.2.2.2.2.2.2.2.2.2.2.2.2.2.2.1 x3.2.2.2.2.2.2.2.2.2.2.2.2.2.2.2.1 x3.2.2.2.2.2.2.2.2.2.2.2.2.2.2.2.2.1 (decide (a2.2.1=13))).bind fun x5=>
  bif zR (x3.2.2.2.2.2.2.2.2.2.2.2.2.2.2.2.2.2.2.length + x5.2.2.2.2.2.2.2.2.2.2.2.length) 64 then (let y0:List qO:=(x3.2.2.2.2.2.2.2.2.2.2.2.2.2.2.2.2.2.2++x5.2.2.2.2.2.2.2.2.2.2.2)
   bif decide (a2.2.1 = 1) then ((mc k x5.2.2.2.2.2.2.2.1 a2.2.2.1).bind fun x6=>
    bif decide (x6 ≥ 0) then ((tt k (LP x3 y0) 19 [a2.2.2.1]).bind fun x7=>
     some ((qR x5),x7.2.2.2.2.2.2.2.2.2.2.2.2.2.2.2.2.2,0))
    else some ((qR x5),y0,0))
   else some ((qR x5),y0,0))
  else none)
 else(Dp k (eW a0 (jP a1 a2.1)) a2.2).bind fun x8=>
 bif !(decide (x8.1=0)) then some (a1,[],x8.1)
 else bif decide (a2.2.1 = 14) then ((tp k a0.1 a0.2.1 a0.2.2.1 a0.2.2.2.1 a0.2.2.2.2 a1.1 a1.2.1 a1.2.2.1 a1.2.2.2.1 a1.2.2.2.2.1 a1.2.2.2.2.2.1 a1.2.2.2.2.2.2.1 a1.2.2.2.2.2.2.2.1 a1.2.2.2.2.2.2.2.2.1 a1.2.2.2.2.2.2.2.2.2.1 a1.2.2.2.2.2.2.2.2.2.2).bind fun x9=>
  some ((qR x9),x9.2.2.2.2.2.2.2.2.2.2.2,0))
 else(qf k x8.2.2.2.2.2.2.1 x8.2.2.2.2.2.2.2.1 x8.2.2.2.2.2.2.2.2.1 x8.2.2.2.2.2.2.2.2.2.1 x8.2.2.2.2.2.2.2.2.2.2.1 x8.2.2.2.2.2.2.2.2.2.2.2.1 x8.2.2.2.2.2.2.2.2.2.2.2.2.1 x8.2.2.2.2.2.2.2.2.2.2.2.2.2.1 x8.2.2.2.2.2.2.2.2.2.2.2.2.2.2.1 x8.2.2.2.2.2.2.2.2.2.2.2.2.2.2.2.1 x8.2.2.2.2.2.2.2.2.2.2.2.2.2.2.2.2.1 (decide (a2.2.1=13))).bind fun gf=>
 bif zR (x8.2.2.2.2.2.2.2.2.2.2.2.2.2.2.2.2.2.2.length + gf.2.2.2.2.2.2.2.2.2.2.2.length) 64 then (let y1:List qO:=(x8.2.2.2.2.2.2.2.2.2.2.2.2.2.2.2.2.2.2++gf.2.2.2.2.2.2.2.2.2.2.2)
  bif decide (a2.2.1 = 1) then ((mc k gf.2.2.2.2.2.2.2.1 a2.2.2.1).bind fun Ht=>
   bif decide (Ht ≥ 0) then ((tt k (LP x8 y1) 19 [a2.2.2.1]).bind fun X6=>
    some ((qR gf),X6.2.2.2.2.2.2.2.2.2.2.2.2.2.2.2.2.2,0))
   else some ((qR gf),y1,0))
  else some ((qR gf),y1,0))
 else none
def Wb (k:Nat)(a0:yJ)(a1:yM)(a2:qO):Option (yM×(List qO)×Int):=
 (Hv k a0 a1 a2).bind fun x0=>
 bif !(decide (x0.2.2=0)) then some (a1,[],x0.2.2)
 else some (x0.1,x0.2.1,x0.2.2)
def R4 (k:Nat):Option Bool:=
 (yEt k 0).bind fun x0=>
 (yAv k x0).bind fun x1=>
 (Ua k (-1) 10 [0,5]).bind fun x2=>
 (Wb k x0 x1 x2).bind fun x3=>
 (Ua k 0 1 [1,1,3,3,0,9]).bind fun x4=>
 (Wb k x0 x3.1 x4).bind fun x5=>
 bif decide (x5.2.2 = 0) then (bif decide ((x5.2.1.length : Int) = 3) then (bif zC 0 x5.2.1.length then (bif decide ((x5.2.1.getD 0 (0, 0, 0, 0, 0, 0, 0, 0)).2.1 = 15) then (bif zC 1 x5.2.1.length then ((wY k 18 [1,0,1,3]).bind fun x6=>
      bif (decide ((x5.2.1.getD 1 (0, 0, 0, 0, 0, 0, 0, 0)).2.1 = x6.1)) && ((decide ((x5.2.1.getD 1 (0, 0, 0, 0, 0, 0, 0, 0)).2.2.1 = x6.2.1)) && ((decide ((x5.2.1.getD 1 (0, 0, 0, 0, 0, 0, 0, 0)).2.2.2.1 = x6.2.2.1)) && ((decide ((x5.2.1.getD 1 (0, 0, 0, 0, 0, 0, 0, 0)).2.2.2.2.1 = x6.2.2.2.1)) && ((decide ((x5.2.1.getD 1 (0, 0, 0, 0, 0, 0, 0, 0)).2.2.2.2.2.1 = x6.2.2.2.2.1)) && ((decide ((x5.2.1.getD 1 (0, 0, 0, 0, 0, 0, 0, 0)).2.2.2.2.2.2.1 = x6.2.2.2.2.2.1)) && (decide ((x5.2.1.getD 1 (0, 0, 0, 0, 0, 0, 0, 0)).2.2.2.2.2.2.2 = x6.2.2.2.2.2.2))))))) then (bif decide (x5.1.2.2.2.2.2.2.2.2.2.1 = 5) then (bif decide ((x5.1.2.1.length : Int) = 3) then (bif zC 0 x5.1.2.1.length then some (decide ((x5.1.2.1.getD 0 (0,0,0)).1=2))
         else none)
        else some false)
       else some false)
      else some false)
     else none)
    else some false)
   else none)
  else some false)
 else some false
def LL (k:Nat)(a0:Int):Option Bool:=
 bif decide (a0≥1) then some (decide (a0≤14))
 else some false
def RV (k:Nat)(a0:Int):Option Int:=
 bif decide (a0<0) then some (-1)
 else bif decide (a0≥24) then some (-1)
 else bif zC a0 24 then some (List.getD [(-1),6,1,2,2,2,1,1,2,0,2,2,2,0,0,0,1,5,4,1,1,1,1,1] a0.toNat 0)
 else none
abbrev Wc:Type:=Int→Int→zB→Option (Int⊕Bool)
def RU (k:Nat)(rec:Wc)(s3 s4:Int)(b0:zB):Option (Int⊕Bool):=
 bif decide (s4 < 6) then (bif decide (s4 = 0) then (bif !(decide (b0.2.1=0)) then some (.inr false)
   else rec s3 (zA (s4+1)) b0)
  else bif decide (s4 = 1) then (bif !(decide (b0.2.2.1=0)) then some (.inr false)
   else rec s3 (zA (s4+1)) b0)
  else bif decide (s4 = 2) then (bif !(decide (b0.2.2.2.1=0)) then some (.inr false)
   else rec s3 (zA (s4+1)) b0)
  else bif decide (s4 = 3) then (bif !(decide (b0.2.2.2.2.1=0)) then some (.inr false)
   else rec s3 (zA (s4+1)) b0)
  else bif decide (s4 = 4) then (bif !(decide (b0.2.2.2.2.2.1=0)) then some (.inr false)
   else rec s3 (zA (s4+1)) b0)
  else bif decide (s4 = 5) then (bif !(decide (b0.2.2.2.2.2.2=0)) then some (.inr false)
   else rec s3 (zA (s4+1)) b0)
  else none)
 else some (.inl s3)
def Dl (k:Nat):Nat→Wc:=vH (fun _ _ _=>none) (RU k)
def Dm (k:Nat)(a0:zB):Option Bool:=
 (RV k a0.1).bind fun x0=>
 (Dl k k x0 (vh false x0 0) a0).bind fun z=>
 match z with
 |.inl z1=>some (decide (z1≥0))
 |.inr z2=>some z2
def LM (k:Nat)(a0:Int):Option Bool:=
 bif decide (a0≥10) then some (decide (a0≤14))
 else some false
def xq (k:Nat)(a0:yJ)(a1:qO):Option Bool:=
 (LL k a1.2.1).bind fun x0=>
 bif !x0 then some false
 else(Dm k a1.2).bind fun x1=>
 bif !x1 then some false
 else(LM k a1.2.1).bind fun x2=>
 bif x2 then some (decide (a1.1=(-1)))
 else bif decide (a1.1≥0) then some (decide (a1.1<a0.1))
 else some false
abbrev We:Type:=List zB→Int→Int→List zB→Option Uf
def Br (k:Nat)(rec:We)(s0:List zB)(s1 s6:Int)(r0:List zB):Option Uf:=
 bif decide (s6 < (s0.length : Int)) then (bif zC s6 s0.length then (bif decide ((s0.getD s6.toNat (0, 0, 0, 0, 0, 0, 0)).2.1 = s1) then (bif zC s6 s0.length then (bif zR (r0.length + 1) 56 then (let y0:List zB:=(r0++[(s0.getD s6.toNat (0,0,0,0,0,0,0))])
      rec s0 s1 (zA (s6+1)) y0)
     else none)
    else none)
   else rec s0 s1 (zA (s6+1)) r0)
  else none)
 else some r0
def Gd (k:Nat):Nat→We
 |0,_,_,_,_=>none
 |n+1,s0,s1,s6,r0=>Br k (Gd k n) s0 s1 s6 r0
def pY (k:Nat)(a0:List zB)(a1:Int):Option (List zB):=
 (Gd k k a0 a1 0 []).bind fun z=>
 some z
def LI (k:Nat)(a0:yJ)(a1:Int):Option Bool:=
 some (decide (a1=a0.2.2.2.1))
def RM (k:Nat)(bU aq bq aB az aI aN a1:Int):Option Bool:=
 some (decide (a1>aN))
def ly (k:Nat)(a0:List zB)(a1:Int):Option X7:=
 (j0 k a0 a1).bind fun x0=>
 bif decide (x0<0) then some (a0,0,0,0,0,0,0,0,4)
 else bif (decide (0 ≤ x0)) && (decide (x0 ≤ (a0.length : Int))) then (bif zR (0 + (List.take x0.toNat a0).length) 56 then (bif (decide (0 ≤ (zA (x0 + 1)))) && (decide ((zA (x0 + 1)) ≤ (a0.length : Int))) then (bif zR ((List.take x0.toNat a0).length + (List.drop (zA (x0 + 1)).toNat a0).length) 56 then (bif zC x0 a0.length then some (((List.take x0.toNat a0)++(List.drop (zA (x0+1)).toNat a0)),(gg (a0.getD x0.toNat (0,0,0,0,0,0,0)) 0))
     else none)
    else none)
   else none)
  else none)
 else none
def Hr (k:Nat)(a0:yJ)(a1:Int):Option Bool:=
 bif decide (a1 > 0) then (bif decide (a1 < a0.2.2.2.1) then (bif !(decide (a0.2.2.2.2=0)) then some (decide ((Int.tmod a1 a0.2.2.2.2)=0))
   else none)
  else some false)
 else some false
def Qy (k:Nat)(bU aq bq aB az aI aN a1:Int):Option Bool:=
 bif decide (a1≥aI) then some (decide (a1≤aN))
 else some false
def Bq (k:Nat)(rec:We)(s0:List zB)(s1 s6:Int)(r0:List zB):Option Uf:=
 bif decide (s6 < (s0.length : Int)) then (bif zC s6 s0.length then ((Qy k (s0.getD s6.toNat (0,0,0,0,0,0,0)).1 (s0.getD s6.toNat (0,0,0,0,0,0,0)).2.1 (s0.getD s6.toNat (0,0,0,0,0,0,0)).2.2.1 (s0.getD s6.toNat (0,0,0,0,0,0,0)).2.2.2.1 (s0.getD s6.toNat (0,0,0,0,0,0,0)).2.2.2.2.1 (s0.getD s6.toNat (0,0,0,0,0,0,0)).2.2.2.2.2.1 (s0.getD s6.toNat (0,0,0,0,0,0,0)).2.2.2.2.2.2 s1).bind fun x0=>
   bif x0 then (bif zC s6 s0.length then (bif zR (r0.length + 1) 56 then (let y0:List zB:=(r0++[(s0.getD s6.toNat (0,0,0,0,0,0,0))])
      rec s0 s1 (zA (s6+1)) y0)
     else none)
    else none)
   else rec s0 s1 (zA (s6+1)) r0)
  else none)
 else some r0
def Gc (k:Nat):Nat→We
 |0,_,_,_,_=>none
 |n+1,s0,s1,s6,r0=>Bq k (Gc k n) s0 s1 s6 r0
def Bp (k:Nat)(a0:List zB)(a1:Int):Option (List zB):=
 (Gc k k a0 a1 0 []).bind fun z=>
 some z
abbrev Wp:Type:=Int×Bool×(List zB)×(List zB)×(List zB)
abbrev Wn:Type:=Int→Bool→Int→List zB→List zB→List zB→Option Wp
def Bu (k:Nat)(rec:Wn)(s7:Int)(s9:Bool)(ao:Int)(r0 r1 r2:List zB):Option Wp:=
 bif decide (ao < (r2.length : Int)) then (bif s9 then (bif zC ao r2.length then(rec s7 (decide ((r2.getD ao.toNat (0,0,0,0,0,0,0)).2.2.2.2.1=3)) (zA (ao+1)) r0 r1 r2)
   else none)
  else rec s7 false (zA (ao+1)) r0 r1 r2)
 else some (s7,s9,r0,r1,r2)
def Bt (k:Nat):Nat→Wn
 |0,_,_,_,_,_,_=>none
 |n+1,s7,s9,ao,r0,r1,r2=>Bu k (Bt k n) s7 s9 ao r0 r1 r2
abbrev Wq:Type:=Int→List zB→List zB→Option Uf
def Bv (k:Nat)(rec:Wq)(s7:Int)(r0 r1:List zB):Option Uf:=
 bif decide (s7 < (r0.length : Int)) then (bif zC s7 r0.length then ((pY k r0 (r0.getD s7.toNat (0,0,0,0,0,0,0)).2.1).bind fun x1=>
   (Bt k k s7 true 0 r0 r1 x1).bind fun z=>
   bif zC 0 z.2.2.2.2.length then (bif zC z.1 z.2.2.1.length then (bif (decide ((z.2.2.2.2.getD 0 (0, 0, 0, 0, 0, 0, 0)).1 = (z.2.2.1.getD z.1.toNat (0, 0, 0, 0, 0, 0, 0)).1)) && ((decide ((z.2.2.2.2.getD 0 (0, 0, 0, 0, 0, 0, 0)).2.1 = (z.2.2.1.getD z.1.toNat (0, 0, 0, 0, 0, 0, 0)).2.1)) && ((decide ((z.2.2.2.2.getD 0 (0, 0, 0, 0, 0, 0, 0)).2.2.1 = (z.2.2.1.getD z.1.toNat (0, 0, 0, 0, 0, 0, 0)).2.2.1)) && ((decide ((z.2.2.2.2.getD 0 (0, 0, 0, 0, 0, 0, 0)).2.2.2.1 = (z.2.2.1.getD z.1.toNat (0, 0, 0, 0, 0, 0, 0)).2.2.2.1)) && ((decide ((z.2.2.2.2.getD 0 (0, 0, 0, 0, 0, 0, 0)).2.2.2.2.1 = (z.2.2.1.getD z.1.toNat (0, 0, 0, 0, 0, 0, 0)).2.2.2.2.1)) && ((decide ((z.2.2.2.2.getD 0 (0, 0, 0, 0, 0, 0, 0)).2.2.2.2.2.1 = (z.2.2.1.getD z.1.toNat (0, 0, 0, 0, 0, 0, 0)).2.2.2.2.2.1)) && (decide ((z.2.2.2.2.getD 0 (0, 0, 0, 0, 0, 0, 0)).2.2.2.2.2.2 = (z.2.2.1.getD z.1.toNat (0, 0, 0, 0, 0, 0, 0)).2.2.2.2.2.2))))))) then (bif zC z.1 z.2.2.1.length then (bif zR (z.2.2.2.1.length + 1) 56 then (let y0:List zB:=(z.2.2.2.1++[(z.2.2.1.getD z.1.toNat (0,0,0,0,0,0,0))])
        rec (zA (z.1+1)) z.2.2.1 y0)
       else none)
      else none)
     else bif z.2.1 then (bif zC z.1 z.2.2.1.length then (bif zR (z.2.2.2.1.length + 1) 56 then (let y1:List zB:=(z.2.2.2.1++[(z.2.2.1.getD z.1.toNat (0,0,0,0,0,0,0))])
        rec (zA (z.1+1)) z.2.2.1 y1)
       else none)
      else none)
     else rec (zA (z.1+1)) z.2.2.1 z.2.2.2.1)
    else none)
   else none)
  else none)
 else some r1
def Gf (k:Nat):Nat→Wq
 |0,_,_,_=>none
 |n+1,s7,r0,r1=>Bv k (Gf k n) s7 r0 r1
def Ge (k:Nat)(a0:List zB)(a1:Int):Option (List zB):=
 (Bp k a0 a1).bind fun x0=>
 (Gf k k 0 x0 []).bind fun z1=>
 some z1
abbrev Wv:Type:=List zB→Int→List zH→EQ→AC→EQ→Option SU
def AT (k:Nat)(rec:Wv)(s1:List zB)(s5:Int)(aa:List zH)(ae:EQ)(af:AC)(ab:EQ):Option SU:=
 bif decide (s5 < (s1.length : Int)) then (bif zC s5 s1.length then ((J5 k aa ae af ab (s1.getD s5.toNat (0,0,0,0,0,0,0)).1 (s1.getD s5.toNat (0,0,0,0,0,0,0)).2.1 (s1.getD s5.toNat (0,0,0,0,0,0,0)).2.2.1 (s1.getD s5.toNat (0,0,0,0,0,0,0)).2.2.2.1 (s1.getD s5.toNat (0,0,0,0,0,0,0)).2.2.2.2.1 (s1.getD s5.toNat (0,0,0,0,0,0,0)).2.2.2.2.2.1 (s1.getD s5.toNat (0,0,0,0,0,0,0)).2.2.2.2.2.2).bind fun x0=>
   bif !x0 then some (.inr false)
   else rec s1 (zA (s5+1)) aa ae af ab)
  else none)
 else some (.inl s1)
def FR (k:Nat):Nat→Wv
 |0,_,_,_,_,_,_=>none
 |n+1,s1,s5,aa,ae,af,ab=>AT k (FR k n) s1 s5 aa ae af ab
def FQ (k:Nat)(aL:List zH)(aZ:EQ)(aW:AC)(aT:EQ)(a1:List zB):Option Bool:=
 (FR k k a1 0 aL aZ aW aT).bind fun z=>
 match z with
 |.inl z1=>some (decide ((z1.length:Int)≤64))
 |.inr z2=>some z2
abbrev Wy:Type:=EQ→Int→EQ→Option EQ
def AL (k:Nat)(rec:Wy)(s0:EQ)(s4:Int)(m0:EQ):Option EQ:=
 bif decide (s4 < (s0.length : Int)) then (bif zC s4 s0.length then (bif zR (0 + (s0.getD s4.toNat []).length) 8 then (bif zR (m0.length+1) 24 then(rec s0 (zA (s4+1)) (m0++[(s0.getD s4.toNat [])]))
    else none)
   else none)
  else none)
 else some m0
def FD (k:Nat):Nat→Wy
 |0,_,_,_=>none
 |n+1,s0,s4,m0=>AL k (FD k n) s0 s4 m0
def FE (k:Nat)(a0:EQ):Option EQ:=
 (FD k k a0 0 []).bind fun z=>
 some z
def mb (k:Nat)(aL:List zH)(aZ:EQ)(aW:AC)(aT:EQ):Option ((List zH)×EQ×AC×EQ):=
 bif zR (0 + aL.length) 24 then ((FE k aZ).bind fun x0=>
  bif zR (0 + aW.length) 8 then ((FE k aT).bind fun x1=>
   some (aL,x0,aW,x1))
  else none)
 else none
abbrev WA:Type:=List zB→Int→Int→Int→Int→Option wD
def AZ (k:Nat)(rec:WA)(s0:List zB)(s1 s6 s7 s8:Int):Option wD:=
 bif decide (s8 < (s0.length : Int)) then (bif zC s8 s0.length then (bif !(decide ((s0.getD s8.toNat (0,0,0,0,0,0,0)).2.1=s1)) then(rec s0 s1 s6 s7 (zA (s8+1)))
   else bif zC s8 s0.length then (bif decide ((s0.getD s8.toNat (0, 0, 0, 0, 0, 0, 0)).2.2.2.2.1 = 3) then (bif zC s8 s0.length then(rec s0 s1 (zA (s6+(s0.getD s8.toNat (0,0,0,0,0,0,0)).2.2.2.1)) s7 (zA (s8+1)))
     else none)
    else bif zC s8 s0.length then(rec s0 s1 s6 (zA (s7+(s0.getD s8.toNat (0,0,0,0,0,0,0)).2.2.2.1)) (zA (s8+1)))
    else none)
   else none)
  else none)
 else some (s6,s7)
def FV (k:Nat):Nat→WA
 |0,_,_,_,_,_=>none
 |n+1,s0,s1,s6,s7,s8=>AZ k (FV k n) s0 s1 s6 s7 s8
def FU (k:Nat)(a0:List zB)(a1:Int):Option wD:=
 (FV k k a0 a1 0 0 0).bind fun z=>
 some (z.1,z.2)
def Ke (k:Nat)(a0:List zB)(a1:Int):Option Int:=
 (FU k a0 a1).bind fun x0=>
 some x0.2
def FW (k:Nat)(bm bz aP a1:Int):Option Int:=
 bif decide (a1≥aP) then some 0
 else some (zA (aP-a1))
abbrev WE:Type:=List zB→Int→Int→Int→Int→Option Int
def AY (k:Nat)(rec:WE)(s0:List zB)(s1 s2 s7 s8:Int):Option Int:=
 bif decide (s8 < (s0.length : Int)) then (bif zC s8 s0.length then (bif decide ((s0.getD s8.toNat (0, 0, 0, 0, 0, 0, 0)).2.1 = s1) then (bif zC s8 s0.length then (bif decide ((s0.getD s8.toNat (0, 0, 0, 0, 0, 0, 0)).2.2.1 = s2) then (bif zC s8 s0.length then(rec s0 s1 s2 (zA (s7+(s0.getD s8.toNat (0,0,0,0,0,0,0)).2.2.2.1)) (zA (s8+1)))
      else none)
     else rec s0 s1 s2 s7 (zA (s8+1)))
    else none)
   else rec s0 s1 s2 s7 (zA (s8+1)))
  else none)
 else some s7
def FT (k:Nat):Nat→WE
 |0,_,_,_,_,_=>none
 |n+1,s0,s1,s2,s7,s8=>AY k (FT k n) s0 s1 s2 s7 s8
def sR (k:Nat)(a0:List zB)(a1 a2:Int):Option Int:=
 (FT k k a0 a1 a2 0 0).bind fun z=>
 some z
def Kb (k:Nat)(a0:List zB)(a1 a2:Int):Option Int:=
 (sR k a0 a1 a2).bind fun x0=>
 (sR k a0 a2 a1).bind fun x1=>
 some (zA (x0-x1))
abbrev WL:Type:=(List zB)×Int×(List zH)×EQ×AC×EQ×(List zH)×EQ×AC×EQ
abbrev WJ:Type:=List zB→Int→Int→List zH→EQ→AC→EQ→List zH→EQ→AC→EQ→Option WL
def A2 (k:Nat)(rec:WJ)(s1:List zB)(s7 s8:Int)(aa:List zH)(ae:EQ)(af:AC)(ab:EQ)(r3:List zH)(m4:EQ)(r5:AC)(m6:EQ):Option WL:=
 bif decide (s8 < (r3.length : Int)) then ((Kb k s1 s7 s8).bind fun x4=>
  bif zC s7 r3.length then (bif zC s7 r3.length then (let y1:List zH:=(r3.set s7.toNat ((zA ((r3.getD s7.toNat (0,0,0)).1-x4)),(r3.getD s7.toNat (0,0,0)).2))
    bif zC s7 m6.length then (bif zC s7 m6.length then (bif zC s8 (m6.getD s7.toNat []).length then (bif zC s8 (m6.getD s7.toNat []).length then (let y2:EQ:=(m6.set s7.toNat ((m6.getD s7.toNat []).set s8.toNat (zA (((m6.getD s7.toNat []).getD s8.toNat 0)+x4))))
        rec s1 s7 (zA (s8+1)) aa ae af ab y1 m4 r5 y2)
       else none)
      else none)
     else none)
    else none)
   else none)
  else none)
 else some (s1,s7,aa,ae,af,ab,r3,m4,r5,m6)
def A0 (k:Nat):Nat→WJ
 |0,_,_,_,_,_,_,_,_,_,_,_=>none
 |n+1,s1,s7,s8,aa,ae,af,ab,r3,m4,r5,m6=>A2 k (A0 k n) s1 s7 s8 aa ae af ab r3 m4 r5 m6
abbrev WM:Type:=List zB→Int→List zH→EQ→AC→EQ→List zH→EQ→AC→EQ→Option Vf
def A4 (k:Nat)(rec:WM)(s1:List zB)(s7:Int)(aa:List zH)(ae:EQ)(af:AC)(ab:EQ)(r3:List zH)(m4:EQ)(r5:AC)(m6:EQ):Option Vf:=
 bif decide (s7 < (r3.length : Int)) then (bif zC s7 r3.length then ((Ke k s1 s7).bind fun x2=>
   (FW k (r3.getD s7.toNat (0,0,0)).1 (r3.getD s7.toNat (0,0,0)).2.1 (r3.getD s7.toNat (0,0,0)).2.2 x2).bind fun x3=>
   bif zC s7 r3.length then (let y0:List zH:=(r3.set s7.toNat ((r3.getD s7.toNat (0,0,0)).1,(r3.getD s7.toNat (0,0,0)).2.1,x3))
    (A0 k k s1 s7 0 aa ae af ab y0 m4 r5 m6).bind fun z=>
    rec z.1 (zA (z.2.1+1)) z.2.2.1 z.2.2.2.1 z.2.2.2.2.1 z.2.2.2.2.2.1 z.2.2.2.2.2.2.1 z.2.2.2.2.2.2.2.1 z.2.2.2.2.2.2.2.2.1 z.2.2.2.2.2.2.2.2.2)
   else none)
  else none)
 else some (aa,ae,af,ab,r3,m4,r5,m6)
def A3 (k:Nat):Nat→WM
 |0,_,_,_,_,_,_,_,_,_,_=>none
 |n+1,s1,s7,aa,ae,af,ab,r3,m4,r5,m6=>A4 k (A3 k n) s1 s7 aa ae af ab r3 m4 r5 m6
def wc (k:Nat)(aL:List zH)(aZ:EQ)(aW:AC)(aT:EQ)(a1:List zB):Option ((List zH)×EQ×AC×EQ×Int):=
 (FQ k aL aZ aW aT a1).bind fun x0=>
 bif !x0 then some (aL,aZ,aW,aT,1)
 else(mb k aL aZ aW aT).bind fun x1=>
 (A3 k k a1 0 aL aZ aW aT x1.1 x1.2.1 x1.2.2.1 x1.2.2.2).bind fun z1=>
 (AA k z1.2.2.2.2.1 z1.2.2.2.2.2.1 z1.2.2.2.2.2.2.1 z1.2.2.2.2.2.2.2).bind fun x5=>
 bif !x5 then some (vG z1 8)
 else some (yOr z1 0)
abbrev qOp:Type:=Int→Int→Int→List zH→EQ→AC→EQ→Option Int
def A6 (k:Nat)(rec:qOp)(s1 s5 s6:Int)(aa:List zH)(ae:EQ)(af:AC)(ab:EQ):Option Int:=
 bif zC s1 ab.length then (bif decide (s6 < ((ab.getD s1.toNat []).length : Int)) then (bif zC s1 ab.length then (bif zC s6 (ab.getD s1.toNat []).length then(rec s1 (zA (s5+((ab.getD s1.toNat []).getD s6.toNat 0))) (zA (s6+1)) aa ae af ab)
    else none)
   else none)
  else some s5)
 else none
def A5 (k:Nat):Nat→qOp
 |0,_,_,_,_,_,_,_=>none
 |n+1,s1,s5,s6,aa,ae,af,ab=>A6 k (A5 k n) s1 s5 s6 aa ae af ab
def Ki (k:Nat)(aL:List zH)(aZ:EQ)(aW:AC)(aT:EQ)(a1:Int):Option Int:=
 (A5 k k a1 0 0 aL aZ aW aT).bind fun z=>
 some z
abbrev WV:Type:=(Int×Int×Int×Int×Int×(List zH)×EQ×AC×EQ)⊕Bool
abbrev WT:Type:=List zB→Int→Int→Int→Int→Int→Int→List zH→EQ→AC→EQ→Option WV
def A8 (k:Nat)(rec:WT)(s1:List zB)(s2 s7 s8 s9 ao bc:Int)(aa:List zH)(ae:EQ)(af:AC)(ab:EQ):Option WV:=
 bif decide (bc < (aa.length : Int)) then ((sR k s1 s2 bc).bind fun x2=>
  (sR k s1 bc s2).bind fun x3=>
  (sR k s1 s2 bc).bind fun x4=>
  bif decide (x4 > 0) then (bif zC s2 ae.length then (bif zC bc (ae.getD s2.toNat []).length then (bif !(decide (((ae.getD s2.toNat []).getD bc.toNat 0) = (-1))) then (bif zC s2 ab.length then (bif zC bc (ab.getD s2.toNat []).length then (bif zC s2 ae.length then (bif zC bc (ae.getD s2.toNat []).length then (bif decide ((zA (((ab.getD s2.toNat []).getD bc.toNat 0)+(zA (x2-x3))))>((ae.getD s2.toNat []).getD bc.toNat 0)) then some (.inr true)
          else rec s1 s2 s7 s8 (zA (s9-(zA (x2-x3)))) (zA (ao+(zA (x2-x3)))) (zA (bc+1)) aa ae af ab)
         else none)
        else none)
       else none)
      else none)
     else rec s1 s2 s7 s8 (zA (s9-(zA (x2-x3)))) (zA (ao+(zA (x2-x3)))) (zA (bc+1)) aa ae af ab)
    else none)
   else none)
  else rec s1 s2 s7 s8 (zA (s9-(zA (x2-x3)))) (zA (ao+(zA (x2-x3)))) (zA (bc+1)) aa ae af ab)
 else some (.inl (s2,s7,s8,s9,ao,aa,ae,af,ab))
def ow (k:Nat):Nat→WT
 |0,_,_,_,_,_,_,_,_,_,_,_=>none
 |n+1,s1,s2,s7,s8,s9,ao,bc,aa,ae,af,ab=>A8 k (ow k n) s1 s2 s7 s8 s9 ao bc aa ae af ab
def Km (k:Nat)(aL:List zH)(aZ:EQ)(aW:AC)(aT:EQ)(a1:List zB)(a2:Int):Option Bool:=
 (FU k a1 a2).bind fun x0=>
 bif decide ((zA (x0.1+x0.2))=0) then some false
 else bif zC a2 aL.length then (bif zC a2 aL.length then ((Ki k aL aZ aW aT a2).bind fun x1=>
   (ow k k a1 a2 x0.1 x0.2 (zA ((aL.getD a2.toNat (0,0,0)).1+(aL.getD a2.toNat (0,0,0)).2.1)) x1 0 aL aZ aW aT).bind fun z=>
   match z with
   |.inl z1=>bif decide (z1.2.2.2.1<0) then some true
    else bif decide (z1.2.1 > 0) then (bif zC z1.1 z1.2.2.2.2.2.1.length then ((FW k (z1.2.2.2.2.2.1.getD z1.1.toNat (0,0,0)).1 (z1.2.2.2.2.2.1.getD z1.1.toNat (0,0,0)).2.1 (z1.2.2.2.2.2.1.getD z1.1.toNat (0,0,0)).2.2 z1.2.2.1).bind fun x5=>
      bif decide (z1.2.2.2.1<x5) then some true
      else bif zC z1.1 z1.2.2.2.2.2.2.2.1.length then (bif !(decide ((z1.2.2.2.2.2.2.2.1.getD z1.1.toNat 0) = (-1))) then (bif zC z1.1 z1.2.2.2.2.2.2.2.1.length then some (decide (z1.2.2.2.2.1>(z1.2.2.2.2.2.2.2.1.getD z1.1.toNat 0)))
        else none)
       else some false)
      else none)
     else none)
    else bif zC z1.1 z1.2.2.2.2.2.2.2.1.length then (bif !(decide ((z1.2.2.2.2.2.2.2.1.getD z1.1.toNat 0) = (-1))) then (bif zC z1.1 z1.2.2.2.2.2.2.2.1.length then some (decide (z1.2.2.2.2.1>(z1.2.2.2.2.2.2.2.1.getD z1.1.toNat 0)))
      else none)
     else some false)
    else none
   |.inr z2=>some z2)
  else none)
 else none
abbrev WW:Type:=List zB→Int→List zH→EQ→AC→EQ→AC→Option AC
def oz (k:Nat)(rec:WW)(s1:List zB)(s6:Int)(aa:List zH)(ae:EQ)(af:AC)(ab:EQ)(r1:AC):Option AC:=
 bif decide (s6 < (aa.length : Int)) then ((Km k aa ae af ab s1 s6).bind fun x0=>
  bif x0 then (bif zR (r1.length+1) 8 then(rec s1 (zA (s6+1)) aa ae af ab (r1++[s6]))
   else none)
  else rec s1 (zA (s6+1)) aa ae af ab r1)
 else some r1
def pW (k:Nat):Nat→WW
 |0,_,_,_,_,_,_,_=>none
 |n+1,s1,s6,aa,ae,af,ab,r1=>oz k (pW k n) s1 s6 aa ae af ab r1
def pV (k:Nat)(aL:List zH)(aZ:EQ)(aW:AC)(aT:EQ)(a1:List zB):Option AC:=
 (pW k k a1 0 aL aZ aW aT []).bind fun z=>
 some z
def FY (k:Nat)(aL:List zH)(aZ:EQ)(aW:AC)(aT:EQ)(a1:List zB):Option Bool:=
 (FQ k aL aZ aW aT a1).bind fun x0=>
 bif x0 then ((pV k aL aZ aW aT a1).bind fun x1=>
  some (decide ((x1.length:Int)=0)))
 else some false
def qu (k:Nat)(aL:List zH)(aZ:EQ)(aW:AC)(aT:EQ)(a1:List zB):Option ((List zH)×EQ×AC×EQ×Bool):=
 (wc k aL aZ aW aT a1).bind fun x0=>
 bif decide (x0.2.2.2.2 = 0) then ((FY k aL aZ aW aT a1).bind fun x1=>
  some (vG x0 x1))
 else some (vG x0 false)
abbrev W0:Type:=zB⊕(Bool×Int×Int×Int×Int×Int×Int×Int)
abbrev WY:Type:=Int→List zH→EQ→AC→EQ→Int→Int→Int→Int→Int→Int→Int→List zB→Option W0
def CW (k:Nat)(rec:WY)(s9:Int)(aa:List zH)(ae:EQ)(af:AC)(ab:EQ)(an ar au ax aD aE aF:Int)(r2:List zB):Option W0:=
 bif decide (s9 < (r2.length : Int)) then (bif ((decide (0 ≤ s9)) && (decide (s9 ≤ (zA (s9 + 1))))) && (decide ((zA (s9 + 1)) ≤ (r2.length : Int))) then ((qu k aa ae af ab (qZ r2 (0+s9.toNat) ((zA (s9+1)).toNat-s9.toNat))).bind fun x1=>
   bif x1.2.2.2.2 then (bif zC s9 r2.length then some (.inr (true,(r2.getD s9.toNat (0,0,0,0,0,0,0)).1,(r2.getD s9.toNat (0,0,0,0,0,0,0)).2.1,(r2.getD s9.toNat (0,0,0,0,0,0,0)).2.2.1,(r2.getD s9.toNat (0,0,0,0,0,0,0)).2.2.2.1,(r2.getD s9.toNat (0,0,0,0,0,0,0)).2.2.2.2.1,(r2.getD s9.toNat (0,0,0,0,0,0,0)).2.2.2.2.2.1,(r2.getD s9.toNat (0,0,0,0,0,0,0)).2.2.2.2.2.2))
    else none)
   else rec (zA (s9+1)) aa ae af ab an ar au ax aD aE aF r2)
  else none)
 else some (.inl (an,ar,au,ax,aD,aE,aF))
def Hg (k:Nat):Nat→WY
 |0,_,_,_,_,_,_,_,_,_,_,_,_,_=>none
 |n+1,s9,aa,ae,af,ab,an,ar,au,ax,aD,aE,aF,r2=>CW k (Hg k n) s9 aa ae af ab an ar au ax aD aE aF r2
def LA (k:Nat)(aL:List zH)(aZ:EQ)(aW:AC)(aT:EQ)(a1:List zB)(a2:Int):Option (Int×Int×Int×Int×Int×Int×Int×Bool):=
 (Ge k a1 a2).bind fun x0=>
 (Hg k k 0 aL aZ aW aT 0 0 0 0 0 0 0 x0).bind fun z=>
 match z with
 |.inl z1=>some (0,0,0,0,0,0,0,false)
 |.inr z2=>some (qXr z2 z2.1)
abbrev W1:Type:=List zB→Int→List zH→EQ→AC→EQ→List zB→Option Vm
def CX (k:Nat)(rec:W1)(s1:List zB)(s2:Int)(aa:List zH)(ae:EQ)(af:AC)(ab:EQ)(r2:List zB):Option Vm:=
 (LA k aa ae af ab s1 s2).bind fun x0=>
 bif !x0.2.2.2.2.2.2.2 then some (s1,aa,ae,af,ab,r2)
 else(qu k aa ae af ab [(wC x0)]).bind fun x1=>
 (ly k s1 x0.1).bind fun x2=>
 bif zR (r2.length + 1) 56 then (let y0:List zB:=(r2++[(wC x0)])
  rec x2.1 s2 x1.1 x1.2.1 x1.2.2.1 x1.2.2.2.1 y0)
 else none
def Hh (k:Nat):Nat→W1
 |0,_,_,_,_,_,_,_=>none
 |n+1,s1,s2,aa,ae,af,ab,r2=>CX k (Hh k n) s1 s2 aa ae af ab r2
def LB (k:Nat)(aL:List zH)(aZ:EQ)(aW:AC)(aT:EQ)(a1:List zB)(a2:Int):Option oR:=
 (Hh k k a1 a2 aL aZ aW aT []).bind fun z=>
 some (fO z (z.1,z.2.2.2.2.2))
abbrev W6:Type:=(Int×(List zH)×EQ×AC×EQ×Int×Int×Int×Int×Int×Int×Int×Int×Int×Int×Int×Int×Int×Int×(List zB))⊕(Bool×Int×Int×Int×Int×Int×Int×Int×Int×Int×Int×Int×Int×Int×Int)
abbrev W4:Type:=Int→Int→List zH→EQ→AC→EQ→Int→Int→Int→Int→Int→Int→Int→Int→Int→Int→Int→Int→Int→Int→List zB→Option W6
def CY (k:Nat)(rec:W4)(ao bc:Int)(aa:List zH)(ae:EQ)(af:AC)(ab:EQ)(an ar au ax aD aE aF aY bP bQ cG dW dX dY:Int)(r3:List zB):Option W6:=
 bif decide (bc < (r3.length : Int)) then (bif zC ao r3.length then (bif zC bc r3.length then (bif !(decide ((r3.getD bc.toNat (0,0,0,0,0,0,0)).2.1=(r3.getD ao.toNat (0,0,0,0,0,0,0)).2.2.1)) then(rec ao (zA (bc+1)) aa ae af ab an ar au ax aD aE aF aY bP bQ cG dW dX dY r3)
    else bif !(decide ((r3.getD bc.toNat (0,0,0,0,0,0,0)).2.2.1=(r3.getD ao.toNat (0,0,0,0,0,0,0)).2.1)) then(rec ao (zA (bc+1)) aa ae af ab an ar au ax aD aE aF aY bP bQ cG dW dX dY r3)
    else bif decide ((r3.getD ao.toNat (0,0,0,0,0,0,0)).2.1≥(r3.getD bc.toNat (0,0,0,0,0,0,0)).2.1) then(rec ao (zA (bc+1)) aa ae af ab an ar au ax aD aE aF aY bP bQ cG dW dX dY r3)
    else(qu k aa ae af ab [(r3.getD ao.toNat (0,0,0,0,0,0,0)),(r3.getD bc.toNat (0,0,0,0,0,0,0))]).bind fun x1=>
    bif x1.2.2.2.2 then some (.inr (true,(gg (r3.getD ao.toNat (0,0,0,0,0,0,0)) ((r3.getD bc.toNat (0,0,0,0,0,0,0)).1,(r3.getD bc.toNat (0,0,0,0,0,0,0)).2.1,(r3.getD bc.toNat (0,0,0,0,0,0,0)).2.2.1,(r3.getD bc.toNat (0,0,0,0,0,0,0)).2.2.2.1,(r3.getD bc.toNat (0,0,0,0,0,0,0)).2.2.2.2.1,(r3.getD bc.toNat (0,0,0,0,0,0,0)).2.2.2.2.2.1,(r3.getD bc.toNat (0,0,0,0,0,0,0)).2.2.2.2.2.2))))
    else rec ao (zA (bc+1)) aa ae af ab an ar au ax aD aE aF aY bP bQ cG dW dX dY r3)
   else none)
  else none)
 else some (.inl (ao,aa,ae,af,ab,an,ar,au,ax,aD,aE,aF,aY,bP,bQ,cG,dW,dX,dY,r3))
def Hj (k:Nat):Nat→W4
 |0,_,_,_,_,_,_,_,_,_,_,_,_,_,_,_,_,_,_,_,_,_=>none
 |n+1,ao,bc,aa,ae,af,ab,an,ar,au,ax,aD,aE,aF,aY,bP,bQ,cG,dW,dX,dY,r3=>CY k (Hj k n) ao bc aa ae af ab an ar au ax aD aE aF aY bP bQ cG dW dX dY r3
abbrev W9:Type:=(Int×Int×Int×Int×Int×Int×Int×Int×Int×Int×Int×Int×Int×Int)⊕(Bool×Int×Int×Int×Int×Int×Int×Int×Int×Int×Int×Int×Int×Int×Int)
abbrev W7:Type:=Int→List zH→EQ→AC→EQ→Int→Int→Int→Int→Int→Int→Int→Int→Int→Int→Int→Int→Int→Int→List zB→Option W9
def CZ (k:Nat)(rec:W7)(ao:Int)(aa:List zH)(ae:EQ)(af:AC)(ab:EQ)(an ar au ax aD aE aF aY bP bQ cG dW dX dY:Int)(r3:List zB):Option W9:=
 bif decide (ao < (r3.length : Int)) then ((Hj k k ao 0 aa ae af ab an ar au ax aD aE aF aY bP bQ cG dW dX dY r3).bind fun z=>
  match z with
  |.inl z1=>rec (zA (z1.1+1)) z1.2.1 z1.2.2.1 z1.2.2.2.1 z1.2.2.2.2.1 z1.2.2.2.2.2.1 z1.2.2.2.2.2.2.1 z1.2.2.2.2.2.2.2.1 z1.2.2.2.2.2.2.2.2.1 z1.2.2.2.2.2.2.2.2.2.1 z1.2.2.2.2.2.2.2.2.2.2.1 z1.2.2.2.2.2.2.2.2.2.2.2.1 z1.2.2.2.2.2.2.2.2.2.2.2.2.1 z1.2.2.2.2.2.2.2.2.2.2.2.2.2.1 z1.2.2.2.2.2.2.2.2.2.2.2.2.2.2.1 z1.2.2.2.2.2.2.2.2.2.2.2.2.2.2.2.1 z1.2.2.2.2.2.2.2.2.2.2.2.2.2.2.2.2.1 z1.2.2.2.2.2.2.2.2.2.2.2.2.2.2.2.2.2.1 z1.2.2.2.2.2.2.2.2.2.2.2.2.2.2.2.2.2.2.1 z1.2.2.2.2.2.2.2.2.2.2.2.2.2.2.2.2.2.2.2
  |.inr z2=>some (.inr (z2.1,z2.2.1,z2.2.2.1,z2.2.2.2.1,z2.2.2.2.2.1,z2.2.2.2.2.2.1,z2.2.2.2.2.2.2.1,z2.2.2.2.2.2.2.2.1,z2.2.2.2.2.2.2.2.2.1,z2.2.2.2.2.2.2.2.2.2.1,z2.2.2.2.2.2.2.2.2.2.2.1,z2.2.2.2.2.2.2.2.2.2.2.2.1,z2.2.2.2.2.2.2.2.2.2.2.2.2.1,z2.2.2.2.2.2.2.2.2.2.2.2.2.2.1,z2.2.2.2.2.2.2.2.2.2.2.2.2.2.2)))
 else some (.inl (an,ar,au,ax,aD,aE,aF,aY,bP,bQ,cG,dW,dX,dY))
def Hk (k:Nat):Nat→W7
 |0,_,_,_,_,_,_,_,_,_,_,_,_,_,_,_,_,_,_,_,_=>none
 |n+1,ao,aa,ae,af,ab,an,ar,au,ax,aD,aE,aF,aY,bP,bQ,cG,dW,dX,dY,r3=>CZ k (Hk k n) ao aa ae af ab an ar au ax aD aE aF aY bP bQ cG dW dX dY r3
def LC (k:Nat)(aL:List zH)(aZ:EQ)(aW:AC)(aT:EQ)(a1:List zB)(a2:Int):Option (Int×Int×Int×Int×Int×Int×Int×Int×Int×Int×Int×Int×Int×Int×Bool):=
 (Ge k a1 a2).bind fun x0=>
 (Hk k k 0 aL aZ aW aT 0 0 0 0 0 0 0 0 0 0 0 0 0 0 x0).bind fun z3=>
 match z3 with
 |.inl z4=>some (0,0,0,0,0,0,0,0,0,0,0,0,0,0,false)
 |.inr z5=>some (vMi z5 z5.1)
def C3 (k:Nat)(rec:W1)(s1:List zB)(s2:Int)(aa:List zH)(ae:EQ)(af:AC)(ab:EQ)(r2:List zB):Option Vm:=
 (LC k aa ae af ab s1 s2).bind fun x0=>
 bif !x0.2.2.2.2.2.2.2.2.2.2.2.2.2.2 then some (s1,aa,ae,af,ab,r2)
 else(qu k aa ae af ab [(wC x0),(Ya x0)]).bind fun x1=>
 (ly k s1 x0.1).bind fun x2=>
 (ly k x2.1 x0.2.2.2.2.2.2.2.1).bind fun x3=>
 bif zR (r2.length + 2) 56 then (let y0:List zB:=(r2++[(wC x0),(Ya x0)])
  rec x3.1 s2 x1.1 x1.2.1 x1.2.2.1 x1.2.2.2.1 y0)
 else none
def Hl (k:Nat):Nat→W1
 |0,_,_,_,_,_,_,_=>none
 |n+1,s1,s2,aa,ae,af,ab,r2=>C3 k (Hl k n) s1 s2 aa ae af ab r2
def LD (k:Nat)(aL:List zH)(aZ:EQ)(aW:AC)(aT:EQ)(a1:List zB)(a2:Int):Option oR:=
 (Hl k k a1 a2 aL aZ aW aT []).bind fun z=>
 some (fO z (z.1,z.2.2.2.2.2))
def Dc (k:Nat)(rec:W1)(s1:List zB)(s2:Int)(aa:List zH)(ae:EQ)(af:AC)(ab:EQ)(r2:List zB):Option Vm:=
 (LB k aa ae af ab s1 s2).bind fun x0=>
 (LD k x0.1 x0.2.1 x0.2.2.1 x0.2.2.2.1 x0.2.2.2.2.1 s2).bind fun x1=>
 bif zR (r2.length + x0.2.2.2.2.2.length) 56 then (bif zR ((r2 ++ x0.2.2.2.2.2).length + x1.2.2.2.2.2.length) 56 then (let y0:List zB:=((r2++x0.2.2.2.2.2)++x1.2.2.2.2.2)
   bif decide ((x1.2.2.2.2.2.length:Int)=0) then some (x1.2.2.2.2.1,(vG x1 y0))
   else rec x1.2.2.2.2.1 s2 x1.1 x1.2.1 x1.2.2.1 x1.2.2.2.1 y0)
  else none)
 else none
def Ho (k:Nat):Nat→W1
 |0,_,_,_,_,_,_,_=>none
 |n+1,s1,s2,aa,ae,af,ab,r2=>Dc k (Ho k n) s1 s2 aa ae af ab r2
def Hq (k:Nat)(aL:List zH)(aZ:EQ)(aW:AC)(aT:EQ)(a1:List zB)(a2:Int):Option oR:=
 (Ho k k a1 a2 aL aZ aW aT []).bind fun z=>
 some (fO z (z.1,z.2.2.2.2.2))
abbrev Xh:Type:=List zB→AC→Int→List zB→Option Uf
def C6 (k:Nat)(rec:Xh)(s0:List zB)(s1:AC)(s6:Int)(r0:List zB):Option Uf:=
 bif decide (s6 < (s0.length : Int)) then (bif (decide (0 ≤ s6)) && (decide (s6 ≤ (s0.length : Int))) then (bif zC s6 s0.length then ((pY k (List.take s6.toNat s0) (s0.getD s6.toNat (0,0,0,0,0,0,0)).2.1).bind fun x0=>
    bif zC s6 s0.length then (bif decide ((s0.getD s6.toNat (0, 0, 0, 0, 0, 0, 0)).2.1 ≥ 0) then (bif zC s6 s0.length then (bif decide ((s0.getD s6.toNat (0, 0, 0, 0, 0, 0, 0)).2.1 < (s1.length : Int)) then (bif zC s6 s0.length then (bif zC (s0.getD s6.toNat (0, 0, 0, 0, 0, 0, 0)).2.1 s1.length then (bif decide ((x0.length : Int) < (s1.getD (s0.getD s6.toNat (0, 0, 0, 0, 0, 0, 0)).2.1.toNat 0)) then (bif zC s6 s0.length then (bif zR (r0.length + 1) 56 then (let y0:List zB:=(r0++[(s0.getD s6.toNat (0,0,0,0,0,0,0))])
             rec s0 s1 (zA (s6+1)) y0)
            else none)
           else none)
          else rec s0 s1 (zA (s6+1)) r0)
         else none)
        else none)
       else rec s0 s1 (zA (s6+1)) r0)
      else none)
     else rec s0 s1 (zA (s6+1)) r0)
    else none)
   else none)
  else none)
 else some r0
def C5 (k:Nat):Nat→Xh
 |0,_,_,_,_=>none
 |n+1,s0,s1,s6,r0=>C6 k (C5 k n) s0 s1 s6 r0
def C4 (k:Nat)(a0:List zB)(a1:AC):Option (List zB):=
 (C5 k k a0 a1 0 []).bind fun z=>
 some z
abbrev Xl:Type:=(List zH)×EQ×AC×EQ×(List zB)×AC
abbrev Xk:Type:=Int→List zH→EQ→AC→EQ→List zB→AC→Option Xl
def C7 (k:Nat)(rec:Xk)(ao:Int)(aa:List zH)(ae:EQ)(af:AC)(ab:EQ)(r1:List zB)(r2:AC):Option Xl:=
 bif decide (ao < (aa.length : Int)) then ((pY k r1 ao).bind fun x1=>
  bif zR (r2.length+1) 8 then(rec (zA (ao+1)) aa ae af ab r1 (r2++[(x1.length:Int)]))
  else none)
 else some (aa,ae,af,ab,r1,r2)
def xo (k:Nat):Nat→Xk
 |0,_,_,_,_,_,_,_=>none
 |n+1,ao,aa,ae,af,ab,r1,r2=>C7 k (xo k n) ao aa ae af ab r1 r2
abbrev Xo:Type:=Int×(List zH)×EQ×AC×EQ×(List zB)×AC
abbrev Xm:Type:=Int→Int→List zH→EQ→AC→EQ→List zB→AC→AC→Option Xo
def C9 (k:Nat)(rec:Xm)(bc bL:Int)(aa:List zH)(ae:EQ)(af:AC)(ab:EQ)(r1:List zB)(r2 r3:AC):Option Xo:=
 bif decide (bL < (r3.length : Int)) then (bif zC bL r3.length then (bif zC (r3.getD bL.toNat 0) r2.length then (bif zC (r3.getD bL.toNat 0) r2.length then (let y0:AC:=(r2.set (r3.getD bL.toNat 0).toNat (zA ((r2.getD (r3.getD bL.toNat 0).toNat 0)-1)))
     rec bc (zA (bL+1)) aa ae af ab r1 y0 r3)
    else none)
   else none)
  else none)
 else some (bc,aa,ae,af,ab,r1,r2)
def C8 (k:Nat):Nat→Xm
 |0,_,_,_,_,_,_,_,_,_=>none
 |n+1,bc,bL,aa,ae,af,ab,r1,r2,r3=>C9 k (C8 k n) bc bL aa ae af ab r1 r2 r3
abbrev Xp:Type:=Int→List zH→EQ→AC→EQ→List zB→AC→Option (Int×AC)
def Da (k:Nat)(rec:Xp)(bc:Int)(aa:List zH)(ae:EQ)(af:AC)(ab:EQ)(r1:List zB)(r2:AC):Option (Int×AC):=
 (C4 k r1 r2).bind fun x2=>
 (pV k aa ae af ab x2).bind fun x3=>
 bif decide ((x3.length:Int)=0) then some (bc,r2)
 else(C8 k k bc 0 aa ae af ab r1 r2 x3).bind fun z1=>
 rec (zA (z1.1+1)) z1.2.1 z1.2.2.1 z1.2.2.2.1 z1.2.2.2.2.1 z1.2.2.2.2.2.1 z1.2.2.2.2.2.2
def Hm (k:Nat):Nat→Xp
 |0,_,_,_,_,_,_,_=>none
 |n+1,bc,aa,ae,af,ab,r1,r2=>Da k (Hm k n) bc aa ae af ab r1 r2
def LF (k:Nat)(aL:List zH)(aZ:EQ)(aW:AC)(aT:EQ)(a1:List zB)(a2:Int):Option (AC×Int):=
 (Bp k a1 a2).bind fun x0=>
 (xo k k 0 aL aZ aW aT x0 []).bind fun z=>
 (Hm k k 1 z.1 z.2.1 z.2.2.1 z.2.2.2.1 z.2.2.2.2.1 z.2.2.2.2.2).bind fun z2=>
 some (z2.2,z2.1)
end Go.Ab.Gi
