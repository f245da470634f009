/- part 6 -/
import Derived.Test.YthpehdcmpldloaaGreatGiAbD
set_option linter.unusedVariables false
set_option maxRecDepth 100000
abbrev Go.Ab.Ty.i:Go.Ab.Ty:=.int .i64
abbrev Go.Ab.CS.i:Go.Ab.CS:=.int .i64
abbrev Go.Ab.PC.i:Go.Ab.PC:=.int .i64
abbrev Go.Ab.RC.i:Go.Ab.RC:=.int .i64
namespace Go.Ab.Gi
abbrev AC:=List Int
abbrev EQ:=List AC
abbrev wS:Type:=AC×Bool
abbrev jK:Go.Ab.Ty:=.pair .i .i
abbrev wC:Type:=Int×AC×Int×AC×Int×Int×Int×Bool×Bool×Int
abbrev jY:Type:=Int×Bool
abbrev yF:Type:=Int×Int×Bool
abbrev iH:Type:=Int×Int×Int×Bool
abbrev G5:Type:=Int×Int×Int×Int×Int×Bool×Bool×Int
abbrev qQ:Type:=Int×Int×Int×Int×Int×Int×Int×Int
abbrev zC:Type:=Int×Int×Int×Int×Int×Int×Int
abbrev Lt:Type:=Int×Int×Int×Int×Int×Int
abbrev zI:Type:=Int×Int×Int
abbrev wJ:Type:=Int×Int
abbrev sd:Type:=(List zI)×EQ×AC×EQ×(List zC)×(List zC)
abbrev xR:Type:=(List zI)×EQ×AC×EQ
abbrev qZn:Type:=(List zC)×Int×Int×Int×Int×Int×Int×Int×Int
abbrev qX:Go.Ab.Ty:=.pair .i jK
abbrev yFw:Type:=Bool×Int×Int×Int×Int×Int×Int×Int×Int×Int×Int×Int×Int×Int×Int×(List zI)×EQ×AC×EQ
abbrev Q0:Type:=Int×(List zI)×EQ×AC×EQ×AC×EQ×(List zC)×AC×Int×Bool×(List qQ)
abbrev yA:Type:=Int×(List zI)×EQ×AC×EQ×AC×EQ×(List zC)×AC×Int×Bool
abbrev um:Type:=Int×(List wJ)×Int×Int×Int×Int×(List zI)×EQ×AC×EQ×AC×EQ×(List zC)×AC×Int×Bool×Int×(List qQ)×Int
abbrev jM:Type:=Int×(List wJ)×Int×Int×Int×Int×(List zI)×EQ×AC×EQ×AC×EQ×(List zC)×AC×Int×Bool×Int×(List qQ)
abbrev uo:Type:=Int×(List wJ)×Int×Int×Int×Int×(List zI)×EQ×AC×EQ×AC×EQ×(List zC)×AC×Int×Bool×Int×Bool
abbrev pT:Type:=Int×(List wJ)×Int×Int×Int×Int×(List zI)×EQ×AC×EQ×AC×EQ×(List zC)×AC×Int×Bool×Int×Int
abbrev kX:Type:=Int×(List wJ)×Int×Int×Int×Int×(List zI)×EQ×AC×EQ×AC×EQ×(List zC)×AC×Int×Bool×Int
abbrev yZ:Type:=Int×(List wJ)×Int×Int×Int
abbrev vOz:Go.Ab.Ty:=.pair .i qX
abbrev vYi:Go.Ab.Ty:=.pair .i vOz
abbrev vGd:Go.Ab.Ty:=.pair .i vYi
abbrev zG:Go.Ab.Ty:=.pair .i vGd
abbrev yI:Go.Ab.Ty:=.pair .i zG
abbrev qN2:List Go.Ab.CS:=[.dat false .i,.dat false .i,.dat false (.sl .i)]
abbrev jH:List Go.Ab.CS:=[.dat false qX,.dat false (.sl .i),.dat false .i,.dat false (.sl .i)]
abbrev GN:List Go.Ab.CS:=[.dat true (.int .u8),.bool]
abbrev wB:List Go.Ab.CS:=[.dat true qX,.dat true (.sl .i),.dat true .i,.dat true (.sl .i)]
abbrev xM:List Go.Ab.CS:=[.i,.dat false qX,.dat false (.sl .i),.dat false .i,.dat false (.sl .i),.dat false .i,.dat false (.sl .i),.dat false zG,.dat false .i,.i,.bool]
abbrev pG:List Go.Ab.CS:=[.i,.dat false jK,.i,.i,.i]
abbrev gi:List Go.Ab.CS:=[.i,.dat true qX,.dat true (.sl .i),.dat true .i,.dat true (.sl .i),.dat true .i,.dat true (.sl .i),.dat true zG,.dat true .i,.i,.bool]
abbrev xN:List Go.Ab.CS:=[.i,.dat true jK,.i,.i,.i]
abbrev qLn:List Go.Ab.CS:=[.i,.dat true jK,.i,.i,.i,.i,.dat true qX,.dat true (.sl .i),.dat true .i,.dat true (.sl .i),.dat true .i,.dat true (.sl .i),.dat true zG,.dat true .i,.i,.bool,.i,.lit (.osl 1001001 none)]
abbrev qXw:List Go.Ab.CS:=[.i,.dat true jK,.i,.i,.i,.i,.dat true qX,.dat true (.sl .i),.dat true .i,.dat true (.sl .i),.dat true .i,.dat true (.sl .i),.dat true zG,.dat true .i,.i,.bool,.i,.lit .nsl]
abbrev qSw:List Go.Ab.CS:=[.i,.dat true jK,.i,.i,.i,.i,.dat true qX,.dat true (.sl .i),.dat true .i,.dat true (.sl .i),.dat true .i,.dat true (.sl .i),.dat true zG,.dat true .i,.i,.bool,.i,.lit .nsl,.i]
abbrev wR:List Go.Ab.CS:=[.i,.i,.i,.i,.i,.i,.i]
abbrev yPa:List Go.Ab.CS:=[.i,.i,.i,.i,.i,.i,.i,.i,.i,.i,.i,.i,.i,.i,.dat true qX,.dat true (.sl .i),.dat true .i,.dat true (.sl .i)]
abbrev Ql:List Go.Ab.CS:=[.i,.i,.i,.i,.i,.i,.i,.i,.i,.i,.i,.i,.i,.i,.lit .nsl,.lit .nsl,.lit .nsl,.lit .nsl]
abbrev yYc:List Go.Ab.CS:=[.i,.lit (.osl 1001001 none),.i,.lit (.osl 1001002 none),.i,.i,.i,.bool,.bool,.i]
abbrev yD2:List Go.Ab.CS:=[.i,.lit (.osl 1001002 none),.lit (.osl 1001003 none),.lit (.osl 1001004 none),.lit (.osl 1001005 none),.lit (.osl 1001006 none),.lit (.osl 1001007 none),.lit .nsl,.lit .nsl,.i,.bool]
abbrev yO5:List Go.Ab.CS:=[.i,.lit (.osl 1001003 none),.i,.lit (.osl 1001004 none),.i,.i,.i,.bool,.bool,.i]
abbrev yNm:List Go.Ab.CS:=[.i,.lit (.osl 1001003 none),.lit (.osl 1001004 none),.lit (.osl 1001005 none),.lit (.osl 1001006 none),.lit (.osl 1001007 none),.lit (.osl 1001008 none),.lit (.osl 1001009 none),.lit .nsl,.i,.bool]
abbrev yW5:List Go.Ab.CS:=[.i,.lit (.osl 1001003 none),.lit (.osl 1001004 none),.lit (.osl 1001005 none),.lit (.osl 1001006 none),.lit (.osl 1001007 none),.lit (.osl 1001008 none),.lit .nsl,.lit .nsl,.i,.bool]
abbrev PU:List Go.Ab.CS:=[.i,.lit (.osl 1001003 none),.lit (.osl 1001004 none),.lit (.osl 1001005 none),.lit (.osl 1001006 none),.lit (.osl 1001007 none),.lit .nsl,.lit .nsl,.lit .nsl,.i,.bool]
abbrev yIk:List Go.Ab.CS:=[.i,.lit (.osl 1001004 none),.lit .nsl,.lit .nsl,.lit .nsl,.lit .nsl,.lit .nsl,.lit .nsl,.lit .nsl,.i,.bool]
abbrev fq:List Go.Ab.CS:=[.i,.lit .nsl,.lit .nsl,.lit .nsl,.lit .nsl,.lit .nsl,.lit .nsl,.lit .nsl,.lit .nsl,.i,.bool]
abbrev qUy:List Go.Ab.CS:=[.lit (.osl 1001002 none),.lit (.osl 1001003 none),.lit (.osl 1001004 none)]
abbrev rW:List Go.Ab.CS:=[.lit (.osl 1001003 none),.lit (.osl 1001004 none),.lit (.osl 1001005 none),.lit (.osl 1001006 none)]
abbrev yM4:List Go.Ab.CS:=[.lit (.osl 1001004 none),.lit (.osl 1001005 none),.lit (.osl 1001006 none),.lit (.osl 1001007 none)]
abbrev nA:List Go.Ab.CS:=[.lit .nsl,.lit .nsl,.lit .nsl,.lit .nsl]
abbrev Qj:List Go.Ab.PC:=[.dat false .i,.dat false .i,.dat false (.sl .i)]
abbrev jN:List Go.Ab.PC:=[.dat false qX,.dat false (.sl .i),.dat false .i,.dat false (.sl .i)]
abbrev kH:List Go.Ab.PC:=[.dat true qX,.dat true (.sl .i),.dat true .i,.dat true (.sl .i)]
abbrev K5:List Go.Ab.PC:=[.i,.dat false (.int .u8),.i,.dat false (.int .u8),.i,.i,.i,.bool,.bool,.i]
abbrev pI:List Go.Ab.PC:=[.i,.dat false qX,.dat false (.sl .i),.dat false .i,.dat false (.sl .i),.dat false .i,.dat false (.sl .i),.dat false zG,.dat false .i,.i,.bool]
abbrev ju:List Go.Ab.PC:=[.i,.dat false jK,.i,.i,.i]
abbrev ZM:List Go.Ab.PC:=[.i,.dat false jK,.i,.i,.i,.i,.dat false qX,.dat false (.sl .i),.dat false .i,.dat false (.sl .i),.dat false .i,.dat false (.sl .i),.dat false zG,.dat false .i,.i,.bool,.i,.dat false yI]
abbrev yZ7:List Go.Ab.PC:=[.i,.dat false jK,.i,.i,.i,.i,.dat false qX,.dat false (.sl .i),.dat false .i,.dat false (.sl .i),.dat false .i,.dat false (.sl .i),.dat false zG,.dat false .i,.i,.bool,.i,.dat false yI,.i]
abbrev xD:List Go.Ab.PC:=[.i,.dat true qX,.dat true (.sl .i),.dat true .i,.dat true (.sl .i),.dat true .i,.dat true (.sl .i),.dat true zG,.dat true .i,.i,.bool]
abbrev Qs:List Go.Ab.PC:=[.i,.dat true jK,.i,.i,.i]
abbrev nz:List Go.Ab.PC:=[.i,.i,.i]
abbrev La:List Go.Ab.PC:=[.i,.i,.i,.i,.i,.i]
abbrev vL:List Go.Ab.PC:=[.i,.i,.i,.i,.i,.i,.i]
abbrev GP:List Go.Ab.PC:=[.i,.i,.i,.i,.i,.i,.i,.i]
abbrev mG:List Go.Ab.RC:=[.fro qX,.fro (.sl .i),.fro .i,.fro (.sl .i)]
abbrev vC:List Go.Ab.RC:=[.i]
abbrev xE:List Go.Ab.RC:=[.i,.fro qX,.fro (.sl .i),.fro .i,.fro (.sl .i),.fro .i,.fro (.sl .i),.fro zG,.fro .i,.i,.bool]
abbrev kU:List Go.Ab.RC:=[.i,.fro jK,.i,.i,.i,.i,.fro qX,.fro (.sl .i),.fro .i,.fro (.sl .i),.fro .i,.fro (.sl .i),.fro zG,.fro .i,.i,.bool,.i,.own yI]
abbrev BI:List Go.Ab.RC:=[.i,.fro jK,.i,.i,.i,.i,.fro qX,.fro (.sl .i),.fro .i,.fro (.sl .i),.fro .i,.fro (.sl .i),.fro zG,.fro .i,.i,.bool,.i,.own yI,.i]
abbrev pH:List Go.Ab.RC:=[.i,.i,.i,.i,.i,.i,.i]
abbrev kG:List Go.Ab.RC:=[.i,.own (.int .u8),.i,.own (.int .u8),.i,.i,.i,.bool,.bool,.i]
abbrev YL:List Go.Ab.RC:=[.i,.own qX,.mat,.own .i,.mat,.own .i,.mat,.own zG,.own .i,.i,.bool]
abbrev QB:List Go.Ab.RC:=[.link 1,.i,.fro jK,.i,.i,.i,.i,.fro qX,.fro (.sl .i),.fro .i,.fro (.sl .i),.fro .i,.fro (.sl .i),.fro zG,.fro .i,.i,.bool,.i,.bool]
abbrev QC:List Go.Ab.RC:=[.link 2,.i,.i,.i,.bool]
abbrev Qz:List Go.Ab.XC:=[.link 1,.p .i,.p (.dat true jK),.p .i,.p .i,.p .i,.p .i,.p (.dat true qX),.p (.dat true (.sl .i)),.p (.dat true .i),.p (.dat true (.sl .i)),.p (.dat true .i),.p (.dat true (.sl .i)),.p (.dat true zG),.p (.dat true .i),.p .i,.p .bool,.p .i,.p .bool]
abbrev qKi:List Go.Ab.XC:=[.link 1,.p .i,.p .i,.p .i,.p .bool]
abbrev QA:List Go.Ab.XC:=[.link 2,.p .i,.p .i,.p .i,.p .bool]
abbrev mF:List Go.Ab.XC:=[.p .i,.own (.int .u8),.p .i,.own (.int .u8),.p .i,.p .i,.p .i,.p .bool,.p .bool,.p .i]
abbrev xH:List Go.Ab.XC:=[.p .i,.p (.dat true jK),.p .i,.p .i,.p .i,.p .i,.p (.dat true qX),.p (.dat true (.sl .i)),.p (.dat true .i),.p (.dat true (.sl .i)),.p (.dat true .i),.p (.dat true (.sl .i)),.p (.dat true zG),.p (.dat true .i),.p .i,.p .bool,.p .i,.own yI]
abbrev xF:List Go.Ab.XC:=[.p .i,.p (.dat true jK),.p .i,.p .i,.p .i,.p .i,.p (.dat true qX),.p (.dat true (.sl .i)),.p (.dat true .i),.p (.dat true (.sl .i)),.p (.dat true .i),.p (.dat true (.sl .i)),.p (.dat true zG),.p (.dat true .i),.p .i,.p .bool,.p .i,.p (.nil)]
abbrev BH:List Go.Ab.XC:=[.p .i,.p (.dat true jK),.p .i,.p .i,.p .i,.p .i,.p (.dat true qX),.p (.dat true (.sl .i)),.p (.dat true .i),.p (.dat true (.sl .i)),.p (.dat true .i),.p (.dat true (.sl .i)),.p (.dat true zG),.p (.dat true .i),.p .i,.p .bool,.p .i,.p (.nil),.p .i]
section
variable {A B C D E F G H I J K L M N O P Q R S U V W X Z a b Aa Ab Ac Ad Ae Af Ag Ah Ai Aj Ak Al Am An Ao Ap Aq Ar As At T Y:Type}
abbrev gF (x:A×B×C×D)(t:T):=(x.1,x.2.1,x.2.2.1,x.2.2.2,t)
abbrev jD (x:A×B×C×D×E)(t:T):=(x.1,gF x.2 t)
abbrev nB (x:A×B×C×D×E×F)(t:T):=(x.1,jD x.2 t)
abbrev ie (x:A×B×C×D×E×F×G)(t:T):=(x.1,nB x.2 t)
abbrev GO (x:A×B×C×D×E×F×G×H)(t:T):=(x.1,ie x.2 t)
abbrev P9 (x:A×B×C×D×E×F×G×H×I)(t:T):=(x.1,GO x.2 t)
abbrev jt (x:A×B×C×D×E×F×G×H×I×J)(t:T):=(x.1,P9 x.2 t)
abbrev wO (x:A×B×C×D×E×F×G×H×I×J×K)(t:T):=(x.1,jt x.2 t)
abbrev GW (x:A×B×C×D×E×F×G×H×I×J×K×L)(t:T):=(x.1,wO x.2 t)
abbrev vKi (x:A×B×C×D×E×F×G×H×I×J×K×L×M)(t:T):=(x.1,GW x.2 t)
abbrev qTe (x:A×B×C×D×E×F×G×H×I×J×K×L×M×N)(t:T):=(x.1,vKi x.2 t)
abbrev yY3 (x:A×B×C×D×E×F×G×H×I×J×K×L×M×N×O)(t:T):=(x.1,qTe x.2 t)
abbrev vP6 (x:A×B×C×D×E×F×G×H×I×J×K×L×M×N×O×P)(t:T):=(x.1,yY3 x.2 t)
abbrev vO (x:A×B×C×D×E×F×G×H×I×J×K×L×M×N×O×P×Q)(t:T):=(x.1,vP6 x.2 t)
abbrev jL (x:A×B×C×D×E×F×G×H×I×J×K×L×M×N×O×P×Q×R)(t:T):=(x.1,vO x.2 t)
abbrev xL (x:A×B×C×D×E×F×G×H×I×J×K×L×M×N×O×P×Q×R×S)(t:T):=(x.1,jL x.2 t)
abbrev gj (x:A×B×C×D×E):=(x.1,x.2.1,x.2.2.1,x.2.2.2.1)
abbrev yR (x:A×B×C×D×E×F):=(x.1,gj x.2)
abbrev mH (x:A×B×C×D×E×F×G):=(x.1,yR x.2)
abbrev wF (x:A×B×C×D×E×F×G×H):=(x.1,mH x.2)
abbrev oJ (x:A×B×C×D×E×F×G×H×I):=(x.1,wF x.2)
abbrev Qa (x:A×B×C×D×E×F×G×H×I×J):=(x.1,oJ x.2)
abbrev ic (x:A×B×C×D×E×F×G×H×I×J×K):=(x.1,Qa x.2)
abbrev qS (x:A×B×C×D×E×F×G×H×I×J×K×L):=(x.1,ic x.2)
abbrev GX (x:A×B×C×D×E×F×G×H×I×J×K×L×M):=(x.1,qS x.2)
abbrev vDa (x:A×B×C×D×E×F×G×H×I×J×K×L×M×N):=(x.1,GX x.2)
abbrev yZq (x:A×B×C×D×E×F×G×H×I×J×K×L×M×N×O):=(x.1,vDa x.2)
abbrev yY7 (x:A×B×C×D×E×F×G×H×I×J×K×L×M×N×O×P):=(x.1,yZq x.2)
abbrev vRk (x:A×B×C×D×E×F×G×H×I×J×K×L×M×N×O×P×Q):=(x.1,yY7 x.2)
abbrev kV (x:A×B×C×D×E×F×G×H×I×J×K×L×M×N×O×P×Q×R):=(x.1,vRk x.2)
abbrev ft (x:A×B×C×D×E×F×G×H×I×J×K×L×M×N×O×P×Q×R×S):=(x.1,kV x.2)
abbrev Qm (x:A×B×C×D×E×F×G×H×I×J×K×L×M×N×O×P×Q×R×S×U):=(x.1,ft x.2)
abbrev vT (x:A×B×C×D×E)(t:T):=(x.1,x.2.1,x.2.2.1,x.2.2.2.1,t)
abbrev rY (x:A×B×C×D×E×F)(t:T):=(x.1,vT x.2 t)
abbrev jF (x:A×B×C×D×E×F×G)(t:T):=(x.1,rY x.2 t)
abbrev jo (x:A×B×C×D×E×F×G×H)(t:T):=(x.1,jF x.2 t)
abbrev vNv (x:A×B×C×D×E×F×G×H×I)(t:T):=(x.1,jo x.2 t)
abbrev qW7 (x:A×B×C×D×E×F×G×H×I×J)(t:T):=(x.1,vNv x.2 t)
abbrev abw (x:A×B×C×D×E×F×G×H×I×J×K)(t:T):=(x.1,qW7 x.2 t)
abbrev xK (x:A×B×C×D×E×F×G×H×I×J×K×L)(t:T):=(x.1,abw x.2 t)
abbrev jx (x:A×B×C×D×E×F×G×H×I×J×K×L×M)(t:T):=(x.1,xK x.2 t)
abbrev vTw (x:A×B×C×D×E×F×G×H×I×J×K×L×M×N)(t:T):=(x.1,jx x.2 t)
abbrev qM2 (x:A×B×C×D×E×F×G×H×I×J×K×L×M×N×O)(t:T):=(x.1,vTw x.2 t)
abbrev abx (x:A×B×C×D×E×F×G×H×I×J×K×L×M×N×O×P)(t:T):=(x.1,qM2 x.2 t)
abbrev vHy (x:A×B×C×D×E×F×G×H×I×J×K×L×M×N×O×P×Q)(t:T):=(x.1,abx x.2 t)
abbrev yB (x:A×B×C×D×E×F×G×H×I×J×K×L×M×N×O×P×Q×R)(t:T):=(x.1,vHy x.2 t)
abbrev yTz (x:A×B×C×D×E×F×G×H×I×J×K×L×M×N×O×P×Q×R×S)(t:T):=(x.1,yB x.2 t)
abbrev vF (f:A→B→C→D→Y)(x:A×B×C×D×E):Y:=f x.1 x.2.1 x.2.2.1 x.2.2.2.1
abbrev kW (f:A→B→C→D→E→Y)(x:A×B×C×D×E×F):Y:=vF (f x.1) x.2
abbrev jw (f:A→B→C→D→E→F→Y)(x:A×B×C×D×E×F×G):Y:=kW (f x.1) x.2
abbrev lK (f:A→B→C→D→E→F→G→Y)(x:A×B×C×D×E×F×G×H):Y:=jw (f x.1) x.2
abbrev lJ (f:A→B→C→D→E→F→G→H→Y)(x:A×B×C×D×E×F×G×H×I):Y:=lK (f x.1) x.2
abbrev Qi (f:A→B→C→D→E→F→G→H→I→Y)(x:A×B×C×D×E×F×G×H×I×J):Y:=lJ (f x.1) x.2
abbrev vIs (f:A→B→C→D→E→F→G→H→I→J→Y)(x:A×B×C×D×E×F×G×H×I×J×K):Y:=Qi (f x.1) x.2
abbrev rV (f:A→B→C→D→E→F→G→H→I→J→K→Y)(x:A×B×C×D×E×F×G×H×I×J×K×L):Y:=vIs (f x.1) x.2
abbrev Lg (f:A→B→C→D→E→F→G→H→I→J→K→L→Y)(x:A×B×C×D×E×F×G×H×I×J×K×L×M):Y:=rV (f x.1) x.2
abbrev qN4 (f:A→B→C→D→E→F→G→H→I→J→K→L→M→Y)(x:A×B×C×D×E×F×G×H×I×J×K×L×M×N):Y:=Lg (f x.1) x.2
abbrev GQ (f:A→B→C→D→E→F→G→H→I→J→K→L→M→N→Y)(x:A×B×C×D×E×F×G×H×I×J×K×L×M×N×O):Y:=qN4 (f x.1) x.2
abbrev vS3 (f:A→B→C→D→E→F→G→H→I→J→K→L→M→N→O→Y)(x:A×B×C×D×E×F×G×H×I×J×K×L×M×N×O×P):Y:=GQ (f x.1) x.2
abbrev yHu (f:A→B→C→D→E→F→G→H→I→J→K→L→M→N→O→P→Y)(x:A×B×C×D×E×F×G×H×I×J×K×L×M×N×O×P×Q):Y:=vS3 (f x.1) x.2
abbrev vZe (f:A→B→C→D→E→F→G→H→I→J→K→L→M→N→O→P→Q→Y)(x:A×B×C×D×E×F×G×H×I×J×K×L×M×N×O×P×Q×R):Y:=yHu (f x.1) x.2
abbrev vL9 (f:A→B→C→D→E→F→G→H→I→J→K→L→M→N→O→P→Q→R→Y)(x:A×B×C×D×E×F×G×H×I×J×K×L×M×N×O×P×Q×R×S):Y:=vZe (f x.1) x.2
abbrev vVq (f:A→B→C→D→E→F→G→H→I→J→K→L→M→N→O→P→Q→R→S→Y)(x:A×B×C×D×E×F×G×H×I×J×K×L×M×N×O×P×Q×R×S×U):Y:=vL9 (f x.1) x.2
abbrev qNa (x:A×B×C×D×E×F×G×H×I×J×K×L×M×N×O×P×Q)(t:T):=gF x.2.2.2.2.2.2.2.2.2.2.2.2.2 t
abbrev Bb (x:A×B×C×D×E×F)(t:T):=gF x.2.2 t
abbrev aby (x:A×B×C×D×E×F×G)(t:T):=gF x.2.2.2 t
abbrev yP5 (x:A×B×C×D×E×F×G×H)(t:T):=gF x.2.2.2.2 t
abbrev vT9 (x:A×B×C×D×E×F×G×H×I)(t:T):=gF x.2.2.2.2.2 t
abbrev vO9 (x:A×B×C×D×E×F×G×H×I×J×K×L)(t:T):=gF x.2.2.2.2.2.2.2.2 t
abbrev yQl (x:A×B×C×D×E×F×G×H×I×J×K×L×M×N×O×P×Q)(t:T):=jD x.2.2.2.2.2.2.2.2.2.2.2.2 t
abbrev W5 (x:A×B×C×D×E×F×G×H×I×J×K×L×M×N×O×P×Q)(t:T):=nB x.2.2.2.2.2.2.2.2.2.2.2 t
abbrev yN6 (x:A×B×C×D×E×F×G×H)(t:T):=nB x.2.2 t
abbrev qSg (x:A×B×C×D×E×F×G×H×I×J×K×L×M×N×O×P×Q)(t:T):=ie x.2.2.2.2.2.2.2.2.2.2 t
abbrev yGz (x:A×B×C×D×E×F×G×H)(t:T):=ie x.2 t
abbrev Lf (x:A×B×C×D×E×F×G×H×I×J×K)(t:T):=ie x.2.2.2.2 t
abbrev yQo (x:A×B×C×D×E×F×G×H×I×J×K×L×M×N)(t:T):=ie x.2.2.2.2.2.2.2 t
abbrev yKv (x:A×B×C×D×E×F×G×H×I×J×K×L×M×N×O)(t:T):=ie x.2.2.2.2.2.2.2.2 t
abbrev vZ0 (x:A×B×C×D×E×F×G×H×I×J×K×L)(t:T):=wO x.2 t
abbrev G6 (x:A×B×C×D×E×F×G×H×I×J×K×L×M×N×O×P×Q×R)(t:T):=wO x.2.2.2.2.2.2.2 t
abbrev vX3 (x:A×B×C×D×E×F×G×H×I×J×K×L×M×N×O)(t:T):=qTe x.2 t
abbrev qVk (x:A×B×C×D×E×F×G×H×I×J×K×L×M×N×O×P×Q×R×S)(t:T):=jL x.2 t
abbrev vE5 (x:A×B×C×D×E×F×G×H×I×J×K×L×M×N×O×P×Q×R×S×U):=gj x.2.2.2.2.2.2.2.2.2.2.2.2.2.2.2
abbrev GZ (x:A×B×C×D×E×F):=gj x.2
abbrev QD (x:A×B×C×D×E×F×G×H×I×J×K×L×M×N×O×P×Q×R×S×U×V×W×X×Z×a):=gj x.2.2.2.2.2.2.2.2.2.2.2.2.2.2.2.2.2.2.2.2
abbrev qPg (x:A×B×C×D×E×F×G×H×I×J×K×L×M×N×O×P×Q×R×S×U×V×W×X×Z×a×b):=gj x.2.2.2.2.2.2.2.2.2.2.2.2.2.2.2.2.2.2.2.2.2
abbrev qQy (x:A×B×C×D×E×F×G):=gj x.2.2
abbrev vKa (x:A×B×C×D×E×F×G×H×I×J×K×L×M×N×O×P×Q×R×S×U×V×W×X×Z×a×b×Aa×Ab×Ac×Ad×Ae×Af×Ag×Ah×Ai×Aj):=gj x.2.2.2.2.2.2.2.2.2.2.2.2.2.2.2.2.2.2.2.2.2.2.2.2.2.2.2.2.2.2.2
abbrev vLf (x:A×B×C×D×E×F×G×H×I×J×K×L×M×N×O×P×Q×R×S×U×V×W×X×Z×a×b×Aa×Ab×Ac×Ad×Ae×Af×Ag×Ah×Ai×Aj×Ak):=gj x.2.2.2.2.2.2.2.2.2.2.2.2.2.2.2.2.2.2.2.2.2.2.2.2.2.2.2.2.2.2.2.2
abbrev ySg (x:A×B×C×D×E×F×G×H×I×J×K×L×M×N×O×P×Q×R×S×U×V×W×X×Z×a):=mH x.2.2.2.2.2.2.2.2.2.2.2.2.2.2.2.2.2.2
abbrev vQb (x:A×B×C×D×E×F×G×H×I×J×K×L×M×N×O×P×Q×R×S×U×V×W×X×Z×a×b):=mH x.2.2.2.2.2.2.2.2.2.2.2.2.2.2.2.2.2.2.2
abbrev vCu (x:A×B×C×D×E×F×G×H×I×J×K×L×M×N×O×P×Q×R×S×U×V×W×X×Z×a×b×Aa):=mH x.2.2.2.2.2.2.2.2.2.2.2.2.2.2.2.2.2.2.2.2
abbrev GS (x:A×B×C×D×E×F×G×H×I×J×K×L×M×N×O×P×Q×R×S×U×V×W×X×Z×a×b):=wF x.2.2.2.2.2.2.2.2.2.2.2.2.2.2.2.2.2.2
abbrev vF4 (x:A×B×C×D×E×F×G×H×I×J×K×L×M×N×O×P×Q×R×S×U×V×W×X×Z×a×b×Aa):=wF x.2.2.2.2.2.2.2.2.2.2.2.2.2.2.2.2.2.2.2
abbrev P7 (x:A×B×C×D×E×F×G×H×I):=wF x.2
abbrev Zu (x:A×B×C×D×E×F×G×H×I×J×K×L×M×N):=wF x.2.2.2.2.2.2
abbrev qW1 (x:A×B×C×D×E×F×G×H×I×J×K×L×M×N×O):=wF x.2.2.2.2.2.2.2
abbrev Zp (x:A×B×C×D×E×F×G×H×I×J×K×L×M×N×O×P×Q×R×S×U×V×W×X×Z×a):=oJ x.2.2.2.2.2.2.2.2.2.2.2.2.2.2.2.2
abbrev vDt (x:A×B×C×D×E×F×G×H×I×J×K×L×M×N):=oJ x.2.2.2.2.2
abbrev GL (x:A×B×C×D×E×F×G×H×I×J×K×L):=ic x.2
abbrev QE (x:A×B×C×D×E×F×G×H×I×J×K×L×M×N×O×P×Q×R×S×U×V×W×X×Z×a×b×Aa×Ab×Ac×Ad×Ae×Af×Ag×Ah×Ai):=ic x.2.2.2.2.2.2.2.2.2.2.2.2.2.2.2.2.2.2.2.2.2.2.2.2
abbrev qUi (x:A×B×C×D×E×F×G×H×I×J×K×L×M×N×O×P×Q×R×S×U×V×W×X×Z×a×b×Aa×Ab×Ac×Ad×Ae×Af×Ag×Ah×Ai×Aj):=ic x.2.2.2.2.2.2.2.2.2.2.2.2.2.2.2.2.2.2.2.2.2.2.2.2.2
abbrev yI6 (x:A×B×C×D×E×F×G×H×I×J×K×L×M):=ic x.2.2
abbrev vHj (x:A×B×C×D×E×F×G×H×I×J×K×L×M×N×O×P×Q×R×S×U×V×W×X×Z×a×b×Aa×Ab×Ac×Ad×Ae×Af×Ag×Ah×Ai×Aj×Ak×Al×Am×An×Ao×Ap×Aq×Ar×As×At):=ic x.2.2.2.2.2.2.2.2.2.2.2.2.2.2.2.2.2.2.2.2.2.2.2.2.2.2.2.2.2.2.2.2.2.2.2
abbrev yWq (x:A×B×C×D×E×F×G×H×I×J×K×L×M×N×O):=ic x.2.2.2.2
abbrev Qt (x:A×B×C×D×E×F×G×H×I×J×K×L×M×N×O×P):=ic x.2.2.2.2.2
abbrev qK8 (x:A×B×C×D×E×F×G×H×I×J×K×L×M×N×O×P×Q):=ic x.2.2.2.2.2.2
abbrev vUg (x:A×B×C×D×E×F×G×H×I×J×K×L×M×N×O×P×Q×R×S×U×V×W×X):=qS x.2.2.2.2.2.2.2.2.2.2.2
abbrev ui (x:A×B×C×D×E×F×G×H×I×J×K×L×M×N×O×P×Q):=qS x.2.2.2.2.2
abbrev aaM (x:A×B×C×D×E×F×G×H×I×J×K×L×M×N×O×P×Q×R×S):=qS x.2.2.2.2.2.2.2
abbrev vTx (x:A×B×C×D×E×F×G×H×I×J×K×L×M×N×O×P×Q×R×S×U×V×W×X×Z×a×b×Aa×Ab×Ac×Ad×Ae):=ft x.2.2.2.2.2.2.2.2.2.2.2.2
abbrev vUu (x:A×B×C×D×E×F×G×H×I×J×K×L×M×N×O×P×Q×R×S×U×V×W×X×Z×a×b×Aa×Ab×Ac×Ad×Ae×Af):=ft x.2.2.2.2.2.2.2.2.2.2.2.2.2
abbrev jv (x:A×B×C×D×E×F×G×H×I×J×K×L×M×N×O×P×Q×R×S×U):=ft x.2
abbrev qWf (x:A×B×C×D×E×F×G×H×I×J×K×L×M×N×O×P×Q×R×S×U×V):=ft x.2.2
abbrev BJ (x:A×B×C×D×E×F×G×H×I×J×K×L×M×N×O×P×Q×R×S×U×V):=Qm x.2
abbrev G1 (x:A×B×C×D×E×F×G×H×I×J×K×L×M×N×O)(t:T):=vT x.2.2.2.2.2.2.2.2.2.2 t
abbrev Q1 (x:A×B×C×D×E×F×G×H×I×J×K×L×M×N×O×P×Q×R)(t:T):=vT x.2.2.2.2.2.2.2.2.2.2.2.2.2 t
abbrev ij (x:A×B×C×D×E×F)(t:T):=vT x.2 t
abbrev P4 (x:A×B×C×D×E×F×G)(t:T):=vT x.2.2 t
abbrev vJz (x:A×B×C×D×E×F×G×H×I×J)(t:T):=vT x.2.2.2.2.2 t
abbrev yBa (x:A×B×C×D×E×F×G×H×I×J×K×L×M×N×O×P×Q×R)(t:T):=rY x.2.2.2.2.2.2.2.2.2.2.2.2 t
abbrev yKm (x:A×B×C×D×E×F×G×H×I×J×K×L×M×N×O×P×Q×R)(t:T):=jF x.2.2.2.2.2.2.2.2.2.2.2 t
abbrev qQ3 (x:A×B×C×D×E×F×G×H×I×J×K×L×M×N×O×P×Q×R)(t:T):=jo x.2.2.2.2.2.2.2.2.2.2 t
abbrev vVp (x:A×B×C×D×E×F×G×H×I×J×K×L×M×N×O×P×Q×R×S×U)(t:T):=jo x.2.2.2.2.2.2.2.2.2.2.2.2 t
abbrev qJm (x:A×B×C×D×E×F×G×H×I)(t:T):=jo x.2 t
abbrev vIz (x:A×B×C×D×E×F×G×H×I×J×K×L×M)(t:T):=jo x.2.2.2.2.2 t
abbrev vE3 (x:A×B×C×D×E×F×G×H×I×J×K×L×M×N×O×P×Q)(t:T):=xK x.2.2.2.2.2 t
abbrev vS4 (x:A×B×C×D×E×F×G×H×I×J×K×L×M×N×O×P×Q×R×S×U×V)(t:T):=qM2 x.2.2.2.2.2.2 t
abbrev Pp (x:A×B×C×D×E×F×G×H×I×J×K×L×M×N×O×P×Q×R×S)(t:T):=yB x.2 t
end
def PH (k:Nat)(a0:Int):Option wC:=
 bif decide (a0<0) then none
 else bif decide (a0>200000) then none
 else some (a0,[],0,[],0,0,0,false,false,0)
def rU (k:Nat)(a0 a1 a2:Int):Option Bool:=
 bif decide (a0≥a1) then some (decide (a0≤a2))
 else some false
def yU3 (k:Nat)(a0:wJ):Option Bool:=
 (rU k a0.1 0 1048576).bind fun x0=>
 bif !x0 then some true
 else(rU k a0.2 0 10000).bind fun x1=>
 some (!x1)
abbrev Yk:Type:=List wJ→Int→Int→Option (Unit⊕Int)
def yYp (k:Nat)(rec:Yk)(s0:List wJ)(s7 s8:Int):Option (Unit⊕Int):=
 bif decide (s8 < s7) then (bif zB s8 s0.length then ((yU3 k (s0.getD s8.toNat (0,0))).bind fun x0=>
   bif x0 then some (.inr s8)
   else rec s0 s7 (zA (s8+1)))
  else none)
 else some (.inl ())
def Ym (k:Nat):Nat→Yk:=qZ (fun _ _ _=>none) (yYp k)
def yYs (k:Nat)(a0:List wJ):Option Int:=
 (Ym k k a0 (a0.length:Int) 0).bind fun z=>
 match z with
 |.inl z1=>some (-1)
 |.inr z2=>some z2
def yVo (k:Nat)(a0:List wJ):Option Bool:=
 (yYs k a0).bind fun x0=>
 some (decide (x0≥0))
def xz (k:Nat)(a0:yZ):Option Bool:=
 (rU k a0.1 1 6).bind fun x0=>
 bif x0 then ((rU k a0.2.2.2.1 1 1048576).bind fun x1=>
  bif x1 then ((rU k a0.2.2.1 0 a0.2.2.2.1).bind fun x2=>
   bif x2 then ((rU k a0.2.2.2.2 1 1048576).bind fun x3=>
    bif decide ((a0.2.1.length : Int) ≤ 3) then (bif x3 then ((yVo k a0.2.1).bind fun x4=>
      some (!x4))
     else some false)
    else some false)
   else bif decide ((a0.2.1.length:Int)≤3) then some false
   else some false)
  else bif decide ((a0.2.1.length:Int)≤3) then some false
  else some false)
 else(rU k a0.2.2.2.1 1 1048576).bind fun x5=>
 bif x5 then ((rU k a0.2.2.1 0 a0.2.2.2.1).bind fun x6=>
  bif x6 then ((rU k a0.2.2.2.2 1 1048576).bind fun x7=>
   some false)
  else some false)
 else some false
def PQ (k:Nat)(a0:Int):Option Bool:=
 bif decide (a0≥0) then some (decide (a0<2))
 else some false
def Bv (k:Nat)(a0:AC):Option AC:=
 bif zN (0+a0.length) 1 then some a0
 else none
def X4 (k:Nat)(a0:wC)(a1:Int):Option AC:=
 (PQ k a1).bind fun x0=>
 bif !x0 then some []
 else bif decide (a1 = 0) then ((Bv k a0.2.1).bind fun x1=>
  some x1)
 else bif decide (a1 = 1) then ((Bv k a0.2.2.2.1).bind fun x2=>
  some x2)
 else none
abbrev Yq:Type:=AC×EQ
abbrev Yo:Type:=AC→EQ→Option Yq
def Dx (k:Nat)(rec:Yo)(s0:AC)(r0:EQ):Option Yq:=
 bif decide ((s0.length : Int) ≥ 2) then (bif zB 0 s0.length then (bif zB 1 s0.length then (bif decide ((wD .i64 (shl .i64 (zA ((s0.getD 0 0))) 8) (zA ((s0.getD 1 0))))>60000) then some (s0,r0)
    else bif decide ((wD .i64 (shl .i64 (zA ((s0.getD 0 0))) 8) (zA ((s0.getD 1 0))))>(zA ((s0.length:Int)-2))) then some (s0,r0)
    else bif (decide (2 ≤ (zA (2 + (wD .i64 (shl .i64 (zA ((s0.getD 0 0))) 8) (zA ((s0.getD 1 0)))))))) && (decide ((zA (2 + (wD .i64 (shl .i64 (zA ((s0.getD 0 0))) 8) (zA ((s0.getD 1 0)))))) ≤ (s0.length : Int))) then (bif zN (0 + (qR s0 2 ((zA (2 + (wD .i64 (shl .i64 (zA ((s0.getD 0 0))) 8) (zA ((s0.getD 1 0)))))).toNat - 2)).length) 1 then (let y0:AC:=(qR s0 2 ((zA (2+(wD .i64 (shl .i64 (zA ((s0.getD 0 0))) 8) (zA ((s0.getD 1 0)))))).toNat-2))
      bif zN (r0.length + 1) 24 then (bif (decide (0≤(zA (2+(wD .i64 (shl .i64 (zA ((s0.getD 0 0))) 8) (zA ((s0.getD 1 0))))))))&&(decide ((zA (2+(wD .i64 (shl .i64 (zA ((s0.getD 0 0))) 8) (zA ((s0.getD 1 0))))))≤(s0.length:Int))) then(rec (List.drop (zA (2+(wD .i64 (shl .i64 (zA ((s0.getD 0 0))) 8) (zA ((s0.getD 1 0)))))).toNat s0) (r0++[y0]))
       else none)
      else none)
     else none)
    else none)
   else none)
  else none)
 else some (s0,r0)
def Dw (k:Nat):Nat→Yo:=qZ (fun _ _=>none) (Dx k)
def Nh (k:Nat)(a0:AC):Option (EQ×Int):=
 (Dw k k a0 []).bind fun z=>
 some (z.2,(z.1.length:Int))
abbrev Yt:Type:=AC×Int×AC
abbrev Yr:Type:=AC→Int→AC→Int→Int→AC→Option Yt
def M8 (k:Nat)(rec:Yr)(s0:AC)(s5:Int)(bV:AC)(bm kI:Int)(r0:AC):Option Yt:=
 bif decide (kI < bm) then (bif zB kI bV.length then(rec s0 (wD .u64 (shl .u64 s5 8) (IntKind.wrap .u64 ((bV.getD kI.toNat 0)))) bV bm (zA (kI+1)) r0)
  else none)
 else some (s0,s5,r0)
def Dc (k:Nat):Nat→Yr:=qZ (fun _ _ _ _ _ _=>none) (M8 k)
def De (k:Nat)(rec:AC→AC→Option AC)(s0 r0:AC):Option AC:=
 bif decide ((s0.length : Int) > 0) then (bif decide (8 ≤ (s0.length : Int)) then ((Dc k k s0 0 (List.take 8 s0) ((List.take 8 s0).length:Int) 0 r0).bind fun z=>
   bif zN (z.2.2.length + 1) 8 then (bif decide (8≤(z.1.length:Int)) then(rec (List.drop 8 z.1) (z.2.2++[(zA (z.2.1))]))
    else none)
   else none)
  else none)
 else some r0
def Dd (k:Nat):Nat→AC→AC→Option AC:=qZ (fun _ _=>none) (De k)
def rF (k:Nat)(a0:AC):Option (AC×Int):=
 bif !(decide ((Int.tmod (a0.length:Int) 8)=0)) then some ([],2)
 else(Dd k k a0 []).bind fun z1=>
 some (z1,0)
def xw (k:Nat)(a0:wC)(a1:Int):Option (Int×AC×EQ):=
 (X4 k a0 a1).bind fun x0=>
 (Nh k x0).bind fun x1=>
 bif decide ((x1.1.length:Int)=0) then some (0,[],[])
 else bif zB 0 x1.1.length then (bif decide (((x1.1.getD 0 []).length:Int)<8) then some (0,[],[])
  else bif zB 0 x1.1.length then (bif decide (8 ≤ ((x1.1.getD 0 []).length : Int)) then ((rF k (List.take 8 (x1.1.getD 0 []))).bind fun x2=>
    bif zB 0 x2.1.length then (bif decide ((x2.1.getD 0 0)<1) then some (0,[],[])
     else bif zB 0 x2.1.length then (bif decide ((x2.1.getD 0 0)>4611686018427387904) then some (0,[],[])
      else bif zB 0 x2.1.length then (bif zB 0 x1.1.length then (bif decide (8 ≤ ((x1.1.getD 0 []).length : Int)) then (bif decide (1≤(x1.1.length:Int)) then some ((x2.1.getD 0 0),(List.drop 8 (x1.1.getD 0 [])),(qR x1.1 1 (x1.1.length-1)))
         else none)
        else none)
       else none)
      else none)
     else none)
    else none)
   else none)
  else none)
 else none
def KY (k:Nat)(a0:wC):Option (Int×Int×AC×EQ×Bool):=
 (xw k a0 0).bind fun x0=>
 bif decide (x0.1 > 0) then ((xw k a0 1).bind fun x1=>
  bif decide (x1.1>x0.1) then some (x1.1,1,x1.2.1,x1.2.2,true)
  else some (x0.1,0,x0.2.1,x0.2.2,true))
 else(xw k a0 1).bind fun x2=>
 bif decide (x2.1>0) then some (x2.1,1,x2.2.1,x2.2.2,true)
 else some (0,0,[],[],false)
def I9 (k:Nat)(a0:Int):Option Bool:=
 bif decide (a0≥0) then some (decide (a0≤6))
 else some false
abbrev Yx:Type:=Int→Int→Int→AC→Option AC
def Eb (k:Nat)(rec:Yx)(s1 bz bC:Int)(r0:AC):Option AC:=
 bif decide (bC < bz) then (bif zB bC r0.length then(rec s1 bz (zA (bC+1)) (r0.set bC.toNat s1))
  else none)
 else some r0
def Ja (k:Nat):Nat→Yx
 |0,_,_,_,_=>none
 |n+1,s1,bz,bC,r0=>Eb k (Ja k n) s1 bz bC r0
def AB (k:Nat)(a0 a1:Int):Option AC:=
 (I9 k a0).bind fun x0=>
 bif !x0 then some []
 else bif o0 a0 a0 8 then ((Ja k k a1 ((List.replicate a0.toNat (0:Int)).length:Int) 0 (List.replicate a0.toNat (0:Int))).bind fun z=>
  some z)
 else none
abbrev YA:Type:=Int→Int→Int→Int→EQ→Option EQ
def Ed (k:Nat)(rec:YA)(s0 s1 bz bC:Int)(m0:EQ):Option EQ:=
 bif decide (bC < bz) then ((AB k s0 s1).bind fun x1=>
  bif zB bC m0.length then(rec s0 s1 bz (zA (bC+1)) (m0.set bC.toNat x1))
  else none)
 else some m0
def Jb (k:Nat):Nat→YA
 |0,_,_,_,_,_=>none
 |n+1,s0,s1,bz,bC,m0=>Ed k (Jb k n) s0 s1 bz bC m0
def Ec (k:Nat)(a0 a1:Int):Option EQ:=
 (I9 k a0).bind fun x0=>
 bif !x0 then some []
 else bif o0 a0 a0 24 then ((Jb k k a0 a1 ((List.replicate a0.toNat ([]:AC)).length:Int) 0 (List.replicate a0.toNat ([]:AC))).bind fun z=>
  some z)
 else none
abbrev YF:Type:=Int×yZ×yF×yF×(List zI)×EQ×AC×EQ×AC
abbrev YE:Type:=Int→List wJ→Int→Int→yZ→yF→yF→List zI→EQ→AC→EQ→AC→Option YF
def yVr (k:Nat)(rec:YE)(s3:Int)(cJ:List wJ)(s21 Q5:Int)(b0:yZ)(b1 b2:yF)(r3:List zI)(m4:EQ)(r5:AC)(m6:EQ)(r7:AC):Option YF:=
 bif decide (Q5 < s21) then (bif zB Q5 cJ.length then (bif zN (r7.length+1) 8 then(rec s3 cJ s21 (zA (Q5+1)) b0 b1 b2 r3 m4 r5 m6 (r7++[(cJ.getD Q5.toNat (0,0)).1]))
   else none)
  else none)
 else some (s3,b0,b1,b2,r3,m4,r5,m6,r7)
def YG (k:Nat):Nat→YE:=qZ (fun _ _ _ _ _ _ _ _ _ _ _ _=>none) (yVr k)
abbrev YI:Type:=yF×yF×(List zI)×EQ×AC×EQ×AC×EQ
abbrev YH:Type:=Int→Int→yZ→yF→yF→List zI→EQ→AC→EQ→AC→EQ→Option YI
def yOh (k:Nat)(rec:YH)(BQ sg:Int)(b0:yZ)(b1 b2:yF)(r3:List zI)(m4:EQ)(r5:AC)(m6:EQ)(r7:AC)(m8:EQ):Option YI:=
 bif decide (sg < BQ) then (bif o0 (b0.2.1.length : Int) (b0.2.1.length : Int) 8 then (bif zN (m8.length+1) 24 then(rec BQ (zA (sg+1)) b0 b1 b2 r3 m4 r5 m6 r7 (m8++[(List.replicate b0.2.1.length (0:Int))]))
   else none)
  else none)
 else some (b1,b2,r3,m4,r5,m6,r7,m8)
def YJ (k:Nat):Nat→YH:=qZ (fun _ _ _ _ _ _ _ _ _ _ _=>none) (yOh k)
def uf (k:Nat)(a0:yZ):Option yA:=
 bif o0 a0.1 a0.1 24 then ((Ec k a0.1 (-1)).bind fun x0=>
  (AB k a0.1 (-1)).bind fun x1=>
  (Ec k a0.1 0).bind fun x2=>
  (YG k k a0.1 a0.2.1 (a0.2.1.length:Int) 0 a0 (0,0,false) (0,0,false) (List.replicate a0.1.toNat ((0,0,0):Int×Int×Int)) x0 x1 x2 []).bind fun z=>
  (YJ k k z.1 0 z.2.1 z.2.2.1 z.2.2.2.1 z.2.2.2.2.1 z.2.2.2.2.2.1 z.2.2.2.2.2.2.1 z.2.2.2.2.2.2.2.1 z.2.2.2.2.2.2.2.2 []).bind fun z1=>
  some (z1.2.1.1,(yN6 z1 ([],[],z1.2.1.2))))
 else none
def Nf (k:Nat)(a0:Bool):Option Int:=
 bif a0 then some 1
 else some 0
abbrev YP:Type:=AC×Int×Int×AC
abbrev YN:Type:=Int→Int→AC→Int→Int→AC→Option YP
def Nb (k:Nat)(rec:YN)(s5 s6:Int)(aN:AC)(de bz:Int)(r0:AC):Option YP:=
 bif decide (s6 ≥ 0) then (bif !(decide ((zA (8 * s6)) < 0)) then (bif zN (r0.length+1) 1 then(rec s5 (zA (s6-1)) aN de bz (r0++[(IntKind.wrap .u8 ((shr .i64 s5 (zA (8*s6)))))]))
   else none)
  else none)
 else some (aN,de,bz,r0)
def vv (k:Nat):Nat→YN:=qZ (fun _ _ _ _ _ _=>none) (Nb k)
abbrev YQ:Type:=AC→Int→Int→AC→Option AC
def Dn (k:Nat)(rec:YQ)(aN:AC)(de bz:Int)(r0:AC):Option AC:=
 bif decide (bz < de) then (bif zB bz aN.length then ((vv k k (aN.getD bz.toNat 0) 7 aN de bz r0).bind fun z=>
   rec z.1 z.2.1 (zA (z.2.2.1+1)) z.2.2.2)
  else none)
 else some r0
def zy (k:Nat):Nat→YQ:=qZ (fun _ _ _ _=>none) (Dn k)
def vw (k:Nat)(a0:AC):Option AC:=
 bif o0 0 (zA (8 * (a0.length : Int))) 1 then ((zy k k a0 (a0.length:Int) 0 []).bind fun z1=>
  some z1)
 else none
def Nc (k:Nat)(a0:AC):Option AC:=
 (vw k [(a0.length:Int)]).bind fun x0=>
 (vw k a0).bind fun x1=>
 bif zN (x0.length+x1.length) 1 then some (x0++x1)
 else none
abbrev YU:Type:=EQ→Int→Int→AC→Option AC
def Ds (k:Nat)(rec:YU)(s6:EQ)(s7 s8:Int)(r0:AC):Option AC:=
 bif decide (s8 < s7) then (bif zB s8 s6.length then ((Nc k (s6.getD s8.toNat [])).bind fun x0=>
   bif zN (r0.length+x0.length) 1 then(rec s6 s7 (zA (s8+1)) (r0++x0))
   else none)
  else none)
 else some r0
def Dr (k:Nat):Nat→YU:=qZ (fun _ _ _ _=>none) (Ds k)
def IB (k:Nat)(a0:EQ):Option AC:=
 (Dr k k a0 (a0.length:Int) 0 []).bind fun z=>
 some z
abbrev YY:Type:=yA×xR×EQ
abbrev YX:Type:=List zI→Int→Int→yA→xR→EQ→Option YY
def Dt (k:Nat)(rec:YX)(kY:List zI)(gk iL:Int)(b0:yA)(b1:xR)(r2:EQ):Option YY:=
 bif decide (iL < gk) then (bif zB iL kY.length then (bif zN (r2.length + 1) 24 then (let y0:EQ:=(r2++[[(kY.getD iL.toNat (0,0,0)).1,(kY.getD iL.toNat (0,0,0)).2.1,(kY.getD iL.toNat (0,0,0)).2.2]])
    rec kY gk (zA (iL+1)) b0 b1 y0)
   else none)
  else none)
 else some (b0,b1,r2)
def zz (k:Nat):Nat→YX:=qZ (fun _ _ _ _ _ _=>none) (Dt k)
abbrev Y0:Type:=yA×EQ
abbrev YZ:Type:=List zC→Int→Int→yA→EQ→Option Y0
def Du (k:Nat)(rec:YZ)(uq:List zC)(s80 si:Int)(b0:yA)(r1:EQ):Option Y0:=
 bif decide (si < s80) then (bif zB si uq.length then (bif zN (r1.length + 1) 24 then (let y3:EQ:=(r1++[[(uq.getD si.toNat (0,0,0,0,0,0,0)).1,(uq.getD si.toNat (0,0,0,0,0,0,0)).2.1,(uq.getD si.toNat (0,0,0,0,0,0,0)).2.2.1,(uq.getD si.toNat (0,0,0,0,0,0,0)).2.2.2.1,(uq.getD si.toNat (0,0,0,0,0,0,0)).2.2.2.2.1,(uq.getD si.toNat (0,0,0,0,0,0,0)).2.2.2.2.2.1,(uq.getD si.toNat (0,0,0,0,0,0,0)).2.2.2.2.2.2]])
    rec uq s80 (zA (si+1)) b0 y3)
   else none)
  else none)
 else some (b0,r1)
def z9 (k:Nat):Nat→YZ:=qZ (fun _ _ _ _ _=>none) (Du k)
def mo (k:Nat)(a0:yA):Option AC:=
 (Nf k a0.2.2.2.2.2.2.2.2.2.2).bind fun x0=>
 (zz k k a0.2.1 (a0.2.1.length:Int) 0 a0 (GZ a0) [[a0.1,a0.2.2.2.2.2.2.2.2.2.1,x0,(a0.2.1.length:Int),(a0.2.2.1.length:Int),(a0.2.2.2.1.length:Int),(a0.2.2.2.2.1.length:Int),(a0.2.2.2.2.2.2.1.length:Int),(a0.2.2.2.2.2.2.2.1.length:Int)]]).bind fun z=>
 bif zN (z.2.2.length + z.2.1.2.1.length) 24 then (bif zN ((z.2.2 ++ z.2.1.2.1).length + 1) 24 then (let y1:EQ:=((z.2.2++z.2.1.2.1)++[z.2.1.2.2.1])
   bif zN (y1.length + z.2.1.2.2.2.length) 24 then (bif zN ((y1 ++ z.2.1.2.2.2).length + 1) 24 then (let y2:EQ:=((y1++z.2.1.2.2.2)++[z.1.2.2.2.2.2.1])
     bif zN (y2.length + z.1.2.2.2.2.2.2.1.length) 24 then ((z9 k k z.1.2.2.2.2.2.2.2.1 (z.1.2.2.2.2.2.2.2.1.length:Int) 0 z.1 (y2++z.1.2.2.2.2.2.2.1)).bind fun z1=>
      bif zN (z1.2.length + 1) 24 then (let y4:EQ:=(z1.2++[z1.1.2.2.2.2.2.2.2.2.1])
       (IB k y4).bind fun x1=>
       some x1)
      else none)
     else none)
    else none)
   else none)
  else none)
 else none
def Iz (k:Nat)(a0:AC):Option wS:=
 bif decide ((a0.length:Int)>60000) then some ([],false)
 else bif zN (2+a0.length) 1 then some (([(IntKind.wrap .u8 ((shr .i64 (a0.length:Int) 8))),(IntKind.wrap .u8 ((a0.length:Int)))]++a0),true)
 else none
def Yg (k:Nat)(a0:wC):Option Int:=
 some a0.1
def P0 (k:Nat)(a0:wC):Option Bool:=
 some a0.2.2.2.2.2.2.2.2.1
def K7 (k:Nat)(a0:wC):Option (Bool×wC):=
 bif !a0.2.2.2.2.2.2.2.1 then some (false,(qW7 a0 (zA (a0.2.2.2.2.2.2.2.2.2+1))))
 else bif decide (a0.2.2.2.2.2.2.2.2.2<a0.2.2.2.2.2.1) then some (false,(qW7 a0 (zA (a0.2.2.2.2.2.2.2.2.2+1))))
 else bif (decide (0 ≤ (zA (a0.2.2.1 + (wU true (wU false a0.2.2.2.2.2.2.1 0) (zA ((a0.2.1.length : Int) - a0.2.2.1))))))) && (decide ((zA (a0.2.2.1 + (wU true (wU false a0.2.2.2.2.2.2.1 0) (zA ((a0.2.1.length : Int) - a0.2.2.1))))) ≤ (a0.2.1.length : Int))) then (bif (decide (0≤(zA (a0.2.2.2.2.1+(wU true (zA ((wU false a0.2.2.2.2.2.2.1 0)-(wU true (wU false a0.2.2.2.2.2.2.1 0) (zA ((a0.2.1.length:Int)-a0.2.2.1))))) (zA ((a0.2.2.2.1.length:Int)-a0.2.2.2.2.1)))))))&&(decide ((zA (a0.2.2.2.2.1+(wU true (zA ((wU false a0.2.2.2.2.2.2.1 0)-(wU true (wU false a0.2.2.2.2.2.2.1 0) (zA ((a0.2.1.length:Int)-a0.2.2.1))))) (zA ((a0.2.2.2.1.length:Int)-a0.2.2.2.2.1)))))≤(a0.2.2.2.1.length:Int))) then some (true,a0.1,(List.take ((zA (a0.2.2.1+(wU true (wU false a0.2.2.2.2.2.2.1 0) (zA ((a0.2.1.length:Int)-a0.2.2.1))))).toNat-0) a0.2.1),(zA (a0.2.2.1+(wU true (wU false a0.2.2.2.2.2.2.1 0) (zA ((a0.2.1.length:Int)-a0.2.2.1))))),(List.take ((zA (a0.2.2.2.2.1+(wU true (zA ((wU false a0.2.2.2.2.2.2.1 0)-(wU true (wU false a0.2.2.2.2.2.2.1 0) (zA ((a0.2.1.length:Int)-a0.2.2.1))))) (zA ((a0.2.2.2.1.length:Int)-a0.2.2.2.2.1))))).toNat-0) a0.2.2.2.1),(zA (a0.2.2.2.2.1+(wU true (zA ((wU false a0.2.2.2.2.2.2.1 0)-(wU true (wU false a0.2.2.2.2.2.2.1 0) (zA ((a0.2.1.length:Int)-a0.2.2.1))))) (zA ((a0.2.2.2.1.length:Int)-a0.2.2.2.2.1))))),a0.2.2.2.2.2.1,a0.2.2.2.2.2.2.1,a0.2.2.2.2.2.2.2.1,true,a0.2.2.2.2.2.2.2.2.2)
  else none)
 else none
def UE (k:Nat)(a0:wC)(a1:Int):Option (Int×wC):=
 (P0 k a0).bind fun x0=>
 bif x0 then some (11,a0)
 else(PQ k a1).bind fun x1=>
 bif !x1 then some (1,a0)
 else(K7 k a0).bind fun x2=>
 bif x2.1 then some (11,x2.2)
 else bif decide (a1 = 0) then (bif decide (a1=0) then some (0,x2.2.1,[],0,x2.2.2.2.2)
  else bif decide (a1=1) then some (0,x2.2.1,[],x2.2.2.2.1,x2.2.2.2.2.1,0,x2.2.2.2.2.2.2)
  else none)
 else bif decide (a1 = 1) then (bif decide (a1=0) then some (0,x2.2.1,x2.2.2.1,0,[],x2.2.2.2.2.2)
  else bif decide (a1=1) then some (0,x2.2.1,x2.2.2.1,x2.2.2.2.1,[],0,x2.2.2.2.2.2.2)
  else none)
 else none
def tw (k:Nat)(a0:wC)(a1:Int)(a2:AC):Option (Int×wC):=
 (P0 k a0).bind fun x0=>
 bif x0 then some (11,a0)
 else(PQ k a1).bind fun x1=>
 bif !x1 then some (1,a0)
 else bif decide (a1 = 0) then (bif decide ((a2.length:Int)>(zA (a0.1-(a0.2.1.length:Int)))) then some (3,a0)
  else(K7 k a0).bind fun x2=>
  bif x2.1 then some (11,x2.2)
  else bif decide (a1 = 0) then (bif zN (x2.2.2.1.length+a2.length) 1 then some (0,x2.2.1,(x2.2.2.1++a2),x2.2.2.2)
   else none)
  else bif decide (a1 = 1) then (bif zN (x2.2.2.2.2.1.length+a2.length) 1 then some (0,x2.2.1,x2.2.2.1,x2.2.2.2.1,(x2.2.2.2.2.1++a2),x2.2.2.2.2.2)
   else none)
  else none)
 else bif decide (a1 = 1) then (bif decide ((a2.length:Int)>(zA (a0.1-(a0.2.2.2.1.length:Int)))) then some (3,a0)
  else(K7 k a0).bind fun x3=>
  bif x3.1 then some (11,x3.2)
  else bif decide (a1 = 0) then (bif zN (x3.2.2.1.length+a2.length) 1 then some (0,x3.2.1,(x3.2.2.1++a2),x3.2.2.2)
   else none)
  else bif decide (a1 = 1) then (bif zN (x3.2.2.2.2.1.length+a2.length) 1 then some (0,x3.2.1,x3.2.2.1,x3.2.2.2.1,(x3.2.2.2.2.1++a2),x3.2.2.2.2.2)
   else none)
  else none)
 else none
def Y6 (k:Nat)(a0:wC):Option (Int×wC):=
 (P0 k a0).bind fun x0=>
 bif x0 then some (11,a0)
 else(K7 k a0).bind fun x1=>
 bif x1.1 then some (11,x1.2)
 else some (0,x1.2.1,x1.2.2.1,(x1.2.2.1.length:Int),x1.2.2.2.2.1,(x1.2.2.2.2.1.length:Int),x1.2.2.2.2.2.2)
def PJ (k:Nat)(a0:wC)(a1 a2:Int)(a3:AC):Option (Int×wC):=
 (vw k [a2]).bind fun x0=>
 bif zN (x0.length + a3.length) 1 then ((Iz k (x0++a3)).bind fun x1=>
  bif !x1.2 then some (10,a0)
  else bif decide (a2>4611686018427387904) then some (10,a0)
  else(Yg k a0).bind fun x2=>
  bif decide ((x1.1.length:Int)>x2) then some (10,a0)
  else(UE k a0 a1).bind fun x3=>
  bif !(decide (x3.1=0)) then some (x3.1,x3.2)
  else(tw k x3.2 a1 x1.1).bind fun x4=>
  bif !(decide (x4.1=0)) then some (x4.1,x4.2)
  else(Y6 k x4.2).bind fun x5=>
  some (x5.1,x5.2))
 else none
def PD (k:Nat)(a0:wC)(a1:AC):Option ((AC×EQ×Int×wC×iH)⊕(AC×EQ×Int×wC)):=
 (KY k a0).bind fun x0=>
 bif x0.2.2.2.2 then some (.inl (x0.2.2.1,x0.2.2.2.1,0,a0,x0.2.1,x0.1,(x0.2.2.2.1.length:Int),true))
 else(PJ k a0 0 1 a1).bind fun x1=>
 bif !(decide (x1.1=0)) then some (.inr ([],[],x1.1,x1.2))
 else bif zN (0+a1.length) 1 then some (.inl (a1,[],0,x1.2,0,1,0,false))
 else none
def Ng (k:Nat)(a0:AC):Option (AC×AC×Bool):=
 bif decide ((a0.length:Int)<8) then some ([],[],false)
 else bif decide (8 ≤ (a0.length : Int)) then ((rF k (List.take 8 a0)).bind fun x0=>
  bif decide (8 ≤ (a0.length : Int)) then (bif zB 0 x0.1.length then (bif decide ((x0.1.getD 0 0)<0) then some ([],[],false)
    else bif zB 0 x0.1.length then (bif decide ((x0.1.getD 0 0)>(zA (Int.tdiv ((List.drop 8 a0).length:Int) 8))) then some ([],[],false)
     else bif zB 0 x0.1.length then (bif (decide (0 ≤ (zA (8 * (x0.1.getD 0 0))))) && (decide ((zA (8 * (x0.1.getD 0 0))) ≤ ((List.drop 8 a0).length : Int))) then ((rF k (List.take (zA (8*(x0.1.getD 0 0))).toNat (List.drop 8 a0))).bind fun x1=>
       bif (decide (0≤(zA (8*(x0.1.getD 0 0)))))&&(decide ((zA (8*(x0.1.getD 0 0)))≤((List.drop 8 a0).length:Int))) then some (x1.1,(List.drop (zA (8*(x0.1.getD 0 0))).toNat (List.drop 8 a0)),true)
       else none)
      else none)
     else none)
    else none)
   else none)
  else none)
 else none
def xc (k:Nat)(a0:wS):Option (AC×wS):=
 (Ng k a0.1).bind fun x0=>
 bif a0.2 then some (x0.1,x0.2.1,true)
 else some (x0.1,x0.2.1,(!x0.2.2))
def FA (k:Nat)(a0:wS)(a1:Int):Option (AC×wS):=
 (xc k a0).bind fun x0=>
 bif !(decide ((x0.1.length : Int) = a1)) then (bif o0 a1 a1 8 then some ((List.replicate a1.toNat (0:Int)),x0.2.1,true)
  else none)
 else some (x0.1,x0.2)
abbrev Zb:Type:=wS×EQ
abbrev Y9:Type:=Int→wS→EQ→Option Zb
def OI (k:Nat)(rec:Y9)(s1:Int)(b0:wS)(r1:EQ):Option Zb:=
 bif decide (s1 > 0) then (bif !b0.2 then ((xc k b0).bind fun x0=>
   bif zN (r1.length+1) 24 then(rec (zA (s1-1)) x0.2 (r1++[x0.1]))
   else none)
  else some (b0,r1))
 else some (b0,r1)
def J1 (k:Nat):Nat→Y9:=qZ (fun _ _ _=>none) (OI k)
def FB (k:Nat)(a0:wS)(a1:Int):Option (EQ×wS):=
 (J1 k k a1 a0 []).bind fun z=>
 some (z.2,z.1)
def WA (k:Nat)(a0 a1:AC):Option Bool:=
 some (qa a0 a1)
abbrev Zf:Type:=AC×yF×wS×AC×yF×(List zI)
abbrev Ze:Type:=AC→Int→yF→wS→AC→yF→List zI→Option Zf
def OJ (k:Nat)(rec:Ze)(s0:AC)(s7:Int)(b0:yF)(b1:wS)(r2:AC)(b3:yF)(r4:List zI):Option Zf:=
 bif decide (s7 > 0) then (bif !b1.2 then ((FA k b1 3).bind fun x1=>
   bif zB 0 x1.1.length then (bif zB 1 x1.1.length then (bif zB 2 x1.1.length then (bif zN (r4.length + 1) 24 then (let y0:List zI:=(r4++[((x1.1.getD 0 0),(x1.1.getD 1 0),(x1.1.getD 2 0))])
       rec s0 (zA (s7-1)) b0 x1.2 r2 b3 y0)
      else none)
     else none)
    else none)
   else none)
  else some (s0,b0,b1,r2,b3,r4))
 else some (s0,b0,b1,r2,b3,r4)
def FC (k:Nat):Nat→Ze:=qZ (fun _ _ _ _ _ _ _=>none) (OJ k)
abbrev Zh:Type:=AC×yF×wS×yF×(List zI)×EQ×AC×EQ×AC×EQ×(List zC)
abbrev Zg:Type:=AC→Int→yF→wS→yF→List zI→EQ→AC→EQ→AC→EQ→List zC→Option Zh
def OK (k:Nat)(rec:Zg)(s0:AC)(s9:Int)(b0:yF)(b1:wS)(b2:yF)(r3:List zI)(r4:EQ)(r5:AC)(r6:EQ)(r7:AC)(r8:EQ)(r9:List zC):Option Zh:=
 bif decide (s9 > 0) then (bif !b1.2 then ((FA k b1 7).bind fun x7=>
   bif zB 0 x7.1.length then (bif zB 1 x7.1.length then (bif zB 2 x7.1.length then (bif zB 3 x7.1.length then (bif zB 4 x7.1.length then (bif zB 5 x7.1.length then (bif zB 6 x7.1.length then (bif zN (r9.length + 1) 56 then (let y1:List zC:=(r9++[((x7.1.getD 0 0),(x7.1.getD 1 0),(x7.1.getD 2 0),(x7.1.getD 3 0),(x7.1.getD 4 0),(x7.1.getD 5 0),(x7.1.getD 6 0))])
           rec s0 (zA (s9-1)) b0 x7.2 b2 r3 r4 r5 r6 r7 r8 y1)
          else none)
         else none)
        else none)
       else none)
      else none)
     else none)
    else none)
   else none)
  else some (s0,b0,b1,b2,r3,r4,r5,r6,r7,r8,r9))
 else some (s0,b0,b1,b2,r3,r4,r5,r6,r7,r8,r9)
def FD (k:Nat):Nat→Zg:=qZ (fun _ _ _ _ _ _ _ _ _ _ _ _=>none) (OK k)
def J2 (k:Nat)(a0:AC):Option (yA×Bool):=
 (FA k (a0,false) 9).bind fun x0=>
 bif zB 0 x0.1.length then (bif zB 1 x0.1.length then (bif zB 2 x0.1.length then (bif zB 3 x0.1.length then ((FC k k a0 (x0.1.getD 3 0) (0,0,false) x0.2 x0.1 ((x0.1.getD 0 0),(x0.1.getD 1 0),(decide ((x0.1.getD 2 0)=1))) []).bind fun z=>
     bif zB 4 z.2.2.2.1.length then ((FB k z.2.2.1 (z.2.2.2.1.getD 4 0)).bind fun x2=>
      (xc k x2.2).bind fun x3=>
      bif zB 6 z.2.2.2.1.length then ((FB k x3.2 (z.2.2.2.1.getD 6 0)).bind fun x4=>
       (xc k x4.2).bind fun x5=>
       bif zB 7 z.2.2.2.1.length then ((FB k x5.2 (z.2.2.2.1.getD 7 0)).bind fun x6=>
        bif zB 8 z.2.2.2.1.length then ((FD k k z.1 (z.2.2.2.1.getD 8 0) z.2.1 x6.2 z.2.2.2.2.1 z.2.2.2.2.2 x2.1 x3.1 x4.1 x5.1 x6.1 []).bind fun z1=>
         (xc k z1.2.2.1).bind fun x8=>
         bif x8.2.2 then some ((0,[],[],[],[],[],[],[],[],0,false),false)
         else(mo k (z1.2.2.2.1.1,(Lf z1 (x8.1,z1.2.2.2.1.2)))).bind fun x9=>
         (WA k x9 z1.1).bind fun cm=>
         bif !cm then some ((0,[],[],[],[],[],[],[],[],0,false),false)
         else some ((z1.2.2.2.1.1,(Lf z1 (x8.1,z1.2.2.2.1.2))),true))
        else none)
       else none)
      else none)
     else none)
    else none)
   else none)
  else none)
 else none
def tv (k:Nat)(a0:Int):Option Int:=
 bif decide (a0=9) then some 0
 else bif decide (a0=13) then some 0
 else bif decide (a0=14) then some 0
 else bif decide (a0=15) then some 0
 else bif decide (a0=2) then some 1
 else bif decide (a0=6) then some 1
 else bif decide (a0=7) then some 1
 else bif decide (a0=16) then some 1
 else bif decide (a0=19) then some 1
 else bif decide (a0=20) then some 1
 else bif decide (a0=21) then some 1
 else bif decide (a0=22) then some 1
 else bif decide (a0=23) then some 1
 else bif decide (a0=3) then some 2
 else bif decide (a0=4) then some 2
 else bif decide (a0=5) then some 2
 else bif decide (a0=8) then some 2
 else bif decide (a0=10) then some 2
 else bif decide (a0=11) then some 2
 else bif decide (a0=12) then some 2
 else bif decide (a0=18) then some 4
 else bif decide (a0=17) then some 5
 else bif decide (a0=1) then some 6
 else some (-1)
def Dh (k:Nat)(a0:AC):Option (zC×Int):=
 bif decide ((a0.length:Int)=0) then some ((0,0,0,0,0,0,0),2)
 else bif decide (1 ≤ (a0.length : Int)) then ((rF k (List.drop 1 a0)).bind fun x0=>
  bif !(decide (x0.2=0)) then some ((0,0,0,0,0,0,0),2)
  else bif zB 0 a0.length then ((tv k (zA ((a0.getD 0 0)))).bind fun x1=>
   bif !(decide ((x0.1.length:Int)=x1)) then some ((0,0,0,0,0,0,0),2)
   else bif zB 0 a0.length then some (((zA ((a0.getD 0 0))),(bif (Nat.blt 0 x0.1.length) then(x0.1.getD 0 0) else 0),(bif (Nat.blt 1 x0.1.length) then(x0.1.getD 1 0) else 0),(bif (Nat.blt 2 x0.1.length) then(x0.1.getD 2 0) else 0),(bif (Nat.blt 3 x0.1.length) then(x0.1.getD 3 0) else 0),(bif (Nat.blt 4 x0.1.length) then(x0.1.getD 4 0) else 0),(bif (Nat.blt 5 x0.1.length) then(x0.1.getD 5 0) else 0)),0)
   else none)
  else none)
 else none
def rT (k:Nat)(a0:AC):Option (qQ×Int):=
 bif decide ((a0.length:Int)<8) then some ((0,0,0,0,0,0,0,0),2)
 else bif decide (8 ≤ (a0.length : Int)) then ((rF k (List.take 8 a0)).bind fun x0=>
  bif decide (8 ≤ (a0.length : Int)) then ((Dh k (List.drop 8 a0)).bind fun x1=>
   bif !(decide (x1.2=0)) then some ((0,0,0,0,0,0,0,0),2)
   else bif zB 0 x0.1.length then some (((x0.1.getD 0 0),x1.1),0)
   else none)
  else none)
 else none
def OH (k:Nat)(a0:Int):Option Bool:=
 bif decide (a0≥10) then some (decide (a0≤14))
 else some false
def JZ (k:Nat)(a0:Int):Option Bool:=
 bif decide (a0≥1) then some (decide (a0≤14))
 else some false
abbrev Zn:Type:=AC→Int→Int→Option (Unit⊕Bool)
def oE (k:Nat)(rec:Zn)(bz:AC)(bC aP:Int):Option (Unit⊕Bool):=
 bif decide (aP < bC) then (bif zB aP bz.length then (bif !(decide ((bz.getD aP.toNat 0)=0)) then some (.inr false)
   else rec bz bC (zA (aP+1)))
  else none)
 else some (.inl ())
def mD (k:Nat):Nat→Zn:=qZ (fun _ _ _=>none) (oE k)
def nr (k:Nat)(a0:zC):Option Bool:=
 (tv k a0.1).bind fun x0=>
 bif decide (x0<0) then some false
 else bif (decide (0 ≤ x0)) && (decide (x0 ≤ 6)) then ((mD k k (qR [a0.2.1,a0.2.2.1,a0.2.2.2.1,a0.2.2.2.2.1,a0.2.2.2.2.2.1,a0.2.2.2.2.2.2] x0.toNat (6-x0.toNat)) ((qR [a0.2.1,a0.2.2.1,a0.2.2.2.1,a0.2.2.2.2.1,a0.2.2.2.2.2.1,a0.2.2.2.2.2.2] x0.toNat (6-x0.toNat)).length:Int) 0).bind fun z=>
  match z with
  |.inl z1=>some true
  |.inr z2=>some z2)
 else none
def w9 (k:Nat)(a0:yZ)(a1:yA)(a2:qQ):Option Int:=
 (OH k a2.2.1).bind fun x0=>
 bif decide (a2.1 ≥ 0) then ((JZ k a2.2.1).bind fun x1=>
  bif !x1 then some 5
  else(nr k a2.2).bind fun x2=>
  bif !x2 then some 5
  else bif x0 then (bif !(decide (a2.1=(-1))) then some 5
   else bif !x0 then (bif !(decide (a2.1<a0.1)) then some 5
    else bif a1.2.2.2.2.2.2.2.2.2.2 then (bif !(decide (a2.2.1=9)) then some 7
     else some 0)
    else some 0)
   else bif a1.2.2.2.2.2.2.2.2.2.2 then (bif !(decide (a2.2.1=9)) then some 7
    else some 0)
   else some 0)
  else bif !x0 then (bif !(decide (a2.1<a0.1)) then some 5
   else bif a1.2.2.2.2.2.2.2.2.2.2 then (bif !(decide (a2.2.1=9)) then some 7
    else some 0)
   else some 0)
  else bif a1.2.2.2.2.2.2.2.2.2.2 then (bif !(decide (a2.2.1=9)) then some 7
   else some 0)
  else some 0)
 else(JZ k a2.2.1).bind fun x3=>
 bif !x3 then some 5
 else(nr k a2.2).bind fun x4=>
 bif !x4 then some 5
 else bif x0 then (bif !(decide (a2.1=(-1))) then some 5
  else bif !x0 then some 5
  else bif a1.2.2.2.2.2.2.2.2.2.2 then (bif !(decide (a2.2.1=9)) then some 7
   else some 0)
  else some 0)
 else bif !x0 then some 5
 else bif a1.2.2.2.2.2.2.2.2.2.2 then (bif !(decide (a2.2.1=9)) then some 7
  else some 0)
 else some 0
def Wg (k:Nat)(ca bc bB cq bM bX bO a1:Int):Option Bool:=
 some (decide (bc=a1))
abbrev Zs:Type:=List zC
abbrev Zq:Type:=List zC→Int→Int→Int→List zC→Option Zs
def Fc (k:Nat)(rec:Zq)(s8:List zC)(s9 aw af:Int)(r1:List zC):Option Zs:=
 bif decide (aw < s9) then (bif zB aw s8.length then ((Wg k (s8.getD aw.toNat (0,0,0,0,0,0,0)).1 (s8.getD aw.toNat (0,0,0,0,0,0,0)).2.1 (s8.getD aw.toNat (0,0,0,0,0,0,0)).2.2.1 (s8.getD aw.toNat (0,0,0,0,0,0,0)).2.2.2.1 (s8.getD aw.toNat (0,0,0,0,0,0,0)).2.2.2.2.1 (s8.getD aw.toNat (0,0,0,0,0,0,0)).2.2.2.2.2.1 (s8.getD aw.toNat (0,0,0,0,0,0,0)).2.2.2.2.2.2 af).bind fun x0=>
   bif x0 then (bif zN (r1.length + 1) 56 then (let y0:List zC:=(r1++[(s8.getD aw.toNat (0,0,0,0,0,0,0))])
     rec s8 s9 (zA (aw+1)) af y0)
    else none)
   else rec s8 s9 (zA (aw+1)) af r1)
  else none)
 else some r1
def JO (k:Nat):Nat→Zq
 |0,_,_,_,_,_=>none
 |n+1,s8,s9,aw,af,r1=>Fc k (JO k n) s8 s9 aw af r1
def We (k:Nat)(a0:List zC)(cU:Int):Option (List zC):=
 (JO k k a0 (a0.length:Int) 0 cU []).bind fun z=>
 some z
def JN (k:Nat)(a0:List zC)(a1:Int):Option (List zC):=
 (We k a0 a1).bind fun x0=>
 some x0
def yD4 (k:Nat)(a0:(Int×Int×Int×Int×Int×Int×Bool×Int))(a1:Int)(a2:AC):Option jM:=
 some (a0.1,[],(ij a0 ([],[],[],[],[],[],[],[],a0.2.2.2.2.2.1,a0.2.2.2.2.2.2.1,a0.2.2.2.2.2.2.2,[(a0.2.2.2.2.2.2.2,a1,(bif (Nat.blt 0 a2.length) then(a2.getD 0 0) else 0),(bif (Nat.blt 1 a2.length) then(a2.getD 1 0) else 0),(bif (Nat.blt 2 a2.length) then(a2.getD 2 0) else 0),(bif (Nat.blt 3 a2.length) then(a2.getD 3 0) else 0),(bif (Nat.blt 4 a2.length) then(a2.getD 4 0) else 0),(bif (Nat.blt 5 a2.length) then(a2.getD 5 0) else 0))])))
def Pq (k:Nat)(a0:yA)(a1:Int):Option (List qQ):=
 bif zB a1 a0.2.1.length then ((JN k a0.2.2.2.2.2.2.2.1 a1).bind fun x0=>
  (yD4 k (0,0,0,0,0,0,false,a1) 17 [(a0.2.1.getD a1.toNat (0,0,0)).1,(a0.2.1.getD a1.toNat (0,0,0)).2.1,(a0.2.1.getD a1.toNat (0,0,0)).2.2,(x0.length:Int),a0.1]).bind fun x1=>
  some x1.2.2.2.2.2.2.2.2.2.2.2.2.2.2.2.2.2)
 else none
def Pr (k:Nat)(a0:kX)(a1:Int)(a2:AC):Option jM:=
 some (vO a0 [(a0.2.2.2.2.2.2.2.2.2.2.2.2.2.2.2.2,a1,(bif (Nat.blt 0 a2.length) then(a2.getD 0 0) else 0),(bif (Nat.blt 1 a2.length) then(a2.getD 1 0) else 0),(bif (Nat.blt 2 a2.length) then(a2.getD 2 0) else 0),(bif (Nat.blt 3 a2.length) then(a2.getD 3 0) else 0),(bif (Nat.blt 4 a2.length) then(a2.getD 4 0) else 0),(bif (Nat.blt 5 a2.length) then(a2.getD 5 0) else 0))])
def vH (k:Nat)(a0 a1 a2:Int):Option Bool:=
 bif decide (a0≥a1) then some (decide (a0≤a2))
 else some false
def JW (k:Nat)(a0:yZ)(a1:Int):Option Bool:=
 bif decide (a1≥0) then some (decide (a1<a0.1))
 else some false
def OC (k:Nat)(a0:yZ)(a1:Int)(a2:zC):Option Bool:=
 (JW k a0 a2.2.1).bind fun x0=>
 bif x0 then ((JW k a0 a2.2.2.1).bind fun x1=>
  bif x1 then (bif decide (a2.1 ≥ 1) then (bif decide (a2.2.2.2.1 ≥ 1) then (bif decide (a2.2.2.2.1 ≤ 1099511627776) then (bif decide (a2.2.2.2.2.1 ≥ 1) then (bif !(decide (a2.2.1 = a2.2.2.1)) then (bif decide (a2.2.2.2.2.1 ≤ 3) then (bif decide (a2.2.2.2.2.2.1 ≥ 0) then (bif decide (a2.2.2.2.2.2.1 ≤ a2.2.2.2.2.2.2) then (bif decide (a2.2.2.2.2.2.2≥a1) then some (decide (a2.2.2.2.2.2.2≤1048576))
           else some false)
          else some false)
         else some false)
        else some false)
       else some false)
      else bif !(decide (a2.2.1=a2.2.2.1)) then some false
      else some false)
     else bif !(decide (a2.2.1=a2.2.2.1)) then some false
     else some false)
    else bif !(decide (a2.2.1=a2.2.2.1)) then some false
    else some false)
   else bif !(decide (a2.2.1=a2.2.2.1)) then some false
   else some false)
  else bif decide (a2.1 ≥ 1) then (bif decide (a2.2.2.2.1 ≥ 1) then (bif decide (a2.2.2.2.1 ≤ 1099511627776) then (bif decide (a2.2.2.2.2.1≥1) then some false
     else some false)
    else some false)
   else some false)
  else some false)
 else bif decide (a2.1 ≥ 1) then (bif decide (a2.2.2.2.1 ≥ 1) then (bif decide (a2.2.2.2.1 ≤ 1099511627776) then (bif decide (a2.2.2.2.2.1≥1) then some false
    else some false)
   else some false)
  else some false)
 else some false
def AZ (k:Nat)(a0:yZ)(a1 a2:Int):Option Int:=
 bif decide (a1≥a0.2.2.2.1) then some 7
 else bif decide (a2 = 3) then (bif decide (a1≥a0.2.2.1) then some 7
  else some 0)
 else some 0
def Fx (k:Nat)(a0:yZ)(a1:Int)(a2:zC):Option Int:=
 (OC k a0 a1 a2).bind fun x0=>
 bif !x0 then some 1
 else(AZ k a0 a1 a2.2.2.2.2.1).bind fun x1=>
 some x1
def N7 (k:Nat)(a0:Int):Option Bool:=
 some (!(decide (a0=a0)))
def N6 (k:Nat)(a0 a1:Int):Option Bool:=
 (N7 k a0).bind fun x0=>
 bif x0 then ((N7 k a1).bind fun x1=>
  bif !x1 then some true
  else some (decide (a0<a1)))
 else some (decide (a0<a1))
def N9 (k:Nat)(a0:Int):Option Bool:=
 some (!(decide (a0=a0)))
abbrev Zy:Type:=AC×Int×Int×Int
abbrev Zw:Type:=AC→Int→Int→Int→Int→Option Zy
def N8 (k:Nat)(rec:Zw)(s0:AC)(s1 s6 s7 s8:Int):Option Zy:=
 bif decide (s7 < s8) then (bif zB (zA ((shr .u64 (IntKind.wrap .u64 ((zA (s7 + s8)))) 1))) s0.length then ((N6 k (s0.getD (zA ((shr .u64 (IntKind.wrap .u64 ((zA (s7+s8)))) 1))).toNat 0) s1).bind fun x0=>
   bif x0 then(rec s0 s1 s6 (zA ((zA ((shr .u64 (IntKind.wrap .u64 ((zA (s7+s8)))) 1)))+1)) s8)
   else rec s0 s1 s6 s7 (zA ((shr .u64 (IntKind.wrap .u64 ((zA (s7+s8)))) 1))))
  else none)
 else some (s0,s1,s6,s7)
def JA (k:Nat):Nat→Zw:=qZ (fun _ _ _ _ _=>none) (N8 k)
def EN (k:Nat)(a0:AC)(a1:Int):Option jY:=
 (JA k k a0 a1 (a0.length:Int) 0 (a0.length:Int)).bind fun z=>
 bif decide (z.2.2.2 < z.2.2.1) then (bif zB z.2.2.2 z.1.length then (bif decide ((z.1.getD z.2.2.2.toNat 0)=z.2.1) then some (z.2.2.2,true)
   else bif zB z.2.2.2 z.1.length then ((N9 k (z.1.getD z.2.2.2.toNat 0)).bind fun x1=>
    bif x1 then ((N9 k z.2.1).bind fun x2=>
     some (z.2.2.2,x2))
    else some (z.2.2.2,false))
   else none)
  else none)
 else some (z.2.2.2,false)
def pq (k:Nat)(a0:AC):Option AC:=
 bif zN (0+a0.length) 8 then some a0
 else none
abbrev yMz (k:Nat)(a0:AC)(a1:Int)(a2:AC):Option AC:=ins 8 a0 a1 a2
def EO (k:Nat)(a0:AC)(a1:Int):Option (AC×Int):=
 (EN k a0 a1).bind fun x0=>
 bif x0.2 then some (a0,6)
 else bif decide ((a0.length:Int)≥200) then some (a0,3)
 else(pq k a0).bind fun x1=>
 (yMz k x1 x0.1 [a1]).bind fun x2=>
 some (x2,0)
def VJ (k:Nat)(ca bc bB cq bM bX bO a1:Int):Option Bool:=
 some (decide (ca=a1))
abbrev ZD:Type:=List zC→Int→Int→Int→Option (Unit⊕Int)
def EE (k:Nat)(rec:ZD)(s0:List zC)(s7 s8 af:Int):Option (Unit⊕Int):=
 bif decide (s8 < s7) then (bif zB s8 s0.length then ((VJ k (s0.getD s8.toNat (0,0,0,0,0,0,0)).1 (s0.getD s8.toNat (0,0,0,0,0,0,0)).2.1 (s0.getD s8.toNat (0,0,0,0,0,0,0)).2.2.1 (s0.getD s8.toNat (0,0,0,0,0,0,0)).2.2.2.1 (s0.getD s8.toNat (0,0,0,0,0,0,0)).2.2.2.2.1 (s0.getD s8.toNat (0,0,0,0,0,0,0)).2.2.2.2.2.1 (s0.getD s8.toNat (0,0,0,0,0,0,0)).2.2.2.2.2.2 af).bind fun x0=>
   bif x0 then some (.inr s8)
   else rec s0 s7 (zA (s8+1)) af)
  else none)
 else some (.inl ())
def ED (k:Nat):Nat→ZD
 |0,_,_,_,_=>none
 |n+1,s0,s7,s8,af=>EE k (ED k n) s0 s7 s8 af
def VK (k:Nat)(a0:List zC)(cU:Int):Option Int:=
 (ED k k a0 (a0.length:Int) 0 cU).bind fun z=>
 match z with
 |.inl z1=>some (-1)
 |.inr z2=>some z2
def og (k:Nat)(a0:List zC)(a1:Int):Option Int:=
 (VK k a0 a1).bind fun x0=>
 some x0
def N4 (k:Nat)(a0:Int):Option Bool:=
 some (!(decide (a0=a0)))
def Jt (k:Nat)(a0 a1:Int):Option Int:=
 (N4 k a0).bind fun x0=>
 (N4 k a1).bind fun x1=>
 bif x0 then (bif x1 then some 0
  else some (-1))
 else bif x1 then some 1
 else bif decide (a0<a1) then some (-1)
 else bif decide (a0>a1) then some 1
 else some 0
abbrev ZG:Type:=Int→AC→Int→Int→Option (Int⊕Int)
def yE1 (k:Nat)(rec:ZG)(s3:Int)(s6:AC)(s7 s8:Int):Option (Int⊕Int):=
 bif decide (s8 < s7) then (bif zB s8 s6.length then (bif !(decide ((s6.getD s8.toNat 0)=s3)) then some (.inr (s6.getD s8.toNat 0))
   else rec s3 s6 s7 (zA (s8+1)))
  else none)
 else some (.inl s3)
def Js (k:Nat):Nat→ZG
 |0,_,_,_,_=>none
 |n+1,s3,s6,s7,s8=>yE1 k (Js k n) s3 s6 s7 s8
def N3 (k:Nat)(a0:AC):Option Int:=
 (Js k k 0 a0 (a0.length:Int) 0).bind fun z=>
 match z with
 |.inl z1=>some z1
 |.inr z2=>some z2
def EF (k:Nat)(ca bc bB cq bM bX bO gG ct dt dZ du iE iF:Int):Option Int:=
 (Jt k bc ct).bind fun x0=>
 (Jt k bM du).bind fun x1=>
 (N3 k [x0,x1]).bind fun x2=>
 some x2
def wh (k:Nat)(a0:List zC):Option (List zC):=
 bif zN (0+a0.length) 56 then some a0
 else none
abbrev N5 (k:Nat)(a0:List zC)(a1:Int)(a2:List zC):Option (List zC):=ins 56 a0 a1 a2
abbrev ZL:Type:=(List zC)×Int×zC
abbrev ZJ:Type:=List zC→Int→zC→Option ZL
def EI (k:Nat)(rec:ZJ)(s0:List zC)(s6:Int)(b0:zC):Option ZL:=
 bif decide (s6 < (s0.length : Int)) then (bif zB s6 s0.length then ((EF k (s0.getD s6.toNat (0,0,0,0,0,0,0)).1 (s0.getD s6.toNat (0,0,0,0,0,0,0)).2.1 (s0.getD s6.toNat (0,0,0,0,0,0,0)).2.2.1 (s0.getD s6.toNat (0,0,0,0,0,0,0)).2.2.2.1 (s0.getD s6.toNat (0,0,0,0,0,0,0)).2.2.2.2.1 (s0.getD s6.toNat (0,0,0,0,0,0,0)).2.2.2.2.2.1 (s0.getD s6.toNat (0,0,0,0,0,0,0)).2.2.2.2.2.2 b0.1 b0.2.1 b0.2.2.1 b0.2.2.2.1 b0.2.2.2.2.1 b0.2.2.2.2.2.1 b0.2.2.2.2.2.2).bind fun x1=>
   bif decide (x1≤0) then(rec s0 (zA (s6+1)) b0)
   else some (s0,s6,b0))
  else none)
 else some (s0,s6,b0)
def Jw (k:Nat):Nat→ZJ:=qZ (fun _ _ _=>none) (EI k)
def wi (k:Nat)(a0:List zC)(a1:zC):Option ((List zC)×Int):=
 (og k a0 a1.1).bind fun x0=>
 bif decide (x0≥0) then some (a0,6)
 else bif decide ((a0.length:Int)≥40) then some (a0,3)
 else(Jw k k a0 0 a1).bind fun z=>
 (wh k z.1).bind fun x2=>
 (N5 k x2 z.2.1 [z.2.2]).bind fun x3=>
 some (x3,0)
def OD (k:Nat)(a0:jM)(a1:Lt):Option (Int×jM):=
 (vH k a1.2.1 0 (zA (a0.1-1))).bind fun x0=>
 bif !x0 then some (1,a0)
 else(vH k a1.2.2.2.1 1 3).bind fun x1=>
 bif !x1 then some (1,a0)
 else(Fx k (yR a0) a0.2.2.2.2.2.1 (a1.1,a0.2.2.2.2.2.2.2.2.2.2.2.2.2.2.2.2.1,a1.2)).bind fun x2=>
 bif !(decide (x2=0)) then some (x2,a0)
 else(EO k a0.2.2.2.2.2.2.2.2.2.2.2.2.2.1 a1.1).bind fun x3=>
 bif !(decide (x3.2=0)) then some (x3.2,a0)
 else(wi k a0.2.2.2.2.2.2.2.2.2.2.2.2.1 (a1.1,a0.2.2.2.2.2.2.2.2.2.2.2.2.2.2.2.2.1,a1.2)).bind fun x4=>
 bif !(decide (x4.2=0)) then some (x4.2,a0)
 else some (0,(jx a0 (x4.1,x3.1,a0.2.2.2.2.2.2.2.2.2.2.2.2.2.2)))
def ZN (k:Nat)(a0:jM)(a1:Int):Option (zC×Int):=
 (og k a0.2.2.2.2.2.2.2.2.2.2.2.2.1 a1).bind fun x0=>
 bif decide (x0<0) then some ((0,0,0,0,0,0,0),4)
 else bif zB x0 a0.2.2.2.2.2.2.2.2.2.2.2.2.1.length then (bif !(decide ((a0.2.2.2.2.2.2.2.2.2.2.2.2.1.getD x0.toNat (0,0,0,0,0,0,0)).2.1=a0.2.2.2.2.2.2.2.2.2.2.2.2.2.2.2.2.1)) then some ((0,0,0,0,0,0,0),4)
  else bif zB x0 a0.2.2.2.2.2.2.2.2.2.2.2.2.1.length then some ((a0.2.2.2.2.2.2.2.2.2.2.2.2.1.getD x0.toNat (0,0,0,0,0,0,0)),0)
  else none)
 else none
def Jr (k:Nat)(a0:List zC)(a1 a2:Int):Option (List zC):=
 bif ((((decide (0 ≤ a1)) && (decide (a1 ≤ a2))) && (decide (a2 ≤ (a0.length : Int)))) && (decide (((a2.toNat : Nat) : Int) ≤ (a0.length : Int)))) && (decide ((a0.length : Int) ≤ (a0.length : Int))) then (bif decide (a1=a2) then some a0
  else bif (decide (0 ≤ a1)) && (decide (a1 ≤ (a0.length : Int))) then (bif (decide (0 ≤ a2)) && (decide (a2 ≤ (a0.length : Int))) then (bif Nat.ble (a1.toNat - 0) (0 + a2.toNat) then (let y0:List zC:=(((List.take (a1.toNat-0) a0)++(qR a0 (0+a2.toNat) (a0.length-a2.toNat)))++(List.drop ((a1.toNat-0)+(a0.length-a2.toNat)) a0))
     bif ((decide (0 ≤ ((qR y0 0 ((a1.toNat - 0) + (a0.length - a2.toNat))).length : Int))) && (decide (((qR y0 0 ((a1.toNat - 0) + (a0.length - a2.toNat))).length : Int) ≤ (a0.length : Int)))) && (decide ((a0.length : Int) ≤ (((y0.length - 0) : Nat) : Int))) then (let y1:List zC:=(((List.take (0+(qR y0 0 ((a1.toNat-0)+(a0.length-a2.toNat))).length) y0)++(List.replicate (a0.length-(qR y0 0 ((a1.toNat-0)+(a0.length-a2.toNat))).length) ((0,0,0,0,0,0,0):Int×Int×Int×Int×Int×Int×Int)))++(List.drop ((0+(qR y0 0 ((a1.toNat-0)+(a0.length-a2.toNat))).length)+(a0.length-(qR y0 0 ((a1.toNat-0)+(a0.length-a2.toNat))).length)) y0))
      some (List.take ((a1.toNat-0)+(a0.length-a2.toNat)) y1))
     else none)
    else none)
   else none)
  else none)
 else none
def px (k:Nat)(a0:List zC)(a1:Int):Option qZn:=
 (og k a0 a1).bind fun x0=>
 bif decide (x0<0) then some (a0,0,0,0,0,0,0,0,4)
 else(wh k a0).bind fun x1=>
 (Jr k x1 x0 (zA (x0+1))).bind fun x2=>
 bif zB x0 a0.length then some (x2,(ie (a0.getD x0.toNat (0,0,0,0,0,0,0)) 0))
 else none
def w8 (k:Nat)(a0:jM)(a1:Int)(a2:AC):Option jM:=
 bif zN (a0.2.2.2.2.2.2.2.2.2.2.2.2.2.2.2.2.2.length + 1) 64 then (let y0:List qQ:=(a0.2.2.2.2.2.2.2.2.2.2.2.2.2.2.2.2.2++[(a0.2.2.2.2.2.2.2.2.2.2.2.2.2.2.2.2.1,a1,(bif (Nat.blt 0 a2.length) then(a2.getD 0 0) else 0),(bif (Nat.blt 1 a2.length) then(a2.getD 1 0) else 0),(bif (Nat.blt 2 a2.length) then(a2.getD 2 0) else 0),(bif (Nat.blt 3 a2.length) then(a2.getD 3 0) else 0),(bif (Nat.blt 4 a2.length) then(a2.getD 4 0) else 0),(bif (Nat.blt 5 a2.length) then(a2.getD 5 0) else 0))])
  some (yB a0 y0))
 else none
def EJ (k:Nat)(a0:List zC)(a1 a2:Int):Option ((List zC)×Int):=
 (px k a0 a1).bind fun x0=>
 bif !(decide (x0.2.2.2.2.2.2.2.2=0)) then some (a0,x0.2.2.2.2.2.2.2.2)
 else(wi k x0.1 (ij x0 (a2,x0.2.2.2.2.2.2.1,x0.2.2.2.2.2.2.2.1))).bind fun x1=>
 some (x1.1,x1.2)
def VU (k:Nat)(a0:List zC)(a1:Int):Option qZn:=
 (og k a0 a1).bind fun x0=>
 bif decide (x0<0) then none
 else(wh k a0).bind fun x1=>
 (Jr k x1 x0 (zA (x0+1))).bind fun x2=>
 bif zB x0 a0.length then some (x2,(ie (a0.getD x0.toNat (0,0,0,0,0,0,0)) 0))
 else none
abbrev ZR:Type:=Int×(List zC)×zC
abbrev ZP:Type:=Int→List zC→zC→Option ZR
def EL (k:Nat)(rec:ZP)(s9:Int)(r0:List zC)(b1:zC):Option ZR:=
 bif decide (s9 < (r0.length : Int)) then (bif zB s9 r0.length then ((EF k (r0.getD s9.toNat (0,0,0,0,0,0,0)).1 (r0.getD s9.toNat (0,0,0,0,0,0,0)).2.1 (r0.getD s9.toNat (0,0,0,0,0,0,0)).2.2.1 (r0.getD s9.toNat (0,0,0,0,0,0,0)).2.2.2.1 (r0.getD s9.toNat (0,0,0,0,0,0,0)).2.2.2.2.1 (r0.getD s9.toNat (0,0,0,0,0,0,0)).2.2.2.2.2.1 (r0.getD s9.toNat (0,0,0,0,0,0,0)).2.2.2.2.2.2 b1.1 b1.2.1 b1.2.2.1 b1.2.2.2.1 b1.2.2.2.2.1 b1.2.2.2.2.2.1 b1.2.2.2.2.2.2).bind fun x1=>
   bif decide (x1<0) then(rec (zA (s9+1)) r0 b1)
   else some (s9,r0,b1))
  else none)
 else some (s9,r0,b1)
def Jz (k:Nat):Nat→ZP:=qZ (fun _ _ _=>none) (EL k)
def EM (k:Nat)(a0:List zC)(a1:Int):Option ((List zC)×Int):=
 (VU k a0 a1).bind fun x0=>
 bif !(decide (x0.2.2.2.2.2.2.2.2=0)) then some (a0,x0.2.2.2.2.2.2.2.2)
 else(Jz k k 0 x0.1 (P7 x0)).bind fun z=>
 (N5 k z.2.1 z.1 [z.2.2]).bind fun x2=>
 some (x2,0)
def EK (k:Nat)(a0:List zC)(a1:Int):Option ((List zC)×Int):=
 (px k a0 a1).bind fun x0=>
 bif !(decide (x0.2.2.2.2.2.2.2.2=0)) then some (a0,x0.2.2.2.2.2.2.2.2)
 else(wi k x0.1 (P7 x0)).bind fun x1=>
 some (x1.1,x1.2)
def A0 (k:Nat)(a0:jM)(a1:zC):Option (Int×jM):=
 (ZN k a0 a1.2.1).bind fun x0=>
 bif !(decide (x0.2=0)) then some (x0.2,a0)
 else bif decide (a1.1 = 2) then ((px k a0.2.2.2.2.2.2.2.2.2.2.2.2.1 a1.2.1).bind fun x1=>
  (w8 k (jx a0 (x1.1,a0.2.2.2.2.2.2.2.2.2.2.2.2.2)) 20 [a1.2.1]).bind fun x2=>
  some (x1.2.2.2.2.2.2.2.2,x2))
 else bif decide (a1.1 = 4) then ((vH k a1.2.2.1 1 3).bind fun x3=>
  bif !x3 then some (1,a0)
  else(AZ k (yR a0) a0.2.2.2.2.2.1 a1.2.2.1).bind fun x4=>
  bif !(decide (x4=0)) then some (x4,a0)
  else(EJ k a0.2.2.2.2.2.2.2.2.2.2.2.2.1 a1.2.1 a1.2.2.1).bind fun x5=>
  some (x5.2,(jx a0 (x5.1,a0.2.2.2.2.2.2.2.2.2.2.2.2.2))))
 else bif decide (a1.2.2.1 = 0) then ((EM k a0.2.2.2.2.2.2.2.2.2.2.2.2.1 a1.2.1).bind fun x6=>
  some (x6.2,(jx a0 (x6.1,a0.2.2.2.2.2.2.2.2.2.2.2.2.2))))
 else bif decide (a1.2.2.1 = 1) then ((EK k a0.2.2.2.2.2.2.2.2.2.2.2.2.1 a1.2.1).bind fun x7=>
  some (x7.2,(jx a0 (x7.1,a0.2.2.2.2.2.2.2.2.2.2.2.2.2))))
 else some (1,a0)
def U0 (k:Nat)(a0:List zI):Option (List zI):=
 bif zN (0+a0.length) 24 then some a0
 else none
def UY (k:Nat)(a0:EQ):Option Nat:=
 bif zN (0+a0.length) 24 then some a0.length
 else none
abbrev ZU:Type:=EQ→Int→Int→EQ→Nat→Option (EQ×Nat)
def DM (k:Nat)(rec:ZU)(s8:EQ)(s9 aw:Int)(m0:EQ)(n0:Nat):Option (EQ×Nat):=
 bif decide (aw < s9) then (bif zB aw s8.length then ((pq k (s8.getD aw.toNat [])).bind fun x1=>
   bif zB aw n0 then (bif Nat.beq aw.toNat m0.length then(rec s8 s9 (zA (aw+1)) (m0++[x1]) n0)
    else none)
   else none)
  else none)
 else some (m0,n0)
def IQ (k:Nat):Nat→ZU
 |0,_,_,_,_,_=>none
 |n+1,s8,s9,aw,m0,n0=>DM k (IQ k n) s8 s9 aw m0 n0
def IS (k:Nat)(a0:EQ):Option EQ:=
 (UY k a0).bind fun x0=>
 (IQ k k a0 (a0.length:Int) 0 [] x0).bind fun z=>
 TQ z.1 z.2
def gb (k:Nat)(au:List zI)(az:EQ)(ay:AC)(ax:EQ):Option xR:=
 (U0 k au).bind fun x0=>
 (IS k az).bind fun x1=>
 (pq k ay).bind fun x2=>
 (IS k ax).bind fun x3=>
 some (x0,x1,x2,x3)
def ZW (k:Nat)(a0:jM)(a1:Int):Option Bool:=
 (vH k a1 0 (zA (a0.1-1))).bind fun x0=>
 bif x0 then some (!(decide (a1=a0.2.2.2.2.2.2.2.2.2.2.2.2.2.2.2.2.1)))
 else some false
def A2 (k:Nat)(a0:jM)(a1:zC):Option (Int×jM):=
 (gb k a0.2.2.2.2.2.2.1 a0.2.2.2.2.2.2.2.1 a0.2.2.2.2.2.2.2.2.1 a0.2.2.2.2.2.2.2.2.2.1).bind fun x0=>
 bif decide (a1.1 = 5) then ((ZW k a0 a1.2.1).bind fun x1=>
  bif !x1 then some (1,a0)
  else(vH k a1.2.2.1 (-1) 1152921504606846976).bind fun x2=>
  bif !x2 then some (1,a0)
  else bif zB a0.2.2.2.2.2.2.2.2.2.2.2.2.2.2.2.2.1 x0.2.1.length then (bif zB a1.2.1 (x0.2.1.getD a0.2.2.2.2.2.2.2.2.2.2.2.2.2.2.2.2.1.toNat []).length then (let y0:EQ:=(x0.2.1.set a0.2.2.2.2.2.2.2.2.2.2.2.2.2.2.2.2.1.toNat ((x0.2.1.getD a0.2.2.2.2.2.2.2.2.2.2.2.2.2.2.2.2.1.toNat []).set a1.2.1.toNat a1.2.2.1))
    some (0,(jF a0 (x0.1,y0,x0.2.2.1,x0.2.2.2,a0.2.2.2.2.2.2.2.2.2.2))))
   else none)
  else none)
 else bif decide (a1.1 = 6) then ((vH k a1.2.1 (-1) 1152921504606846976).bind fun x3=>
  bif !x3 then some (1,a0)
  else bif zB a0.2.2.2.2.2.2.2.2.2.2.2.2.2.2.2.2.1 x0.2.2.1.length then (let y1:AC:=(x0.2.2.1.set a0.2.2.2.2.2.2.2.2.2.2.2.2.2.2.2.2.1.toNat a1.2.1)
   some (0,(jF a0 (x0.1,x0.2.1,y1,x0.2.2.2,a0.2.2.2.2.2.2.2.2.2.2))))
  else none)
 else(vH k a1.2.1 0 1152921504606846976).bind fun x4=>
 bif !x4 then some (1,a0)
 else bif zB a0.2.2.2.2.2.2.2.2.2.2.2.2.2.2.2.2.1 x0.1.length then (let y2:List zI:=(x0.1.set a0.2.2.2.2.2.2.2.2.2.2.2.2.2.2.2.2.1.toNat ((x0.1.getD a0.2.2.2.2.2.2.2.2.2.2.2.2.2.2.2.2.1.toNat (0,0,0)).1,(x0.1.getD a0.2.2.2.2.2.2.2.2.2.2.2.2.2.2.2.2.1.toNat (0,0,0)).2.1,a1.2.1))
  some (0,(jF a0 (y2,x0.2.1,x0.2.2.1,x0.2.2.2,a0.2.2.2.2.2.2.2.2.2.2))))
 else none
def Lb (k:Nat)(a0:jM)(a1:Int):Option Bool:=
 (vH k a1 0 (zA ((a0.2.1.length:Int)-1))).bind fun x0=>
 some x0
def Fz (k:Nat)(a0:EQ):Option EQ:=
 bif zN (0+a0.length) 24 then some a0
 else none
def pA (k:Nat)(a0:AC)(a1 a2:Int):Option AC:=
 (pq k a0).bind fun x0=>
 bif decide (a1 ≥ 0) then (bif decide (a1 < (x0.length : Int)) then (bif zB a1 x0.length then some (x0.set a1.toNat a2)
   else none)
  else some x0)
 else some x0
def VZ (k:Nat)(a0:Int):Option Bool:=
 bif decide (a0≥0) then some (decide (a0≤10000))
 else some false
def JB (k:Nat)(a0 a1:Int):Option wJ:=
 some ((IntKind.wrap .u64 ((IntKind.wrap .u64 ((IntKind.wrap .u64 ((shr .u64 a0 32)*(shr .u64 a1 32)))+(shr .u64 (IntKind.wrap .u64 ((IntKind.wrap .u64 ((shr .u64 a0 32)*(yJ .u64 a1 4294967295)))+(shr .u64 (IntKind.wrap .u64 ((yJ .u64 a0 4294967295)*(yJ .u64 a1 4294967295))) 32))) 32)))+(shr .u64 (IntKind.wrap .u64 ((yJ .u64 (IntKind.wrap .u64 ((IntKind.wrap .u64 ((shr .u64 a0 32)*(yJ .u64 a1 4294967295)))+(shr .u64 (IntKind.wrap .u64 ((yJ .u64 a0 4294967295)*(yJ .u64 a1 4294967295))) 32))) 4294967295)+(IntKind.wrap .u64 ((yJ .u64 a0 4294967295)*(shr .u64 a1 32))))) 32))),(IntKind.wrap .u64 (a0*a1)))
def yOl (k:Nat)(a0:Int):Option Int:=
 bif decide (a0 ≥ 4294967296) then (bif decide ((shr .u64 a0 32) ≥ 65536) then (bif decide ((shr .u64 (shr .u64 a0 32) 16)≥256) then none
   else none)
  else bif decide ((shr .u64 a0 32)≥256) then none
  else none)
 else bif decide (a0 ≥ 65536) then (bif decide ((shr .u64 a0 16)≥256) then none
  else none)
 else bif decide (a0≥256) then none
 else none
def yTq (k:Nat)(a0:Int):Option Int:=
 (yOl k a0).bind fun x0=>
 some (zA (64-x0))
abbrev Z0:Type:=Int→Int→Int→Int→Int→Int→Int→Int→Int→Option qQ
def yEo (k:Nat)(rec:Z0)(s2 s8 s9 aw aN bz bC aP bV:Int):Option qQ:=
 bif decide (aP ≥ 4294967296) then (bif decide ((IntKind.wrap .u64 (bV+s9))≥4294967296) then some (s2,s8,s9,aw,aN,bz,bC,(IntKind.wrap .u64 (aP-1)))
  else rec s2 s8 s9 aw aN bz bC (IntKind.wrap .u64 (aP-1)) (IntKind.wrap .u64 (bV+s9)))
 else bif decide ((IntKind.wrap .u64 (aP * aw)) > (IntKind.wrap .u64 ((IntKind.wrap .u64 (4294967296 * bV)) + bz))) then (bif decide ((IntKind.wrap .u64 (bV+s9))≥4294967296) then some (s2,s8,s9,aw,aN,bz,bC,(IntKind.wrap .u64 (aP-1)))
  else rec s2 s8 s9 aw aN bz bC (IntKind.wrap .u64 (aP-1)) (IntKind.wrap .u64 (bV+s9)))
 else some (s2,s8,s9,aw,aN,bz,bC,aP)
def Z2 (k:Nat):Nat→Z0:=qZ (fun _ _ _ _ _ _ _ _ _=>none) (yEo k)
abbrev Z3:Type:=Int→Int→Int→Int→Int→Int→Int→Int→Int→Option Lt
def yQ2 (k:Nat)(rec:Z3)(s2 s8 s9 aw bC aP bV bm kI:Int):Option Lt:=
 bif decide (kI ≥ 4294967296) then (bif decide ((IntKind.wrap .u64 (bV+s9))≥4294967296) then some (s2,s8,bC,aP,bm,(IntKind.wrap .u64 (kI-1)))
  else rec s2 s8 s9 aw bC aP (IntKind.wrap .u64 (bV+s9)) bm (IntKind.wrap .u64 (kI-1)))
 else bif decide ((IntKind.wrap .u64 (kI * aw)) > (IntKind.wrap .u64 ((IntKind.wrap .u64 (4294967296 * bV)) + bC))) then (bif decide ((IntKind.wrap .u64 (bV+s9))≥4294967296) then some (s2,s8,bC,aP,bm,(IntKind.wrap .u64 (kI-1)))
  else rec s2 s8 s9 aw bC aP (IntKind.wrap .u64 (bV+s9)) bm (IntKind.wrap .u64 (kI-1)))
 else some (s2,s8,bC,aP,bm,kI)
def Z5 (k:Nat):Nat→Z3:=qZ (fun _ _ _ _ _ _ _ _ _=>none) (yQ2 k)
def Od (k:Nat)(a0 a1 a2:Int):Option wJ:=
 bif decide (a2=0) then none
 else bif decide (a2≤a0) then none
 else bif decide (a0 = 0) then (bif !(decide (a2 = 0)) then (bif !(decide (a2=0)) then some ((IntKind.wrap .u64 (Int.tdiv a1 a2)),(Int.tmod a1 a2))
   else none)
  else none)
 else(yTq k a2).bind fun x0=>
 bif !(decide ((IntKind.wrap .u64 (x0)) < 0)) then (bif !(decide ((IntKind.wrap .u64 (x0)) < 0)) then (bif !(decide ((IntKind.wrap .u64 (64 - (IntKind.wrap .u64 (x0)))) < 0)) then (bif !(decide ((IntKind.wrap .u64 (x0)) < 0)) then (bif !(decide ((shr .u64 (shl .u64 a2 (IntKind.wrap .u64 (x0))) 32) = 0)) then ((Z2 k k (shl .u64 a2 (IntKind.wrap .u64 (x0))) (IntKind.wrap .u64 (x0)) (shr .u64 (shl .u64 a2 (IntKind.wrap .u64 (x0))) 32) (yJ .u64 (shl .u64 a2 (IntKind.wrap .u64 (x0))) 4294967295) (wD .u64 (shl .u64 a0 (IntKind.wrap .u64 (x0))) (shr .u64 a1 (IntKind.wrap .u64 (64-(IntKind.wrap .u64 (x0)))))) (shr .u64 (shl .u64 a1 (IntKind.wrap .u64 (x0))) 32) (yJ .u64 (shl .u64 a1 (IntKind.wrap .u64 (x0))) 4294967295) (IntKind.wrap .u64 (Int.tdiv (wD .u64 (shl .u64 a0 (IntKind.wrap .u64 (x0))) (shr .u64 a1 (IntKind.wrap .u64 (64-(IntKind.wrap .u64 (x0)))))) (shr .u64 (shl .u64 a2 (IntKind.wrap .u64 (x0))) 32))) (IntKind.wrap .u64 ((wD .u64 (shl .u64 a0 (IntKind.wrap .u64 (x0))) (shr .u64 a1 (IntKind.wrap .u64 (64-(IntKind.wrap .u64 (x0))))))-(IntKind.wrap .u64 ((IntKind.wrap .u64 (Int.tdiv (wD .u64 (shl .u64 a0 (IntKind.wrap .u64 (x0))) (shr .u64 a1 (IntKind.wrap .u64 (64-(IntKind.wrap .u64 (x0)))))) (shr .u64 (shl .u64 a2 (IntKind.wrap .u64 (x0))) 32)))*(shr .u64 (shl .u64 a2 (IntKind.wrap .u64 (x0))) 32)))))).bind fun z=>
      bif !(decide (z.2.2.1 = 0)) then ((Z5 k k z.1 z.2.1 z.2.2.1 z.2.2.2.1 z.2.2.2.2.2.2.1 z.2.2.2.2.2.2.2 (IntKind.wrap .u64 ((IntKind.wrap .u64 ((IntKind.wrap .u64 ((IntKind.wrap .u64 (z.2.2.2.2.1*4294967296))+z.2.2.2.2.2.1))-(IntKind.wrap .u64 (z.2.2.2.2.2.2.2*z.1))))-(IntKind.wrap .u64 ((IntKind.wrap .u64 (Int.tdiv (IntKind.wrap .u64 ((IntKind.wrap .u64 ((IntKind.wrap .u64 (z.2.2.2.2.1*4294967296))+z.2.2.2.2.2.1))-(IntKind.wrap .u64 (z.2.2.2.2.2.2.2*z.1)))) z.2.2.1))*z.2.2.1)))) (IntKind.wrap .u64 ((IntKind.wrap .u64 ((IntKind.wrap .u64 (z.2.2.2.2.1*4294967296))+z.2.2.2.2.2.1))-(IntKind.wrap .u64 (z.2.2.2.2.2.2.2*z.1)))) (IntKind.wrap .u64 (Int.tdiv (IntKind.wrap .u64 ((IntKind.wrap .u64 ((IntKind.wrap .u64 (z.2.2.2.2.1*4294967296))+z.2.2.2.2.2.1))-(IntKind.wrap .u64 (z.2.2.2.2.2.2.2*z.1)))) z.2.2.1))).bind fun z1=>
       bif !(decide (z1.2.1<0)) then some ((IntKind.wrap .u64 ((IntKind.wrap .u64 (z1.2.2.2.1*4294967296))+z1.2.2.2.2.2)),(shr .u64 (IntKind.wrap .u64 ((IntKind.wrap .u64 ((IntKind.wrap .u64 (z1.2.2.2.2.1*4294967296))+z1.2.2.1))-(IntKind.wrap .u64 (z1.2.2.2.2.2*z1.1)))) z1.2.1))
       else none)
      else none)
     else none)
    else none)
   else none)
  else none)
 else none
def Oe (k:Nat)(a0 a1 a2:Int):Option jY:=
 bif decide (a0<0) then some (0,false)
 else bif decide (a1<0) then some (0,false)
 else(VZ k a2).bind fun x0=>
 bif !x0 then some (0,false)
 else(JB k (IntKind.wrap .u64 (a0)) (IntKind.wrap .u64 (a1))).bind fun x1=>
 (Od k (Int.tmod x1.1 10000) x1.2 10000).bind fun x2=>
 (JB k x2.1 (IntKind.wrap .u64 ((zA (10000-a2))))).bind fun x3=>
 (C7 k x3.2 (IntKind.wrap .u64 (Int.tdiv (IntKind.wrap .u64 (x2.2*(IntKind.wrap .u64 ((zA (10000-a2)))))) 10000)) 0).bind fun x4=>
 bif decide ((IntKind.wrap .u64 (Int.tdiv x1.1 10000)) > 0) then (bif decide ((IntKind.wrap .u64 ((zA (10000-a2))))>0) then some (0,false)
  else bif decide ((IntKind.wrap .u64 (x3.1+x4.2))>0) then some (0,false)
  else bif decide (x4.1>9223372036854775807) then some (0,false)
  else some ((zA (x4.1)),true))
 else bif decide ((IntKind.wrap .u64 (x3.1+x4.2))>0) then some (0,false)
 else bif decide (x4.1>9223372036854775807) then some (0,false)
 else some ((zA (x4.1)),true)
abbrev qZ0:Type:=Int→Int→AC→Int→Int→Option wJ
def ES (k:Nat)(rec:qZ0)(s4 s5:Int)(s9:AC)(aw aN:Int):Option wJ:=
 bif decide (aN < aw) then (bif zB aN s9.length then ((C7 k s5 (IntKind.wrap .u64 ((s9.getD aN.toNat 0))) 0).bind fun x0=>
   rec (zA (s4+(zA ((shr .i64 (s9.getD aN.toNat 0) 63)+(zA (x0.2)))))) x0.1 s9 aw (zA (aN+1)))
  else none)
 else some (s4,s5)
def ER (k:Nat):Nat→qZ0
 |0,_,_,_,_,_=>none
 |n+1,s4,s5,s9,aw,aN=>ES k (ER k n) s4 s5 s9 aw aN
def EP (k:Nat)(a0:AC):Option jY:=
 (ER k k 0 0 a0 (a0.length:Int) 0).bind fun z=>
 bif !(decide (z.1=(shr .i64 (zA (z.2)) 63))) then some (0,false)
 else some ((zA (z.2)),true)
abbrev qXs:Type:=AC→AC→List wJ→Int→Int→AC→Option (AC⊕jY)
def EV (k:Nat)(rec:qXs)(s1 s2:AC)(jy:List wJ)(aW fu:Int)(r0:AC):Option (AC⊕jY):=
 bif decide (fu < aW) then (bif zB fu jy.length then (bif zB fu s1.length then (bif zB fu s2.length then ((Oe k (s1.getD fu.toNat 0) (s2.getD fu.toNat 0) (jy.getD fu.toNat (0,0)).2).bind fun x0=>
     bif !x0.2 then some (.inr (0,false))
     else bif zN (r0.length+1) 8 then(rec s1 s2 jy aW (zA (fu+1)) (r0++[x0.1]))
     else none)
    else none)
   else none)
  else none)
 else some (.inl r0)
def EU (k:Nat):Nat→qXs:=qZ (fun _ _ _ _ _ _=>none) (EV k)
def rL (k:Nat)(a0:List wJ)(a1 a2:AC):Option jY:=
 bif !(decide ((a1.length:Int)=(a0.length:Int))) then some (0,false)
 else bif !(decide ((a2.length:Int)=(a0.length:Int))) then some (0,false)
 else(EU k k a1 a2 a0 (a0.length:Int) 0 []).bind fun z=>
 match z with
 |.inl z1=>(EP k z1).bind fun x1=>
  some (x1.1,x1.2)
 |.inr z2=>some (z2.1,z2.2)
def OE (k:Nat)(a0:jM)(a1 a2:Int):Option (Int×jM):=
 (Lb k a0 a1).bind fun x0=>
 bif !x0 then some (1,a0)
 else(vH k a2 0 1099511627776).bind fun x1=>
 bif !x1 then some (1,a0)
 else(Fz k a0.2.2.2.2.2.2.2.2.2.2.2.1).bind fun x2=>
 bif zB a0.2.2.2.2.2.2.2.2.2.2.2.2.2.2.2.2.1 x2.length then ((pA k (x2.getD a0.2.2.2.2.2.2.2.2.2.2.2.2.2.2.2.2.1.toNat []) a1 a2).bind fun x3=>
  bif zB a0.2.2.2.2.2.2.2.2.2.2.2.2.2.2.2.2.1 x2.length then (let y0:EQ:=(x2.set a0.2.2.2.2.2.2.2.2.2.2.2.2.2.2.2.2.1.toNat x3)
   bif zB a0.2.2.2.2.2.2.2.2.2.2.2.2.2.2.2.2.1 y0.length then ((rL k a0.2.1 a0.2.2.2.2.2.2.2.2.2.2.1 (y0.getD a0.2.2.2.2.2.2.2.2.2.2.2.2.2.2.2.2.1.toNat [])).bind fun x4=>
    bif zB a0.2.2.2.2.2.2.2.2.2.2.2.2.2.2.2.2.1 a0.2.2.2.2.2.2.1.length then (bif !x4.2 then some (8,a0)
     else bif decide (x4.1>1152921504606846976) then some (8,a0)
     else bif decide (x4.1 < (a0.2.2.2.2.2.2.1.getD a0.2.2.2.2.2.2.2.2.2.2.2.2.2.2.2.2.1.toNat (0, 0, 0)).2.1) then (bif decide ((zA ((a0.2.2.2.2.2.2.1.getD a0.2.2.2.2.2.2.2.2.2.2.2.2.2.2.2.2.1.toNat (0,0,0)).1+x4.1))<0) then some (9,a0)
      else(gb k a0.2.2.2.2.2.2.1 a0.2.2.2.2.2.2.2.1 a0.2.2.2.2.2.2.2.2.1 a0.2.2.2.2.2.2.2.2.2.1).bind fun x5=>
      bif zB a0.2.2.2.2.2.2.2.2.2.2.2.2.2.2.2.2.1 x5.1.length then (let y1:List zI:=(x5.1.set a0.2.2.2.2.2.2.2.2.2.2.2.2.2.2.2.2.1.toNat ((x5.1.getD a0.2.2.2.2.2.2.2.2.2.2.2.2.2.2.2.2.1.toNat (0,0,0)).1,x4.1,(x5.1.getD a0.2.2.2.2.2.2.2.2.2.2.2.2.2.2.2.2.1.toNat (0,0,0)).2.2))
       some (0,(jF a0 (y1,x5.2.1,x5.2.2.1,x5.2.2.2,a0.2.2.2.2.2.2.2.2.2.2.1,y0,a0.2.2.2.2.2.2.2.2.2.2.2.2))))
      else none)
     else(gb k a0.2.2.2.2.2.2.1 a0.2.2.2.2.2.2.2.1 a0.2.2.2.2.2.2.2.2.1 a0.2.2.2.2.2.2.2.2.2.1).bind fun x6=>
     bif zB a0.2.2.2.2.2.2.2.2.2.2.2.2.2.2.2.2.1 x6.1.length then (let y2:List zI:=(x6.1.set a0.2.2.2.2.2.2.2.2.2.2.2.2.2.2.2.2.1.toNat ((x6.1.getD a0.2.2.2.2.2.2.2.2.2.2.2.2.2.2.2.2.1.toNat (0,0,0)).1,x4.1,(x6.1.getD a0.2.2.2.2.2.2.2.2.2.2.2.2.2.2.2.2.1.toNat (0,0,0)).2.2))
      some (0,(jF a0 (y2,x6.2.1,x6.2.2.1,x6.2.2.2,a0.2.2.2.2.2.2.2.2.2.2.1,y0,a0.2.2.2.2.2.2.2.2.2.2.2.2))))
     else none)
    else none)
   else none)
  else none)
 else none
def OF (k:Nat)(a0 a1:Int):Option jY:=
 bif decide (a1 > 0) then (bif decide (a0>(zA (9223372036854775807-a1))) then some (0,false)
  else bif decide (a1 < 0) then (bif decide (a0<(zA ((-9223372036854775808)-a1))) then some (0,false)
   else some ((zA (a0+a1)),true))
  else some ((zA (a0+a1)),true))
 else bif decide (a1 < 0) then (bif decide (a0<(zA ((-9223372036854775808)-a1))) then some (0,false)
  else some ((zA (a0+a1)),true))
 else some ((zA (a0+a1)),true)
def Ni (k:Nat)(bq bD aT:Int):Option Bool:=
 bif decide (bq > (-4611686018427387904)) then (bif decide (bq < 4611686018427387904) then (bif decide (bD ≥ 0) then (bif decide (bD ≤ 2305843009213693952) then (bif decide (aT≥0) then some (decide (aT≤2305843009213693952))
     else some false)
    else some false)
   else some false)
  else some false)
 else some false
def JY (k:Nat)(a0:zI)(a1:Int):Option (zI×Int):=
 (OF k a0.1 a1).bind fun x0=>
 bif !x0.2 then some (a0,8)
 else(Ni k x0.1 a0.2.1 a0.2.2).bind fun x1=>
 bif !x1 then some (a0,8)
 else some ((x0.1,a0.2),0)
def FZ (k:Nat)(a0:zI)(a1:Int):Option (zI×Int):=
 (JY k a0 a1).bind fun x0=>
 some (x0.1,x0.2)
def v9 (k:Nat)(bq bD aT a1:Int):Option Int:=
 some (wU false (zA (aT-a1)) 0)
def F0 (k:Nat)(a0:zI)(a1 a2:Int):Option (zI×Int):=
 (JY k a0 (zA (0-a1))).bind fun x0=>
 bif decide (x0.2 = 0) then (bif decide (a2 = 1) then ((v9 k a0.1 a0.2.1 a0.2.2 a1).bind fun x1=>
   some ((x0.1.1,x0.1.2.1,x1),x0.2))
  else bif decide (a2 = 2) then ((v9 k a0.1 a0.2.1 a0.2.2 a1).bind fun x2=>
   some ((x0.1.1,x0.1.2.1,x2),x0.2))
  else some (x0.1,x0.2))
 else some (x0.1,x0.2)
def F1 (k:Nat)(a0:zI)(a1:Int):Option Int:=
 bif decide (a1=3) then some (zA ((zA (a0.1+a0.2.1))-a0.2.2))
 else some (zA (a0.1+a0.2.1))
def qTx (k:Nat)(a0:jM)(a1 a2 a3:Int):Option (Int×jM):=
 (vH k a2 0 (zA (a0.1-1))).bind fun x0=>
 bif !x0 then some (1,a0)
 else(vH k a3 1 1099511627776).bind fun x1=>
 bif !x1 then some (1,a0)
 else bif zB a2 a0.2.2.2.2.2.2.1.length then ((FZ k (a0.2.2.2.2.2.2.1.getD a2.toNat (0,0,0)) a3).bind fun x2=>
  bif decide (a1 = 11) then ((F0 k (a0.2.2.2.2.2.2.1.getD a2.toNat (0,0,0)) a3 3).bind fun x3=>
   (F1 k (a0.2.2.2.2.2.2.1.getD a2.toNat (0,0,0)) 3).bind fun x4=>
   bif decide (x4<a3) then some (9,a0)
   else bif decide ((zA (a0.2.2.2.2.2.2.2.2.2.2.2.2.2.2.1-a3))<0) then some (9,a0)
   else bif !(decide (x3.2=0)) then some (x3.2,a0)
   else bif decide ((zA (a0.2.2.2.2.2.2.2.2.2.2.2.2.2.2.1-a3))>1152921504606846976) then some (8,a0)
   else(gb k a0.2.2.2.2.2.2.1 a0.2.2.2.2.2.2.2.1 a0.2.2.2.2.2.2.2.2.1 a0.2.2.2.2.2.2.2.2.2.1).bind fun x5=>
   bif zB a2 x5.1.length then some (0,(jF a0 ((x5.1.set a2.toNat x3.1),x5.2.1,x5.2.2.1,x5.2.2.2,(G1 a0 ((zA (a0.2.2.2.2.2.2.2.2.2.2.2.2.2.2.1-a3)),a0.2.2.2.2.2.2.2.2.2.2.2.2.2.2.2)))))
   else none)
  else bif !(decide (x2.2=0)) then some (x2.2,a0)
  else bif decide ((zA (a0.2.2.2.2.2.2.2.2.2.2.2.2.2.2.1+a3))>1152921504606846976) then some (8,a0)
  else(gb k a0.2.2.2.2.2.2.1 a0.2.2.2.2.2.2.2.1 a0.2.2.2.2.2.2.2.2.1 a0.2.2.2.2.2.2.2.2.2.1).bind fun x6=>
  bif zB a2 x6.1.length then some (0,(jF a0 ((x6.1.set a2.toNat x2.1),x6.2.1,x6.2.2.1,x6.2.2.2,(G1 a0 ((zA (a0.2.2.2.2.2.2.2.2.2.2.2.2.2.2.1+a3)),a0.2.2.2.2.2.2.2.2.2.2.2.2.2.2.2)))))
  else none)
 else none
abbrev qV1:Type:=(kX×(List qQ)×AC×(List zI)×EQ×AC×EQ)⊕(Int×kX×(List qQ))
abbrev qTb:Type:=EQ→Int→Int→kX→List qQ→AC→List zI→EQ→AC→EQ→Option qV1
def vBt (k:Nat)(rec:qTb)(gk:EQ)(iL kJ:Int)(b0:kX)(r1:List qQ)(r2:AC)(r4:List zI)(m5:EQ)(r6:AC)(m7:EQ):Option qV1:=
 bif decide (kJ < iL) then (bif zB kJ gk.length then ((rL k b0.2.1 r2 (gk.getD kJ.toNat [])).bind fun x4=>
   bif !x4.2 then some (.inr (8,b0,r1))
   else bif decide (x4.1>1152921504606846976) then some (.inr (8,b0,r1))
   else bif zB kJ r4.length then (let y0:List zI:=(r4.set kJ.toNat ((r4.getD kJ.toNat (0,0,0)).1,x4.1,(r4.getD kJ.toNat (0,0,0)).2.2))
    rec gk iL (zA (kJ+1)) b0 r1 r2 y0 m5 r6 m7)
   else none)
  else none)
 else some (.inl (b0,r1,r2,r4,m5,r6,m7))
def qJ0 (k:Nat):Nat→qTb:=qZ (fun _ _ _ _ _ _ _ _ _ _=>none) (vBt k)
def ySt (k:Nat)(a0:jM)(a1 a2:Int):Option (Int×jM):=
 (Lb k a0 a1).bind fun x0=>
 bif !x0 then some (1,a0)
 else(vH k a2 0 1048576).bind fun x1=>
 bif !x1 then some (1,a0)
 else(pA k a0.2.2.2.2.2.2.2.2.2.2.1 a1 a2).bind fun x2=>
 (gb k a0.2.2.2.2.2.2.1 a0.2.2.2.2.2.2.2.1 a0.2.2.2.2.2.2.2.2.1 a0.2.2.2.2.2.2.2.2.2.1).bind fun x3=>
 (qJ0 k k a0.2.2.2.2.2.2.2.2.2.2.2.1 (a0.2.2.2.2.2.2.2.2.2.2.2.1.length:Int) 0 (kV a0) a0.2.2.2.2.2.2.2.2.2.2.2.2.2.2.2.2.2 x2 x3.1 x3.2.1 x3.2.2.1 x3.2.2.2).bind fun z=>
 match z with
 |.inl z1=>some (0,(jF z1.1 (aby z1 (z1.2.2.1,(W5 z1.1 z1.2.1)))))
 |.inr z2=>some (z2.1,(vO z2.2.1 z2.2.2))
def Pn (k:Nat)(a0:jM)(a1:zC):Option (Int×jM):=
 bif decide (a1.1 = 1) then ((OD k a0 a1.2).bind fun x0=>
  some (x0.1,x0.2))
 else bif decide (a1.1 = 2) then ((A0 k a0 a1).bind fun x1=>
  some (x1.1,x1.2))
 else bif decide (a1.1 = 3) then ((A0 k a0 a1).bind fun x2=>
  some (x2.1,x2.2))
 else bif decide (a1.1 = 4) then ((A0 k a0 a1).bind fun x3=>
  some (x3.1,x3.2))
 else bif decide (a1.1 = 5) then ((A2 k a0 a1).bind fun x4=>
  some (x4.1,x4.2))
 else bif decide (a1.1 = 6) then ((A2 k a0 a1).bind fun x5=>
  some (x5.1,x5.2))
 else bif decide (a1.1 = 7) then ((A2 k a0 a1).bind fun x6=>
  some (x6.1,x6.2))
 else bif decide (a1.1 = 8) then ((OE k a0 a1.2.1 a1.2.2.1).bind fun x7=>
  some (x7.1,x7.2))
 else bif decide (a1.1 = 10) then ((qTx k a0 a1.1 a1.2.1 a1.2.2.1).bind fun x8=>
  some (x8.1,x8.2))
 else bif decide (a1.1 = 11) then ((qTx k a0 a1.1 a1.2.1 a1.2.2.1).bind fun x9=>
  some (x9.1,x9.2))
 else bif decide (a1.1 = 12) then ((ySt k a0 a1.2.1 a1.2.2.1).bind fun cm=>
  some (cm.1,cm.2))
 else some (0,a0)
def AY (k:Nat)(df:Int)(dM:List wJ)(dN dh cc a1:Int):Option Bool:=
 some (decide (a1=dh))
def pC (k:Nat)(a0 a1:Int)(a2:AC):Option qQ:=
 some (a0,a1,(bif (Nat.blt 0 a2.length) then(a2.getD 0 0) else 0),(bif (Nat.blt 1 a2.length) then(a2.getD 1 0) else 0),(bif (Nat.blt 2 a2.length) then(a2.getD 2 0) else 0),(bif (Nat.blt 3 a2.length) then(a2.getD 3 0) else 0),(bif (Nat.blt 4 a2.length) then(a2.getD 4 0) else 0),(bif (Nat.blt 5 a2.length) then(a2.getD 5 0) else 0))
abbrev qNc:Type:=Int×(List zI)×EQ×AC×EQ×AC×EQ×(List zC)×AC×Int×Bool×Int×Int×Bool×(List qQ)
abbrev qOo:Type:=List zC→Int→Int→Int→List zI→EQ→AC→EQ→AC→EQ→List zC→AC→Int→Bool→Int→Int→Bool→List qQ→Option qNc
def Fq (k:Nat)(rec:qOo)(aw:List zC)(aN de af:Int)(ah:List zI)(ai:EQ)(ag:AC)(aZ:EQ)(bn:AC)(bo:EQ)(dO:List zC)(dP:AC)(dQ:Int)(bW:Bool)(av bE:Int)(aU:Bool)(r2:List qQ):Option qNc:=
 bif decide (de < aN) then (bif zB de aw.length then ((pC k (aw.getD de.toNat (0,0,0,0,0,0,0)).2.1 22 [(aw.getD de.toNat (0,0,0,0,0,0,0)).1]).bind fun x0=>
   bif zN (r2.length+1) 64 then(rec aw aN (zA (de+1)) af ah ai ag aZ bn bo dO dP dQ bW av bE aU (r2++[x0]))
   else none)
  else none)
 else some (af,ah,ai,ag,aZ,bn,bo,dO,dP,dQ,bW,av,bE,aU,r2)
def Fp (k:Nat):Nat→qOo
 |0,_,_,_,_,_,_,_,_,_,_,_,_,_,_,_,_,_,_=>none
 |n+1,aw,aN,de,af,ah,ai,ag,aZ,bn,bo,dO,dP,dQ,bW,av,bE,aU,r2=>Fq k (Fp k n) aw aN de af ah ai ag aZ bn bo dO dP dQ bW av bE aU r2
abbrev qSt:Type:=List zI→Int→Int→Int→List zI→EQ→AC→EQ→AC→EQ→List zC→AC→Int→Bool→Int→Int→Bool→List qQ→Option qNc
def Ft (k:Nat)(rec:qSt)(kZ:List zI)(fw lQ af:Int)(ah:List zI)(ai:EQ)(ag:AC)(aZ:EQ)(bn:AC)(bo:EQ)(dO:List zC)(dP:AC)(dQ:Int)(bW:Bool)(av bE:Int)(aU:Bool)(r2:List qQ):Option qNc:=
 bif decide (lQ < fw) then (bif zB lQ kZ.length then ((pC k lQ 23 [(kZ.getD lQ.toNat (0,0,0)).1]).bind fun x1=>
   bif zN (r2.length+1) 64 then(rec kZ fw (zA (lQ+1)) af ah ai ag aZ bn bo dO dP dQ bW av bE aU (r2++[x1]))
   else none)
  else none)
 else some (af,ah,ai,ag,aZ,bn,bo,dO,dP,dQ,bW,av,bE,aU,r2)
def JU (k:Nat):Nat→qSt
 |0,_,_,_,_,_,_,_,_,_,_,_,_,_,_,_,_,_,_=>none
 |n+1,kZ,fw,lQ,af,ah,ai,ag,aZ,bn,bo,dO,dP,dQ,bW,av,bE,aU,r2=>Ft k (JU k n) kZ fw lQ af ah ai ag aZ bn bo dO dP dQ bW av bE aU r2
def OB (k:Nat)(lM:Int)(pK:List zI)(pL:EQ)(pM:AC)(pN:EQ)(pO:AC)(pP:EQ)(lN:List zC)(pQ:AC)(pR:Int)(pS:Bool):Option Q0:=
 (Fp k k lN (lN.length:Int) 0 lM pK pL pM pN pO pP lN pQ pR pS 0 0 false []).bind fun z=>
 (JU k k z.2.1 (z.2.1.length:Int) 0 z.1 z.2.1 z.2.2.1 z.2.2.2.1 z.2.2.2.2.1 z.2.2.2.2.2.1 z.2.2.2.2.2.2.1 z.2.2.2.2.2.2.2.1 z.2.2.2.2.2.2.2.2.1 z.2.2.2.2.2.2.2.2.2.1 z.2.2.2.2.2.2.2.2.2.2.1 z.2.2.2.2.2.2.2.2.2.2.2.1 z.2.2.2.2.2.2.2.2.2.2.2.2.1 z.2.2.2.2.2.2.2.2.2.2.2.2.2.1 z.2.2.2.2.2.2.2.2.2.2.2.2.2.2).bind fun z1=>
 some (jo z1 ([],z1.2.2.2.2.2.2.2.2.1,z1.2.2.2.2.2.2.2.2.2.1,true,z1.2.2.2.2.2.2.2.2.2.2.2.2.2.2))
def Wn (k:Nat)(ca bc bB cq bM bX bO a1:Int):Option Bool:=
 some (decide (a1>bO))
def Fw (k:Nat)(df:Int)(dM:List wJ)(dN dh cc a1:Int):Option Bool:=
 bif decide (a1 > 0) then (bif decide (a1 < dh) then (bif !(decide (cc=0)) then some (decide ((Int.tmod a1 cc)=0))
   else none)
  else some false)
 else some false
def Vy (k:Nat)(ca bc bB cq bM bX bO a1:Int):Option Bool:=
 bif decide (a1≥bX) then some (decide (a1≤bO))
 else some false
def Vx (k:Nat)(ca bc bB cq bM bX bO a1:Int):Option Bool:=
 (Vy k ca bc bB cq bM bX bO a1).bind fun x0=>
 some x0
def Eo (k:Nat)(rec:Zq)(s8:List zC)(s9 aw af:Int)(r1:List zC):Option Zs:=
 bif decide (aw < s9) then (bif zB aw s8.length then ((Vx k (s8.getD aw.toNat (0,0,0,0,0,0,0)).1 (s8.getD aw.toNat (0,0,0,0,0,0,0)).2.1 (s8.getD aw.toNat (0,0,0,0,0,0,0)).2.2.1 (s8.getD aw.toNat (0,0,0,0,0,0,0)).2.2.2.1 (s8.getD aw.toNat (0,0,0,0,0,0,0)).2.2.2.2.1 (s8.getD aw.toNat (0,0,0,0,0,0,0)).2.2.2.2.2.1 (s8.getD aw.toNat (0,0,0,0,0,0,0)).2.2.2.2.2.2 af).bind fun x0=>
   bif x0 then (bif zN (r1.length + 1) 56 then (let y0:List zC:=(r1++[(s8.getD aw.toNat (0,0,0,0,0,0,0))])
     rec s8 s9 (zA (aw+1)) af y0)
    else none)
   else rec s8 s9 (zA (aw+1)) af r1)
  else none)
 else some r1
def Jk (k:Nat):Nat→Zq
 |0,_,_,_,_,_=>none
 |n+1,s8,s9,aw,af,r1=>Eo k (Jk k n) s8 s9 aw af r1
def Vw (k:Nat)(a0:List zC)(cU:Int):Option (List zC):=
 (Jk k k a0 (a0.length:Int) 0 cU []).bind fun z=>
 some z
def En (k:Nat)(a0:List zC)(a1:Int):Option (List zC):=
 (Vw k a0 a1).bind fun x0=>
 some x0
def VC (k:Nat)(ca bc bB cq bM bX bO gG ct dt dZ du iE iF:Int):Option Bool:=
 bif decide (bc=ct) then some (!(decide (bM=3)))
 else some false
abbrev qR4:Type:=List zC→Int→Int→Int→Int→Int→Int→Int→Int→Int→Option (Unit⊕Int)
def Ew (k:Nat)(rec:qR4)(s0:List zC)(s7 s8 af ah ai ag aZ bn bo:Int):Option (Unit⊕Int):=
 bif decide (s8 < s7) then (bif zB s8 s0.length then ((VC k (s0.getD s8.toNat (0,0,0,0,0,0,0)).1 (s0.getD s8.toNat (0,0,0,0,0,0,0)).2.1 (s0.getD s8.toNat (0,0,0,0,0,0,0)).2.2.1 (s0.getD s8.toNat (0,0,0,0,0,0,0)).2.2.2.1 (s0.getD s8.toNat (0,0,0,0,0,0,0)).2.2.2.2.1 (s0.getD s8.toNat (0,0,0,0,0,0,0)).2.2.2.2.2.1 (s0.getD s8.toNat (0,0,0,0,0,0,0)).2.2.2.2.2.2 af ah ai ag aZ bn bo).bind fun x0=>
   bif x0 then some (.inr s8)
   else rec s0 s7 (zA (s8+1)) af ah ai ag aZ bn bo)
  else none)
 else some (.inl ())
def Jp (k:Nat):Nat→qR4
 |0,_,_,_,_,_,_,_,_,_,_=>none
 |n+1,s0,s7,s8,af,ah,ai,ag,aZ,bn,bo=>Ew k (Jp k n) s0 s7 s8 af ah ai ag aZ bn bo
def VD (k:Nat)(a0:List zC)(lR fJ lS dw ee eg fK:Int):Option Int:=
 (Jp k k a0 (a0.length:Int) 0 lR fJ lS dw ee eg fK).bind fun z=>
 match z with
 |.inl z1=>some (-1)
 |.inr z2=>some z2
def NY (k:Nat)(a0:List zC)(lR fJ lS dw ee eg fK:Int):Option Bool:=
 (VD k a0 lR fJ lS dw ee eg fK).bind fun x0=>
 some (decide (x0≥0))
def VF (k:Nat)(ca bc bB cq bM bX bO:Int)(a1:List jY)(a2:List zC):Option (Bool×(List jY)):=
 bif !(Option.getD (List.lookup bc a1) false) then some (true,((bc,true)::a1))
 else bif decide (bM = 3) then ((NY k a2 ca bc bB cq bM bX bO).bind fun x0=>
  some ((!x0),((bc,true)::a1)))
 else some (false,((bc,true)::a1))
abbrev qSb:Type:=(List jY)×(List zC)×(List zC)
abbrev yAm:Type:=List zC→Int→Int→List jY→List zC→List zC→Option qSb
def Ez (k:Nat)(rec:yAm)(s8:List zC)(s9 aw:Int)(p1:List jY)(ba r3:List zC):Option qSb:=
 bif decide (aw < s9) then (bif zB aw s8.length then ((VF k (s8.getD aw.toNat (0,0,0,0,0,0,0)).1 (s8.getD aw.toNat (0,0,0,0,0,0,0)).2.1 (s8.getD aw.toNat (0,0,0,0,0,0,0)).2.2.1 (s8.getD aw.toNat (0,0,0,0,0,0,0)).2.2.2.1 (s8.getD aw.toNat (0,0,0,0,0,0,0)).2.2.2.2.1 (s8.getD aw.toNat (0,0,0,0,0,0,0)).2.2.2.2.2.1 (s8.getD aw.toNat (0,0,0,0,0,0,0)).2.2.2.2.2.2 p1 ba).bind fun x0=>
   bif x0.1 then (bif zN (r3.length + 1) 56 then (let y0:List zC:=(r3++[(s8.getD aw.toNat (0,0,0,0,0,0,0))])
     rec s8 s9 (zA (aw+1)) x0.2 ba y0)
    else none)
   else rec s8 s9 (zA (aw+1)) x0.2 ba r3)
  else none)
 else some (p1,ba,r3)
def Ey (k:Nat):Nat→yAm
 |0,_,_,_,_,_,_=>none
 |n+1,s8,s9,aw,p1,ba,r3=>Ez k (Ey k n) s8 s9 aw p1 ba r3
def VE (k:Nat)(a0:List zC)(cU:List jY)(abz:List zC):Option ((List zC)×(List jY)):=
 (Ey k k a0 (a0.length:Int) 0 cU abz []).bind fun z=>
 some (z.2.2,z.1)
def Jq (k:Nat)(a0:List zC)(a1:Int):Option (List zC):=
 (En k a0 a1).bind fun x0=>
 (VE k x0 [] x0).bind fun x1=>
 some x1.1
def DQ (k:Nat)(au:List zI)(az:EQ)(ay:AC)(ax:EQ)(gG ct dt dZ du iE iF:Int):Option Bool:=
 bif decide (ct ≥ 0) then (bif decide (ct < (au.length : Int)) then (bif decide (dt ≥ 0) then (bif decide (dt < (au.length : Int)) then (bif !(decide (ct = dt)) then (bif decide (dZ ≥ 1) then (bif decide (dZ ≤ 1099511627776) then (bif decide (du≥1) then some (decide (du≤3))
        else some false)
       else some false)
      else some false)
     else some false)
    else some false)
   else some false)
  else some false)
 else some false
def Vt (k:Nat)(ca bc bB cq bM bX bO:Int)(cT:List zI)(iI:EQ)(iJ:AC)(iK:EQ):Option Bool:=
 (DQ k cT iI iJ iK ca bc bB cq bM bX bO).bind fun x0=>
 some (!x0)
abbrev qKu:Type:=List zC→Int→Int→List zI→EQ→AC→EQ→Option (Unit⊕Int)
def Em (k:Nat)(rec:qKu)(s0:List zC)(s7 s8:Int)(af:List zI)(ah:EQ)(ai:AC)(ag:EQ):Option (Unit⊕Int):=
 bif decide (s8 < s7) then (bif zB s8 s0.length then ((Vt k (s0.getD s8.toNat (0,0,0,0,0,0,0)).1 (s0.getD s8.toNat (0,0,0,0,0,0,0)).2.1 (s0.getD s8.toNat (0,0,0,0,0,0,0)).2.2.1 (s0.getD s8.toNat (0,0,0,0,0,0,0)).2.2.2.1 (s0.getD s8.toNat (0,0,0,0,0,0,0)).2.2.2.2.1 (s0.getD s8.toNat (0,0,0,0,0,0,0)).2.2.2.2.2.1 (s0.getD s8.toNat (0,0,0,0,0,0,0)).2.2.2.2.2.2 af ah ai ag).bind fun x0=>
   bif x0 then some (.inr s8)
   else rec s0 s7 (zA (s8+1)) af ah ai ag)
  else none)
 else some (.inl ())
def Ji (k:Nat):Nat→qKu
 |0,_,_,_,_,_,_,_=>none
 |n+1,s0,s7,s8,af,ah,ai,ag=>Em k (Ji k n) s0 s7 s8 af ah ai ag
def Vu (k:Nat)(a0:List zC)(bI:List zI)(cw:EQ)(cy:AC)(cz:EQ):Option Int:=
 (Ji k k a0 (a0.length:Int) 0 bI cw cy cz).bind fun z=>
 match z with
 |.inl z1=>some (-1)
 |.inr z2=>some z2
def NU (k:Nat)(a0:List zC)(bI:List zI)(cw:EQ)(cy:AC)(cz:EQ):Option Bool:=
 (Vu k a0 bI cw cy cz).bind fun x0=>
 some (decide (x0≥0))
abbrev qQh:Type:=AC×AC×EQ
abbrev qQm:Type:=List zC→Int→Int→AC→AC→EQ→Option qQh
def Ee (k:Nat)(rec:qQm)(aP:List zC)(bV bm:Int)(r2 r3:AC)(m4:EQ):Option qQh:=
 bif decide (bm < bV) then (bif zB bm aP.length then (bif zB (aP.getD bm.toNat (0, 0, 0, 0, 0, 0, 0)).2.1 r2.length then (bif zB (aP.getD bm.toNat (0, 0, 0, 0, 0, 0, 0)).2.1 r2.length then (let y0:AC:=(r2.set (aP.getD bm.toNat (0,0,0,0,0,0,0)).2.1.toNat (zA ((r2.getD (aP.getD bm.toNat (0,0,0,0,0,0,0)).2.1.toNat 0)-(aP.getD bm.toNat (0,0,0,0,0,0,0)).2.2.2.1)))
     bif zB (aP.getD bm.toNat (0, 0, 0, 0, 0, 0, 0)).2.2.1 y0.length then (bif zB (aP.getD bm.toNat (0, 0, 0, 0, 0, 0, 0)).2.2.1 y0.length then (let y1:AC:=(y0.set (aP.getD bm.toNat (0,0,0,0,0,0,0)).2.2.1.toNat (zA ((y0.getD (aP.getD bm.toNat (0,0,0,0,0,0,0)).2.2.1.toNat 0)+(aP.getD bm.toNat (0,0,0,0,0,0,0)).2.2.2.1)))
       bif zB (aP.getD bm.toNat (0, 0, 0, 0, 0, 0, 0)).2.1 m4.length then (bif zB (aP.getD bm.toNat (0, 0, 0, 0, 0, 0, 0)).2.2.1 (m4.getD (aP.getD bm.toNat (0, 0, 0, 0, 0, 0, 0)).2.1.toNat []).length then (bif zB (aP.getD bm.toNat (0, 0, 0, 0, 0, 0, 0)).2.2.1 (m4.getD (aP.getD bm.toNat (0, 0, 0, 0, 0, 0, 0)).2.1.toNat []).length then (let y2:EQ:=(m4.set (aP.getD bm.toNat (0,0,0,0,0,0,0)).2.1.toNat ((m4.getD (aP.getD bm.toNat (0,0,0,0,0,0,0)).2.1.toNat []).set (aP.getD bm.toNat (0,0,0,0,0,0,0)).2.2.1.toNat (zA (((m4.getD (aP.getD bm.toNat (0,0,0,0,0,0,0)).2.1.toNat []).getD (aP.getD bm.toNat (0,0,0,0,0,0,0)).2.2.1.toNat 0)+(aP.getD bm.toNat (0,0,0,0,0,0,0)).2.2.2.1))))
          bif zB (aP.getD bm.toNat (0, 0, 0, 0, 0, 0, 0)).2.2.1 y2.length then (bif zB (aP.getD bm.toNat (0, 0, 0, 0, 0, 0, 0)).2.1 (y2.getD (aP.getD bm.toNat (0, 0, 0, 0, 0, 0, 0)).2.2.1.toNat []).length then (bif zB (aP.getD bm.toNat (0, 0, 0, 0, 0, 0, 0)).2.1 (y2.getD (aP.getD bm.toNat (0, 0, 0, 0, 0, 0, 0)).2.2.1.toNat []).length then (let y3:EQ:=(y2.set (aP.getD bm.toNat (0,0,0,0,0,0,0)).2.2.1.toNat ((y2.getD (aP.getD bm.toNat (0,0,0,0,0,0,0)).2.2.1.toNat []).set (aP.getD bm.toNat (0,0,0,0,0,0,0)).2.1.toNat (zA (((y2.getD (aP.getD bm.toNat (0,0,0,0,0,0,0)).2.2.1.toNat []).getD (aP.getD bm.toNat (0,0,0,0,0,0,0)).2.1.toNat 0)-(aP.getD bm.toNat (0,0,0,0,0,0,0)).2.2.2.1))))
             bif !(decide ((aP.getD bm.toNat (0, 0, 0, 0, 0, 0, 0)).2.2.2.2.1 = 3)) then (bif zB (aP.getD bm.toNat (0, 0, 0, 0, 0, 0, 0)).2.1 r3.length then (bif zB (aP.getD bm.toNat (0, 0, 0, 0, 0, 0, 0)).2.1 r3.length then (let y4:AC:=(r3.set (aP.getD bm.toNat (0,0,0,0,0,0,0)).2.1.toNat (zA ((r3.getD (aP.getD bm.toNat (0,0,0,0,0,0,0)).2.1.toNat 0)+(aP.getD bm.toNat (0,0,0,0,0,0,0)).2.2.2.1)))
                rec aP bV (zA (bm+1)) y1 y4 y3)
               else none)
              else none)
             else rec aP bV (zA (bm+1)) y1 r3 y3)
            else none)
           else none)
          else none)
         else none)
        else none)
       else none)
      else none)
     else none)
    else none)
   else none)
  else none)
 else some (r2,r3,m4)
def Je (k:Nat):Nat→qQm
 |0,_,_,_,_,_,_=>none
 |n+1,aP,bV,bm,r2,r3,m4=>Ee k (Je k n) aP bV bm r2 r3 m4
def NP (k:Nat)(a0:Int)(a1:List zC):Option (AC×AC×EQ):=
 (AB k a0 0).bind fun x0=>
 (AB k a0 0).bind fun x1=>
 (Ec k a0 0).bind fun x2=>
 (Je k k a1 (a1.length:Int) 0 x0 x1 x2).bind fun z=>
 some (z.1,z.2.1,z.2.2)
def Vl (k:Nat)(ca bc bB cq bM bX bO a1:Int):Option Bool:=
 some (decide (bc=a1))
def Ef (k:Nat)(rec:ZD)(s0:List zC)(s7 s8 af:Int):Option (Unit⊕Int):=
 bif decide (s8 < s7) then (bif zB s8 s0.length then ((Vl k (s0.getD s8.toNat (0,0,0,0,0,0,0)).1 (s0.getD s8.toNat (0,0,0,0,0,0,0)).2.1 (s0.getD s8.toNat (0,0,0,0,0,0,0)).2.2.1 (s0.getD s8.toNat (0,0,0,0,0,0,0)).2.2.2.1 (s0.getD s8.toNat (0,0,0,0,0,0,0)).2.2.2.2.1 (s0.getD s8.toNat (0,0,0,0,0,0,0)).2.2.2.2.2.1 (s0.getD s8.toNat (0,0,0,0,0,0,0)).2.2.2.2.2.2 af).bind fun x0=>
   bif x0 then some (.inr s8)
   else rec s0 s7 (zA (s8+1)) af)
  else none)
 else some (.inl ())
def Jf (k:Nat):Nat→ZD
 |0,_,_,_,_=>none
 |n+1,s0,s7,s8,af=>Ef k (Jf k n) s0 s7 s8 af
def Vm (k:Nat)(a0:List zC)(cU:Int):Option Int:=
 (Jf k k a0 (a0.length:Int) 0 cU).bind fun z=>
 match z with
 |.inl z1=>some (-1)
 |.inr z2=>some z2
def NQ (k:Nat)(a0:List zC)(cU:Int):Option Bool:=
 (Vm k a0 cU).bind fun x0=>
 some (decide (x0≥0))
def Ea (k:Nat)(rec:Int→AC→Int→Int→Option Int)(s5:Int)(de:AC)(bz bC:Int):Option Int:=
 bif decide (bC < bz) then (bif zB bC de.length then(rec (zA (s5+(de.getD bC.toNat 0))) de bz (zA (bC+1)))
  else none)
 else some s5
def D9 (k:Nat):Nat→Int→AC→Int→Int→Option Int
 |0,_,_,_,_=>none
 |n+1,s5,de,bz,bC=>Ea k (D9 k n) s5 de bz bC
def NM (k:Nat)(au:List zI)(az:EQ)(ay:AC)(ax:EQ)(a1:Int):Option Int:=
 bif zB a1 ax.length then ((D9 k k 0 (ax.getD a1.toNat []) ((ax.getD a1.toNat []).length:Int) 0).bind fun z=>
  some z)
 else none
def Eh (k:Nat)(a0 a1:Int):Option Bool:=
 bif !(decide (a1=(-1))) then some (decide (a0>a1))
 else some false
def Vo (k:Nat)(ca bc bB cq bM bX bO a1 nE pU nF:Int)(abA mJ:AC)(ek:EQ)(a4:Int)(Q6:List zI)(ik:EQ)(abN:AC)(il:EQ):Option Bool:=
 bif !(decide (bc=a1)) then some false
 else bif zB a1 mJ.length then ((v9 k nE pU nF (mJ.getD a1.toNat 0)).bind fun x0=>
  bif decide (bM = 3) then (bif decide (a4<x0) then some true
   else bif zB a1 il.length then (bif zB bB (il.getD a1.toNat []).length then (bif zB a1 ek.length then (bif zB bB (ek.getD a1.toNat []).length then (bif zB a1 ik.length then (bif zB bB (ik.getD a1.toNat []).length then ((Eh k (zA (((il.getD a1.toNat []).getD bB.toNat 0)+((ek.getD a1.toNat []).getD bB.toNat 0))) ((ik.getD a1.toNat []).getD bB.toNat 0)).bind fun x1=>
         some x1)
        else none)
       else none)
      else none)
     else none)
    else none)
   else none)
  else bif zB a1 il.length then (bif zB bB (il.getD a1.toNat []).length then (bif zB a1 ek.length then (bif zB bB (ek.getD a1.toNat []).length then (bif zB a1 ik.length then (bif zB bB (ik.getD a1.toNat []).length then ((Eh k (zA (((il.getD a1.toNat []).getD bB.toNat 0)+((ek.getD a1.toNat []).getD bB.toNat 0))) ((ik.getD a1.toNat []).getD bB.toNat 0)).bind fun x2=>
        some x2)
       else none)
      else none)
     else none)
    else none)
   else none)
  else none)
 else none
abbrev qXu:Type:=List zC→Int→Int→Int→Int→Int→Int→AC→AC→EQ→Int→List zI→EQ→AC→EQ→Option (Unit⊕Int)
def Ei (k:Nat)(rec:qXu)(s0:List zC)(s7 s8 af av aA aB:Int)(ba bS:AC)(bT:EQ)(cd:Int)(iM:List zI)(ur:EQ)(uu:AC)(uv:EQ):Option (Unit⊕Int):=
 bif decide (s8 < s7) then (bif zB s8 s0.length then ((Vo k (s0.getD s8.toNat (0,0,0,0,0,0,0)).1 (s0.getD s8.toNat (0,0,0,0,0,0,0)).2.1 (s0.getD s8.toNat (0,0,0,0,0,0,0)).2.2.1 (s0.getD s8.toNat (0,0,0,0,0,0,0)).2.2.2.1 (s0.getD s8.toNat (0,0,0,0,0,0,0)).2.2.2.2.1 (s0.getD s8.toNat (0,0,0,0,0,0,0)).2.2.2.2.2.1 (s0.getD s8.toNat (0,0,0,0,0,0,0)).2.2.2.2.2.2 af av aA aB ba bS bT cd iM ur uu uv).bind fun x0=>
   bif x0 then some (.inr s8)
   else rec s0 s7 (zA (s8+1)) af av aA aB ba bS bT cd iM ur uu uv)
  else none)
 else some (.inl ())
def Jh (k:Nat):Nat→qXu
 |0,_,_,_,_,_,_,_,_,_,_,_,_,_,_,_=>none
 |n+1,s0,s7,s8,af,av,aA,aB,ba,bS,bT,cd,iM,ur,uu,uv=>Ei k (Jh k n) s0 s7 s8 af av aA aB ba bS bT cd iM ur uu uv
def Vp (k:Nat)(a0:List zC)(cU cV dy cW:Int)(fL eu:AC)(fM:EQ)(BR:Int)(ez:List zI)(iN:EQ)(iO:AC)(iP:EQ):Option Int:=
 (Jh k k a0 (a0.length:Int) 0 cU cV dy cW fL eu fM BR ez iN iO iP).bind fun z=>
 match z with
 |.inl z1=>some (-1)
 |.inr z2=>some z2
def NR (k:Nat)(a0:List zC)(cU cV dy cW:Int)(fL eu:AC)(fM:EQ)(BR:Int)(ez:List zI)(iN:EQ)(iO:AC)(iP:EQ):Option Bool:=
 (Vp k a0 cU cV dy cW fL eu fM BR ez iN iO iP).bind fun x0=>
 some (decide (x0≥0))
abbrev qS6:Type:=(List zC)×Int×AC×AC×EQ×(List zI)×EQ×AC×EQ×Int×Int×Int×Int×Int
abbrev qOj:Type:=List zC→Int→AC→Int→Int→AC→AC→EQ→List zI→EQ→AC→EQ→Int→Int→Int→Int→Int→Option qS6
def Ej (k:Nat)(rec:qOj)(s3:List zC)(aN:Int)(kY:AC)(gk iL:Int)(af ah:AC)(ai:EQ)(av:List zI)(aA:EQ)(aB:AC)(aD:EQ)(ba cd cX di iM:Int):Option qS6:=
 bif decide (iL < gk) then (bif zB iL kY.length then(rec s3 (zA (aN+(kY.getD iL.toNat 0))) kY gk (zA (iL+1)) af ah ai av aA aB aD ba cd cX di iM)
  else none)
 else some (s3,aN,af,ah,ai,av,aA,aB,aD,ba,cd,cX,di,iM)
def AF (k:Nat):Nat→qOj
 |0,_,_,_,_,_,_,_,_,_,_,_,_,_,_,_,_,_=>none
 |n+1,s3,aN,kY,gk,iL,af,ah,ai,av,aA,aB,aD,ba,cd,cX,di,iM=>Ej k (AF k n) s3 aN kY gk iL af ah ai av aA aB aD ba cd cX di iM
def NT (k:Nat)(iQ uw:AC)(iR:EQ)(cT:List zI)(iI:EQ)(iJ:AC)(iK:EQ)(a2:Int)(a3:List zC):Option Bool:=
 bif zB a2 cT.length then (bif zB a2 iQ.length then (bif decide ((zA ((zA ((cT.getD a2.toNat (0,0,0)).1+(cT.getD a2.toNat (0,0,0)).2.1))+(iQ.getD a2.toNat 0)))<0) then some true
   else(NM k cT iI iJ iK a2).bind fun x0=>
   bif zB a2 iR.length then ((AF k k a3 x0 (iR.getD a2.toNat []) ((iR.getD a2.toNat []).length:Int) 0 iQ uw iR cT iI iJ iK a2 (cT.getD a2.toNat (0,0,0)).1 (cT.getD a2.toNat (0,0,0)).2.1 (cT.getD a2.toNat (0,0,0)).2.2 (zA ((zA ((cT.getD a2.toNat (0,0,0)).1+(cT.getD a2.toNat (0,0,0)).2.1))+(iQ.getD a2.toNat 0)))).bind fun z=>
    bif zB z.2.2.2.2.2.2.2.2.2.1 z.2.2.2.2.2.2.2.1.length then ((Eh k z.2.1 (z.2.2.2.2.2.2.2.1.getD z.2.2.2.2.2.2.2.2.2.1.toNat 0)).bind fun x1=>
     bif x1 then some true
     else(NR k z.1 z.2.2.2.2.2.2.2.2.2.1 z.2.2.2.2.2.2.2.2.2.2.1 z.2.2.2.2.2.2.2.2.2.2.2.1 z.2.2.2.2.2.2.2.2.2.2.2.2.1 z.2.2.1 z.2.2.2.1 z.2.2.2.2.1 z.2.2.2.2.2.2.2.2.2.2.2.2.2 z.2.2.2.2.2.1 z.2.2.2.2.2.2.1 z.2.2.2.2.2.2.2.1 z.2.2.2.2.2.2.2.2.1).bind fun x2=>
     some x2)
    else none)
   else none)
  else none)
 else none
abbrev qYc:Type:=List zC→Int→Int→List zI→EQ→AC→EQ→AC→AC→EQ→AC→Option AC
def El (k:Nat)(rec:qYc)(s1:List zC)(bV bm:Int)(af:List zI)(ah:EQ)(ai:AC)(ag:EQ)(r2 r3:AC)(m4:EQ)(r5:AC):Option AC:=
 bif decide (bm < bV) then ((NQ k s1 bm).bind fun x1=>
  bif x1 then ((NT k r2 r3 m4 af ah ai ag bm s1).bind fun x2=>
   bif x2 then (bif zN (r5.length+1) 8 then(rec s1 bV (zA (bm+1)) af ah ai ag r2 r3 m4 (r5++[bm]))
    else none)
   else rec s1 bV (zA (bm+1)) af ah ai ag r2 r3 m4 r5)
  else rec s1 bV (zA (bm+1)) af ah ai ag r2 r3 m4 r5)
 else some r5
def Ek (k:Nat):Nat→qYc
 |0,_,_,_,_,_,_,_,_,_,_,_=>none
 |n+1,s1,bV,bm,af,ah,ai,ag,r2,r3,m4,r5=>El k (Ek k n) s1 bV bm af ah ai ag r2 r3 m4 r5
def AG (k:Nat)(au:List zI)(az:EQ)(ay:AC)(ax:EQ)(a1:List zC):Option AC:=
 (NP k (au.length:Int) a1).bind fun x0=>
 (Ek k k a1 (au.length:Int) 0 au az ay ax x0.1 x0.2.1 x0.2.2 []).bind fun z=>
 some z
def AH (k:Nat)(au:List zI)(az:EQ)(ay:AC)(ax:EQ)(a1:List zC):Option Bool:=
 bif decide ((a1.length : Int) ≤ 64) then ((NU k a1 au az ay ax).bind fun x0=>
  bif !x0 then ((AG k au az ay ax a1).bind fun x1=>
   some (decide ((x1.length:Int)=0)))
  else some false)
 else some false
def U5 (k:Nat)(ca bc bB cq bM bX bO:Int)(cT:List zI)(iI:EQ)(iJ:AC)(iK:EQ):Option Bool:=
 (DQ k cT iI iJ iK ca bc bB cq bM bX bO).bind fun x0=>
 some (!x0)
def DR (k:Nat)(rec:qKu)(s0:List zC)(s7 s8:Int)(af:List zI)(ah:EQ)(ai:AC)(ag:EQ):Option (Unit⊕Int):=
 bif decide (s8 < s7) then (bif zB s8 s0.length then ((U5 k (s0.getD s8.toNat (0,0,0,0,0,0,0)).1 (s0.getD s8.toNat (0,0,0,0,0,0,0)).2.1 (s0.getD s8.toNat (0,0,0,0,0,0,0)).2.2.1 (s0.getD s8.toNat (0,0,0,0,0,0,0)).2.2.2.1 (s0.getD s8.toNat (0,0,0,0,0,0,0)).2.2.2.2.1 (s0.getD s8.toNat (0,0,0,0,0,0,0)).2.2.2.2.2.1 (s0.getD s8.toNat (0,0,0,0,0,0,0)).2.2.2.2.2.2 af ah ai ag).bind fun x0=>
   bif x0 then some (.inr s8)
   else rec s0 s7 (zA (s8+1)) af ah ai ag)
  else none)
 else some (.inl ())
def IZ (k:Nat):Nat→qKu
 |0,_,_,_,_,_,_,_=>none
 |n+1,s0,s7,s8,af,ah,ai,ag=>DR k (IZ k n) s0 s7 s8 af ah ai ag
def U6 (k:Nat)(a0:List zC)(bI:List zI)(cw:EQ)(cy:AC)(cz:EQ):Option Int:=
 (IZ k k a0 (a0.length:Int) 0 bI cw cy cz).bind fun z=>
 match z with
 |.inl z1=>some (-1)
 |.inr z2=>some z2
def Nw (k:Nat)(a0:List zC)(bI:List zI)(cw:EQ)(cy:AC)(cz:EQ):Option Bool:=
 (U6 k a0 bI cw cy cz).bind fun x0=>
 some (decide (x0≥0))
def UQ (k:Nat)(bq bD aT:Int):Option Bool:=
 (Ni k bq bD aT).bind fun x0=>
 some (!x0)
abbrev qUo:Type:=List zI→Int→Int→Option (Unit⊕Int)
def DD (k:Nat)(rec:qUo)(s0:List zI)(s7 s8:Int):Option (Unit⊕Int):=
 bif decide (s8 < s7) then (bif zB s8 s0.length then ((UQ k (s0.getD s8.toNat (0,0,0)).1 (s0.getD s8.toNat (0,0,0)).2.1 (s0.getD s8.toNat (0,0,0)).2.2).bind fun x0=>
   bif x0 then some (.inr s8)
   else rec s0 s7 (zA (s8+1)))
  else none)
 else some (.inl ())
def IG (k:Nat):Nat→qUo
 |0,_,_,_=>none
 |n+1,s0,s7,s8=>DD k (IG k n) s0 s7 s8
def UR (k:Nat)(a0:List zI):Option Int:=
 (IG k k a0 (a0.length:Int) 0).bind fun z=>
 match z with
 |.inl z1=>some (-1)
 |.inr z2=>some z2
def Nl (k:Nat)(a0:List zI):Option Bool:=
 (UR k a0).bind fun x0=>
 some (decide (x0≥0))
def UO (k:Nat)(a0:Int):Option Bool:=
 bif decide (a0≥(-1)) then some (decide (a0≤2305843009213693952))
 else some false
def UT (k:Nat)(a0:Int):Option Bool:=
 (UO k a0).bind fun x0=>
 some (!x0)
abbrev yAt:Type:=AC→Int→Int→Option (Unit⊕Int)
def DE (k:Nat)(rec:yAt)(s0:AC)(s7 s8:Int):Option (Unit⊕Int):=
 bif decide (s8 < s7) then (bif zB s8 s0.length then ((UT k (s0.getD s8.toNat 0)).bind fun x0=>
   bif x0 then some (.inr s8)
   else rec s0 s7 (zA (s8+1)))
  else none)
 else some (.inl ())
def IH (k:Nat):Nat→yAt
 |0,_,_,_=>none
 |n+1,s0,s7,s8=>DE k (IH k n) s0 s7 s8
def UU (k:Nat)(a0:AC):Option Int:=
 (IH k k a0 (a0.length:Int) 0).bind fun z=>
 match z with
 |.inl z1=>some (-1)
 |.inr z2=>some z2
def Nm (k:Nat)(a0:AC):Option Bool:=
 (UU k a0).bind fun x0=>
 some (decide (x0≥0))
def IJ (k:Nat)(a0:AC)(a1:Int):Option Bool:=
 bif decide ((a0.length : Int) = a1) then ((Nm k a0).bind fun x0=>
  some (!x0))
 else some false
abbrev qS3:Type:=Int→EQ→Int→Int→Option (Unit⊕Bool)
def DG (k:Nat)(rec:qS3)(s1:Int)(bz:EQ)(bC aP:Int):Option (Unit⊕Bool):=
 bif decide (aP < bC) then (bif zB aP bz.length then ((IJ k (bz.getD aP.toNat []) s1).bind fun x0=>
   bif !x0 then some (.inr false)
   else rec s1 bz bC (zA (aP+1)))
  else none)
 else some (.inl ())
def IK (k:Nat):Nat→qS3
 |0,_,_,_,_=>none
 |n+1,s1,bz,bC,aP=>DG k (IK k n) s1 bz bC aP
def Np (k:Nat)(a0:EQ)(a1:Int):Option Bool:=
 bif !(decide ((a0.length:Int)=a1)) then some false
 else(IK k k a1 a0 (a0.length:Int) 0).bind fun z=>
 match z with
 |.inl z1=>some true
 |.inr z2=>some z2
def Nj (k:Nat)(a0:Int):Option Bool:=
 bif decide (a0>(-72057594037927936)) then some (decide (a0<72057594037927936))
 else some false
def UW (k:Nat)(a0:Int):Option Bool:=
 (Nj k a0).bind fun x0=>
 some (!x0)
def DF (k:Nat)(rec:yAt)(s0:AC)(s7 s8:Int):Option (Unit⊕Int):=
 bif decide (s8 < s7) then (bif zB s8 s0.length then ((UW k (s0.getD s8.toNat 0)).bind fun x0=>
   bif x0 then some (.inr s8)
   else rec s0 s7 (zA (s8+1)))
  else none)
 else some (.inl ())
def II (k:Nat):Nat→yAt
 |0,_,_,_=>none
 |n+1,s0,s7,s8=>DF k (II k n) s0 s7 s8
def UX (k:Nat)(a0:AC):Option Int:=
 (II k k a0 (a0.length:Int) 0).bind fun z=>
 match z with
 |.inl z1=>some (-1)
 |.inr z2=>some z2
def Nn (k:Nat)(a0:AC):Option Bool:=
 (UX k a0).bind fun x0=>
 some (decide (x0≥0))
def No (k:Nat)(a0:AC)(a1:Int):Option Bool:=
 bif decide ((a0.length : Int) = a1) then ((Nn k a0).bind fun x0=>
  some (!x0))
 else some false
def DH (k:Nat)(rec:qS3)(s1:Int)(bz:EQ)(bC aP:Int):Option (Unit⊕Bool):=
 bif decide (aP < bC) then (bif zB aP bz.length then ((No k (bz.getD aP.toNat []) s1).bind fun x0=>
   bif !x0 then some (.inr false)
   else rec s1 bz bC (zA (aP+1)))
  else none)
 else some (.inl ())
def IL (k:Nat):Nat→qS3
 |0,_,_,_,_=>none
 |n+1,s1,bz,bC,aP=>DH k (IL k n) s1 bz bC aP
def Nq (k:Nat)(a0:EQ)(a1:Int):Option Bool:=
 bif !(decide ((a0.length:Int)=a1)) then some false
 else(IL k k a1 a0 (a0.length:Int) 0).bind fun z=>
 match z with
 |.inl z1=>some true
 |.inr z2=>some z2
abbrev qKg:Type:=(EQ×EQ×Int×Int)⊕Bool
abbrev qTy:Type:=EQ→Int→EQ→Int→Int→AC→Int→Int→Option qKg
def DJ (k:Nat)(rec:qTy)(s0:EQ)(s3:Int)(s7:EQ)(s8 s9:Int)(bC:AC)(aP bV:Int):Option qKg:=
 bif decide (bV < aP) then (bif zB bV bC.length then (bif zB bV s0.length then (bif zB s3 (s0.getD bV.toNat []).length then (bif !(decide (((s0.getD bV.toNat []).getD s3.toNat 0)=(zA (0-(bC.getD bV.toNat 0))))) then some (.inr false)
     else rec s0 s3 s7 s8 s9 bC aP (zA (bV+1)))
    else none)
   else none)
  else none)
 else some (.inl (s0,s7,s8,s9))
def DI (k:Nat):Nat→qTy
 |0,_,_,_,_,_,_,_,_=>none
 |n+1,s0,s3,s7,s8,s9,bC,aP,bV=>DJ k (DI k n) s0 s3 s7 s8 s9 bC aP bV
abbrev qVj:Type:=EQ→EQ→Int→Int→Option (Unit⊕Bool)
def DK (k:Nat)(rec:qVj)(s0 s7:EQ)(s8 s9:Int):Option (Unit⊕Bool):=
 bif decide (s9 < s8) then (bif zB s9 s7.length then ((DI k k s0 s9 s7 s8 s9 (s7.getD s9.toNat []) ((s7.getD s9.toNat []).length:Int) 0).bind fun z=>
   match z with
   |.inl z1=>rec z1.1 z1.2.1 z1.2.2.1 (zA (z1.2.2.2+1))
   |.inr z2=>some (.inr z2))
  else none)
 else some (.inl ())
def IM (k:Nat):Nat→qVj
 |0,_,_,_,_=>none
 |n+1,s0,s7,s8,s9=>DK k (IM k n) s0 s7 s8 s9
def Nr (k:Nat)(a0:EQ):Option Bool:=
 (IM k k a0 a0 (a0.length:Int) 0).bind fun z3=>
 match z3 with
 |.inl z4=>some true
 |.inr z5=>some z5
def Av (k:Nat)(au:List zI)(az:EQ)(ay:AC)(ax:EQ):Option Bool:=
 bif decide ((au.length:Int)<1) then some false
 else bif decide ((au.length:Int)>6) then some false
 else(Nl k au).bind fun x0=>
 bif x0 then some false
 else(Np k az (au.length:Int)).bind fun x1=>
 bif x1 then ((IJ k ay (au.length:Int)).bind fun x2=>
  bif x2 then ((Nq k ax (au.length:Int)).bind fun x3=>
   bif x3 then ((Nr k ax).bind fun x4=>
    some x4)
   else some false)
  else some false)
 else some false
abbrev qWm:Type:=(List zI)×EQ×AC×EQ×(List zI)×EQ×AC×EQ
abbrev qOi:Type:=List zC→Int→Int→List zI→EQ→AC→EQ→List zI→EQ→AC→EQ→Option qWm
def DV (k:Nat)(rec:qOi)(bx:List zC)(jy aW:Int)(af:List zI)(ah:EQ)(ai:AC)(ag:EQ)(r3:List zI)(m4:EQ)(r5:AC)(m6:EQ):Option qWm:=
 bif decide (aW < jy) then (bif zB aW bx.length then (bif zB (bx.getD aW.toNat (0, 0, 0, 0, 0, 0, 0)).2.1 r3.length then (bif zB (bx.getD aW.toNat (0, 0, 0, 0, 0, 0, 0)).2.2.1 r3.length then (let y0:List zI:=(r3.set (bx.getD aW.toNat (0,0,0,0,0,0,0)).2.1.toNat ((zA ((r3.getD (bx.getD aW.toNat (0,0,0,0,0,0,0)).2.1.toNat (0,0,0)).1-(bx.getD aW.toNat (0,0,0,0,0,0,0)).2.2.2.1)),(r3.getD (bx.getD aW.toNat (0,0,0,0,0,0,0)).2.1.toNat (0,0,0)).2))
     let y1:List zI:=(y0.set (bx.getD aW.toNat (0,0,0,0,0,0,0)).2.2.1.toNat ((zA ((y0.getD (bx.getD aW.toNat (0,0,0,0,0,0,0)).2.2.1.toNat (0,0,0)).1+(bx.getD aW.toNat (0,0,0,0,0,0,0)).2.2.2.1)),(y0.getD (bx.getD aW.toNat (0,0,0,0,0,0,0)).2.2.1.toNat (0,0,0)).2))
     bif !(decide ((bx.getD aW.toNat (0, 0, 0, 0, 0, 0, 0)).2.2.2.2.1 = 3)) then ((v9 k (y1.getD (bx.getD aW.toNat (0,0,0,0,0,0,0)).2.1.toNat (0,0,0)).1 (y1.getD (bx.getD aW.toNat (0,0,0,0,0,0,0)).2.1.toNat (0,0,0)).2.1 (y1.getD (bx.getD aW.toNat (0,0,0,0,0,0,0)).2.1.toNat (0,0,0)).2.2 (bx.getD aW.toNat (0,0,0,0,0,0,0)).2.2.2.1).bind fun x2=>
      let y2:List zI:=(y1.set (bx.getD aW.toNat (0,0,0,0,0,0,0)).2.1.toNat ((y1.getD (bx.getD aW.toNat (0,0,0,0,0,0,0)).2.1.toNat (0,0,0)).1,(y1.getD (bx.getD aW.toNat (0,0,0,0,0,0,0)).2.1.toNat (0,0,0)).2.1,x2))
      bif zB (bx.getD aW.toNat (0, 0, 0, 0, 0, 0, 0)).2.1 m6.length then (bif zB (bx.getD aW.toNat (0, 0, 0, 0, 0, 0, 0)).2.2.1 (m6.getD (bx.getD aW.toNat (0, 0, 0, 0, 0, 0, 0)).2.1.toNat []).length then (bif zB (bx.getD aW.toNat (0, 0, 0, 0, 0, 0, 0)).2.2.1 (m6.getD (bx.getD aW.toNat (0, 0, 0, 0, 0, 0, 0)).2.1.toNat []).length then (let y3:EQ:=(m6.set (bx.getD aW.toNat (0,0,0,0,0,0,0)).2.1.toNat ((m6.getD (bx.getD aW.toNat (0,0,0,0,0,0,0)).2.1.toNat []).set (bx.getD aW.toNat (0,0,0,0,0,0,0)).2.2.1.toNat (zA (((m6.getD (bx.getD aW.toNat (0,0,0,0,0,0,0)).2.1.toNat []).getD (bx.getD aW.toNat (0,0,0,0,0,0,0)).2.2.1.toNat 0)+(bx.getD aW.toNat (0,0,0,0,0,0,0)).2.2.2.1))))
         bif zB (bx.getD aW.toNat (0, 0, 0, 0, 0, 0, 0)).2.2.1 y3.length then (bif zB (bx.getD aW.toNat (0, 0, 0, 0, 0, 0, 0)).2.1 (y3.getD (bx.getD aW.toNat (0, 0, 0, 0, 0, 0, 0)).2.2.1.toNat []).length then (bif zB (bx.getD aW.toNat (0, 0, 0, 0, 0, 0, 0)).2.1 (y3.getD (bx.getD aW.toNat (0, 0, 0, 0, 0, 0, 0)).2.2.1.toNat []).length then (let y4:EQ:=(y3.set (bx.getD aW.toNat (0,0,0,0,0,0,0)).2.2.1.toNat ((y3.getD (bx.getD aW.toNat (0,0,0,0,0,0,0)).2.2.1.toNat []).set (bx.getD aW.toNat (0,0,0,0,0,0,0)).2.1.toNat (zA (((y3.getD (bx.getD aW.toNat (0,0,0,0,0,0,0)).2.2.1.toNat []).getD (bx.getD aW.toNat (0,0,0,0,0,0,0)).2.1.toNat 0)-(bx.getD aW.toNat (0,0,0,0,0,0,0)).2.2.2.1))))
            rec bx jy (zA (aW+1)) af ah ai ag y2 m4 r5 y4)
           else none)
          else none)
         else none)
        else none)
       else none)
      else none)
     else bif zB (bx.getD aW.toNat (0, 0, 0, 0, 0, 0, 0)).2.1 m6.length then (bif zB (bx.getD aW.toNat (0, 0, 0, 0, 0, 0, 0)).2.2.1 (m6.getD (bx.getD aW.toNat (0, 0, 0, 0, 0, 0, 0)).2.1.toNat []).length then (bif zB (bx.getD aW.toNat (0, 0, 0, 0, 0, 0, 0)).2.2.1 (m6.getD (bx.getD aW.toNat (0, 0, 0, 0, 0, 0, 0)).2.1.toNat []).length then (let y5:EQ:=(m6.set (bx.getD aW.toNat (0,0,0,0,0,0,0)).2.1.toNat ((m6.getD (bx.getD aW.toNat (0,0,0,0,0,0,0)).2.1.toNat []).set (bx.getD aW.toNat (0,0,0,0,0,0,0)).2.2.1.toNat (zA (((m6.getD (bx.getD aW.toNat (0,0,0,0,0,0,0)).2.1.toNat []).getD (bx.getD aW.toNat (0,0,0,0,0,0,0)).2.2.1.toNat 0)+(bx.getD aW.toNat (0,0,0,0,0,0,0)).2.2.2.1))))
        bif zB (bx.getD aW.toNat (0, 0, 0, 0, 0, 0, 0)).2.2.1 y5.length then (bif zB (bx.getD aW.toNat (0, 0, 0, 0, 0, 0, 0)).2.1 (y5.getD (bx.getD aW.toNat (0, 0, 0, 0, 0, 0, 0)).2.2.1.toNat []).length then (bif zB (bx.getD aW.toNat (0, 0, 0, 0, 0, 0, 0)).2.1 (y5.getD (bx.getD aW.toNat (0, 0, 0, 0, 0, 0, 0)).2.2.1.toNat []).length then (let y6:EQ:=(y5.set (bx.getD aW.toNat (0,0,0,0,0,0,0)).2.2.1.toNat ((y5.getD (bx.getD aW.toNat (0,0,0,0,0,0,0)).2.2.1.toNat []).set (bx.getD aW.toNat (0,0,0,0,0,0,0)).2.1.toNat (zA (((y5.getD (bx.getD aW.toNat (0,0,0,0,0,0,0)).2.2.1.toNat []).getD (bx.getD aW.toNat (0,0,0,0,0,0,0)).2.1.toNat 0)-(bx.getD aW.toNat (0,0,0,0,0,0,0)).2.2.2.1))))
           rec bx jy (zA (aW+1)) af ah ai ag y1 m4 r5 y6)
          else none)
         else none)
        else none)
       else none)
      else none)
     else none)
    else none)
   else none)
  else none)
 else some (af,ah,ai,ag,r3,m4,r5,m6)
def DU (k:Nat):Nat→qOi
 |0,_,_,_,_,_,_,_,_,_,_,_=>none
 |n+1,bx,jy,aW,af,ah,ai,ag,r3,m4,r5,m6=>DV k (DU k n) bx jy aW af ah ai ag r3 m4 r5 m6
def pw (k:Nat)(au:List zI)(az:EQ)(ay:AC)(ax:EQ)(a1:List zC):Option ((List zI)×EQ×AC×EQ×Int):=
 bif decide ((a1.length:Int)>64) then some (au,az,ay,ax,1)
 else(Nw k a1 au az ay ax).bind fun x0=>
 bif x0 then some (au,az,ay,ax,1)
 else(gb k au az ay ax).bind fun x1=>
 (DU k k a1 (a1.length:Int) 0 au az ay ax x1.1 x1.2.1 x1.2.2.1 x1.2.2.2).bind fun z=>
 (Av k z.2.2.2.2.1 z.2.2.2.2.2.1 z.2.2.2.2.2.2.1 z.2.2.2.2.2.2.2).bind fun x3=>
 bif !x3 then some (vT z 8)
 else some (yP5 z 0)
abbrev qQa:Type:=((List zI)×EQ×AC×EQ×Int×Int×Int×Int×Int×Int×Int)⊕(Bool×Int×Int×Int×Int×Int×Int×Int×(List zI)×EQ×AC×EQ)
abbrev qN5:Type:=Int→Int→List zI→EQ→AC→EQ→Int→Int→Int→Int→Int→Int→Int→List zC→Option qQa
def EZ (k:Nat)(rec:qN5)(bV bm:Int)(af:List zI)(ah:EQ)(ai:AC)(ag:EQ)(av aA aB aD aG aH aI:Int)(r3:List zC):Option qQa:=
 bif decide (bm < bV) then (bif zB bm r3.length then ((AH k af ah ai ag [(r3.getD bm.toNat (0,0,0,0,0,0,0))]).bind fun x1=>
   bif !x1 then(rec bV (zA (bm+1)) af ah ai ag av aA aB aD aG aH aI r3)
   else(pw k af ah ai ag [(r3.getD bm.toNat (0,0,0,0,0,0,0))]).bind fun x2=>
   bif decide (x2.2.2.2.2=0) then some (.inr (true,(ie (r3.getD bm.toNat (0,0,0,0,0,0,0)) (gj x2))))
   else rec bV (zA (bm+1)) af ah ai ag av aA aB aD aG aH aI r3)
  else none)
 else some (.inl (af,ah,ai,ag,av,aA,aB,aD,aG,aH,aI))
def JE (k:Nat):Nat→qN5
 |0,_,_,_,_,_,_,_,_,_,_,_,_,_,_=>none
 |n+1,bV,bm,af,ah,ai,ag,av,aA,aB,aD,aG,aH,aI,r3=>EZ k (JE k n) bV bm af ah ai ag av aA aB aD aG aH aI r3
def Oi (k:Nat)(au:List zI)(az:EQ)(ay:AC)(ax:EQ)(a1:List zC)(a2:Int):Option (Int×Int×Int×Int×Int×Int×Int×(List zI)×EQ×AC×EQ×Bool):=
 (Jq k a1 a2).bind fun x0=>
 (JE k k (x0.length:Int) 0 au az ay ax 0 0 0 0 0 0 0 x0).bind fun z=>
 match z with
 |.inl z1=>some (0,0,0,0,0,0,0,(vT z1 false))
 |.inr z2=>some (vZ0 z2 z2.1)
abbrev yA0:Type:=(List zC)×(List zI)×EQ×AC×EQ×(List zC)
abbrev qZr:Type:=Int→List zC→List zI→EQ→AC→EQ→List zC→Option yA0
def E1 (k:Nat)(rec:qZr)(s2:Int)(s7:List zC)(af:List zI)(ah:EQ)(ai:AC)(ag:EQ)(r1:List zC):Option yA0:=
 (Oi k af ah ai ag s7 s2).bind fun x0=>
 bif !x0.2.2.2.2.2.2.2.2.2.2.2 then some (s7,af,ah,ai,ag,r1)
 else(px k s7 x0.1).bind fun x1=>
 bif zN (r1.length + 1) 56 then (let y0:List zC:=(r1++[(wF x0)])
  rec s2 x1.1 x0.2.2.2.2.2.2.2.1 x0.2.2.2.2.2.2.2.2.1 x0.2.2.2.2.2.2.2.2.2.1 x0.2.2.2.2.2.2.2.2.2.2.1 y0)
 else none
def JF (k:Nat):Nat→qZr
 |0,_,_,_,_,_,_,_=>none
 |n+1,s2,s7,af,ah,ai,ag,r1=>E1 k (JF k n) s2 s7 af ah ai ag r1
def Oj (k:Nat)(au:List zI)(az:EQ)(ay:AC)(ax:EQ)(a1:List zC)(a2:Int):Option sd:=
 (JF k k a2 a1 au az ay ax []).bind fun z=>
 some (ij z (z.1,z.2.2.2.2.2))
abbrev qPj:Type:=(Int×Int×(List zI)×EQ×AC×EQ×Int×Int×Int×Int×Int×Int×Int×Int×Int×Int×Int×Int×Int×Int×(List zC))⊕yFw
abbrev qT5:Type:=Int→Int→Int→Int→List zI→EQ→AC→EQ→Int→Int→Int→Int→Int→Int→Int→Int→Int→Int→Int→Int→Int→Int→List zC→Int→Int→Int→Int→Int→Int→Int→Option qPj
def E4 (k:Nat)(rec:qT5)(dG cJ jy aW:Int)(af:List zI)(ah:EQ)(ai:AC)(ag:EQ)(av aA aB aD aG aH aI cB cC bE aU cf cg cj:Int)(r2:List zC)(cd cX di gI gJ gK gL:Int):Option qPj:=
 bif decide (aW < jy) then (bif zB aW r2.length then (bif !(decide ((r2.getD aW.toNat (0,0,0,0,0,0,0)).2.1=di)) then(rec dG cJ jy (zA (aW+1)) af ah ai ag av aA aB aD aG aH aI cB cC bE aU cf cg cj r2 cd cX di gI gJ gK gL)
   else bif !(decide ((r2.getD aW.toNat (0,0,0,0,0,0,0)).2.2.1=cX)) then(rec dG cJ jy (zA (aW+1)) af ah ai ag av aA aB aD aG aH aI cB cC bE aU cf cg cj r2 cd cX di gI gJ gK gL)
   else bif decide (cX≥(r2.getD aW.toNat (0,0,0,0,0,0,0)).2.1) then(rec dG cJ jy (zA (aW+1)) af ah ai ag av aA aB aD aG aH aI cB cC bE aU cf cg cj r2 cd cX di gI gJ gK gL)
   else(AH k af ah ai ag [(cd,cX,di,gI,gJ,gK,gL),(r2.getD aW.toNat (0,0,0,0,0,0,0))]).bind fun x1=>
   bif !x1 then(rec dG cJ jy (zA (aW+1)) af ah ai ag av aA aB aD aG aH aI cB cC bE aU cf cg cj r2 cd cX di gI gJ gK gL)
   else(pw k af ah ai ag [(cd,cX,di,gI,gJ,gK,gL),(r2.getD aW.toNat (0,0,0,0,0,0,0))]).bind fun x2=>
   bif decide (x2.2.2.2.2=0) then some (.inr (true,cd,cX,di,gI,gJ,gK,gL,(ie (r2.getD aW.toNat (0,0,0,0,0,0,0)) (gj x2))))
   else rec dG cJ jy (zA (aW+1)) af ah ai ag av aA aB aD aG aH aI cB cC bE aU cf cg cj r2 cd cX di gI gJ gK gL)
  else none)
 else some (.inl (dG,cJ,af,ah,ai,ag,av,aA,aB,aD,aG,aH,aI,cB,cC,bE,aU,cf,cg,cj,r2))
def JG (k:Nat):Nat→qT5
 |0,_,_,_,_,_,_,_,_,_,_,_,_,_,_,_,_,_,_,_,_,_,_,_,_,_,_,_,_,_,_=>none
 |n+1,dG,cJ,jy,aW,af,ah,ai,ag,av,aA,aB,aD,aG,aH,aI,cB,cC,bE,aU,cf,cg,cj,r2,cd,cX,di,gI,gJ,gK,gL=>E4 k (JG k n) dG cJ jy aW af ah ai ag av aA aB aD aG aH aI cB cC bE aU cf cg cj r2 cd cX di gI gJ gK gL
abbrev qXa:Type:=(Int×Int×Int×Int×Int×Int×Int×Int×Int×Int×Int×Int×Int×Int)⊕yFw
abbrev qUw:Type:=Int→Int→List zI→EQ→AC→EQ→Int→Int→Int→Int→Int→Int→Int→Int→Int→Int→Int→Int→Int→Int→List zC→Option qXa
def E5 (k:Nat)(rec:qUw)(dG cJ:Int)(af:List zI)(ah:EQ)(ai:AC)(ag:EQ)(av aA aB aD aG aH aI cB cC bE aU cf cg cj:Int)(r2:List zC):Option qXa:=
 bif decide (cJ < dG) then (bif zB cJ r2.length then ((JG k k dG cJ (r2.length:Int) 0 af ah ai ag av aA aB aD aG aH aI cB cC bE aU cf cg cj r2 (r2.getD cJ.toNat (0,0,0,0,0,0,0)).1 (r2.getD cJ.toNat (0,0,0,0,0,0,0)).2.1 (r2.getD cJ.toNat (0,0,0,0,0,0,0)).2.2.1 (r2.getD cJ.toNat (0,0,0,0,0,0,0)).2.2.2.1 (r2.getD cJ.toNat (0,0,0,0,0,0,0)).2.2.2.2.1 (r2.getD cJ.toNat (0,0,0,0,0,0,0)).2.2.2.2.2.1 (r2.getD cJ.toNat (0,0,0,0,0,0,0)).2.2.2.2.2.2).bind fun z=>
   match z with
   |.inl z1=>rec z1.1 (zA (z1.2.1+1)) z1.2.2.1 z1.2.2.2.1 z1.2.2.2.2.1 z1.2.2.2.2.2.1 z1.2.2.2.2.2.2.1 z1.2.2.2.2.2.2.2.1 z1.2.2.2.2.2.2.2.2.1 z1.2.2.2.2.2.2.2.2.2.1 z1.2.2.2.2.2.2.2.2.2.2.1 z1.2.2.2.2.2.2.2.2.2.2.2.1 z1.2.2.2.2.2.2.2.2.2.2.2.2.1 z1.2.2.2.2.2.2.2.2.2.2.2.2.2.1 z1.2.2.2.2.2.2.2.2.2.2.2.2.2.2.1 z1.2.2.2.2.2.2.2.2.2.2.2.2.2.2.2.1 z1.2.2.2.2.2.2.2.2.2.2.2.2.2.2.2.2.1 z1.2.2.2.2.2.2.2.2.2.2.2.2.2.2.2.2.2.1 z1.2.2.2.2.2.2.2.2.2.2.2.2.2.2.2.2.2.2.1 z1.2.2.2.2.2.2.2.2.2.2.2.2.2.2.2.2.2.2.2.1 z1.2.2.2.2.2.2.2.2.2.2.2.2.2.2.2.2.2.2.2.2
   |.inr z2=>some (.inr (z2.1,z2.2.1,z2.2.2.1,z2.2.2.2.1,z2.2.2.2.2.1,z2.2.2.2.2.2.1,z2.2.2.2.2.2.2.1,z2.2.2.2.2.2.2.2.1,z2.2.2.2.2.2.2.2.2.1,z2.2.2.2.2.2.2.2.2.2.1,z2.2.2.2.2.2.2.2.2.2.2.1,z2.2.2.2.2.2.2.2.2.2.2.2.1,z2.2.2.2.2.2.2.2.2.2.2.2.2.1,z2.2.2.2.2.2.2.2.2.2.2.2.2.2.1,z2.2.2.2.2.2.2.2.2.2.2.2.2.2.2.1,z2.2.2.2.2.2.2.2.2.2.2.2.2.2.2.2.1,z2.2.2.2.2.2.2.2.2.2.2.2.2.2.2.2.2.1,z2.2.2.2.2.2.2.2.2.2.2.2.2.2.2.2.2.2.1,z2.2.2.2.2.2.2.2.2.2.2.2.2.2.2.2.2.2.2)))
  else none)
 else some (.inl (av,aA,aB,aD,aG,aH,aI,cB,cC,bE,aU,cf,cg,cj))
def JI (k:Nat):Nat→qUw
 |0,_,_,_,_,_,_,_,_,_,_,_,_,_,_,_,_,_,_,_,_,_=>none
 |n+1,dG,cJ,af,ah,ai,ag,av,aA,aB,aD,aG,aH,aI,cB,cC,bE,aU,cf,cg,cj,r2=>E5 k (JI k n) dG cJ af ah ai ag av aA aB aD aG aH aI cB cC bE aU cf cg cj r2
def Om (k:Nat)(au:List zI)(az:EQ)(ay:AC)(ax:EQ)(a1:List zC)(a2:Int):Option (Int×Int×Int×Int×Int×Int×Int×Int×Int×Int×Int×Int×Int×Int×(List zI)×EQ×AC×EQ×Bool):=
 (Jq k a1 a2).bind fun x0=>
 (JI k k (x0.length:Int) 0 au az ay ax 0 0 0 0 0 0 0 0 0 0 0 0 0 0 x0).bind fun z3=>
 match z3 with
 |.inl z4=>some (0,0,0,0,0,0,0,0,0,0,0,0,0,0,[],[],[],[],false)
 |.inr z5=>some (qVk z5 z5.1)
abbrev qZz:Type:=Int×(List zC)×(List zI)×EQ×AC×EQ×(List zC)
abbrev qLm:Type:=Int→List zC→Int→Int→List zI→EQ→AC→EQ→List zC→List zC→Option qZz
def wo (k:Nat)(rec:qLm)(s2:Int)(s7:List zC)(BQ sg:Int)(af:List zI)(ah:EQ)(ai:AC)(ag:EQ)(r1 r2:List zC):Option qZz:=
 bif decide (sg < BQ) then (bif zB sg r2.length then ((px k s7 (r2.getD sg.toNat (0,0,0,0,0,0,0)).1).bind fun x1=>
   bif zN (r1.length + 1) 56 then (let y0:List zC:=(r1++[(r2.getD sg.toNat (0,0,0,0,0,0,0))])
    rec s2 x1.1 BQ (zA (sg+1)) af ah ai ag y0 r2)
   else none)
  else none)
 else some (s2,s7,af,ah,ai,ag,r1)
def wm (k:Nat):Nat→qLm
 |0,_,_,_,_,_,_,_,_,_,_=>none
 |n+1,s2,s7,BQ,sg,af,ah,ai,ag,r1,r2=>wo k (wm k n) s2 s7 BQ sg af ah ai ag r1 r2
def E6 (k:Nat)(rec:qZr)(s2:Int)(s7:List zC)(af:List zI)(ah:EQ)(ai:AC)(ag:EQ)(r1:List zC):Option yA0:=
 (Om k af ah ai ag s7 s2).bind fun x0=>
 bif !x0.2.2.2.2.2.2.2.2.2.2.2.2.2.2.2.2.2.2 then some (s7,af,ah,ai,ag,r1)
 else(wm k k s2 s7 2 0 x0.2.2.2.2.2.2.2.2.2.2.2.2.2.2.1 x0.2.2.2.2.2.2.2.2.2.2.2.2.2.2.2.1 x0.2.2.2.2.2.2.2.2.2.2.2.2.2.2.2.2.1 x0.2.2.2.2.2.2.2.2.2.2.2.2.2.2.2.2.2.1 r1 [(wF x0),(qW1 x0)]).bind fun z=>
 rec z.1 z.2.1 z.2.2.1 z.2.2.2.1 z.2.2.2.2.1 z.2.2.2.2.2.1 z.2.2.2.2.2.2
def JJ (k:Nat):Nat→qZr
 |0,_,_,_,_,_,_,_=>none
 |n+1,s2,s7,af,ah,ai,ag,r1=>E6 k (JJ k n) s2 s7 af ah ai ag r1
def On (k:Nat)(au:List zI)(az:EQ)(ay:AC)(ax:EQ)(a1:List zC)(a2:Int):Option sd:=
 (JJ k k a2 a1 au az ay ax []).bind fun z1=>
 some (ij z1 (z1.1,z1.2.2.2.2.2))
def Ox (k:Nat)(rec:qZr)(s2:Int)(s7:List zC)(af:List zI)(ah:EQ)(ai:AC)(ag:EQ)(r1:List zC):Option yA0:=
 (Oj k af ah ai ag s7 s2).bind fun x0=>
 (On k x0.1 x0.2.1 x0.2.2.1 x0.2.2.2.1 x0.2.2.2.2.1 s2).bind fun x1=>
 bif zN (r1.length + x0.2.2.2.2.2.length) 56 then (bif zN ((r1 ++ x0.2.2.2.2.2).length + x1.2.2.2.2.2.length) 56 then (let y0:List zC:=((r1++x0.2.2.2.2.2)++x1.2.2.2.2.2)
   bif decide ((x1.2.2.2.2.2.length:Int)=0) then some (x1.2.2.2.2.1,(vT x1 y0))
   else rec s2 x1.2.2.2.2.1 x1.1 x1.2.1 x1.2.2.1 x1.2.2.2.1 y0)
  else none)
 else none
def JQ (k:Nat):Nat→qZr
 |0,_,_,_,_,_,_,_=>none
 |n+1,s2,s7,af,ah,ai,ag,r1=>Ox k (JQ k n) s2 s7 af ah ai ag r1
def JR (k:Nat)(au:List zI)(az:EQ)(ay:AC)(ax:EQ)(a1:List zC)(a2:Int):Option sd:=
 (JQ k k a2 a1 au az ay ax []).bind fun z=>
 some (ij z (z.1,z.2.2.2.2.2))
def Wb (k:Nat)(a0:AC):Option AC:=
 bif zN (0+a0.length) 8 then some a0
 else none
def Wd (k:Nat)(ca bc bB cq bM bX bO:Int)(a1:AC):Option (Bool×AC):=
 bif decide (bc<0) then some (false,a1)
 else bif decide (bc≥(a1.length:Int)) then some (false,a1)
 else bif zB bc a1.length then (bif decide ((a1.getD bc.toNat 0)<1) then some (false,a1)
  else bif zB bc a1.length then (bif zB bc a1.length then some (true,(a1.set bc.toNat (zA ((a1.getD bc.toNat 0)-1))))
   else none)
  else none)
 else none
abbrev qTn:Type:=AC×(List zC)
abbrev qKd:Type:=List zC→Int→Int→AC→List zC→Option qTn
def Fa (k:Nat)(rec:qKd)(s8:List zC)(s9 aw:Int)(r1:AC)(r2:List zC):Option qTn:=
 bif decide (aw < s9) then (bif zB aw s8.length then ((Wd k (s8.getD aw.toNat (0,0,0,0,0,0,0)).1 (s8.getD aw.toNat (0,0,0,0,0,0,0)).2.1 (s8.getD aw.toNat (0,0,0,0,0,0,0)).2.2.1 (s8.getD aw.toNat (0,0,0,0,0,0,0)).2.2.2.1 (s8.getD aw.toNat (0,0,0,0,0,0,0)).2.2.2.2.1 (s8.getD aw.toNat (0,0,0,0,0,0,0)).2.2.2.2.2.1 (s8.getD aw.toNat (0,0,0,0,0,0,0)).2.2.2.2.2.2 r1).bind fun x0=>
   bif x0.1 then (bif zN (r2.length + 1) 56 then (let y0:List zC:=(r2++[(s8.getD aw.toNat (0,0,0,0,0,0,0))])
     rec s8 s9 (zA (aw+1)) x0.2 y0)
    else none)
   else rec s8 s9 (zA (aw+1)) x0.2 r2)
  else none)
 else some (r1,r2)
def E9 (k:Nat):Nat→qKd
 |0,_,_,_,_,_=>none
 |n+1,s8,s9,aw,r1,r2=>Fa k (E9 k n) s8 s9 aw r1 r2
def Wc (k:Nat)(a0:List zC)(cU:AC):Option ((List zC)×AC):=
 (E9 k k a0 (a0.length:Int) 0 cU []).bind fun z=>
 some (z.2,z.1)
def E8 (k:Nat)(a0:List zC)(a1:AC):Option (List zC):=
 (Wb k a1).bind fun x0=>
 (Wc k a0 x0).bind fun x1=>
 some x1.1
abbrev qWu:Type:=Int×(List zI)×EQ×AC×EQ×AC×(List zC)
abbrev qZt:Type:=Int→Int→Int→List zI→EQ→AC→EQ→AC→List zC→Option qWu
def Fe (k:Nat)(rec:qZt)(s7 kI dG:Int)(af:List zI)(ah:EQ)(ai:AC)(ag:EQ)(r1:AC)(r2:List zC):Option qWu:=
 bif decide (dG < kI) then ((JN k r2 dG).bind fun x1=>
  bif zN (r1.length+1) 8 then(rec s7 kI (zA (dG+1)) af ah ai ag (r1++[(x1.length:Int)]) r2)
  else none)
 else some (s7,af,ah,ai,ag,r1,r2)
def AR (k:Nat):Nat→qZt
 |0,_,_,_,_,_,_,_,_,_=>none
 |n+1,s7,kI,dG,af,ah,ai,ag,r1,r2=>Fe k (AR k n) s7 kI dG af ah ai ag r1 r2
abbrev qLi:Type:=Int→Int→Int→List zI→EQ→AC→EQ→AC→List zC→AC→Option qWu
def Fg (k:Nat)(rec:qLi)(s7 Q7 nG:Int)(af:List zI)(ah:EQ)(ai:AC)(ag:EQ)(r1:AC)(r2:List zC)(r3:AC):Option qWu:=
 bif decide (nG < Q7) then (bif zB nG r3.length then (bif zB (r3.getD nG.toNat 0) r1.length then (bif zB (r3.getD nG.toNat 0) r1.length then (let y0:AC:=(r1.set (r3.getD nG.toNat 0).toNat (zA ((r1.getD (r3.getD nG.toNat 0).toNat 0)-1)))
     rec s7 Q7 (zA (nG+1)) af ah ai ag y0 r2 r3)
    else none)
   else none)
  else none)
 else some (s7,af,ah,ai,ag,r1,r2)
def Ff (k:Nat):Nat→qLi
 |0,_,_,_,_,_,_,_,_,_,_=>none
 |n+1,s7,Q7,nG,af,ah,ai,ag,r1,r2,r3=>Fg k (Ff k n) s7 Q7 nG af ah ai ag r1 r2 r3
abbrev qVw:Type:=Int→List zI→EQ→AC→EQ→AC→List zC→Option (Int×AC)
def Fh (k:Nat)(rec:qVw)(s7:Int)(af:List zI)(ah:EQ)(ai:AC)(ag:EQ)(r1:AC)(r2:List zC):Option (Int×AC):=
 (E8 k r2 r1).bind fun x2=>
 (AG k af ah ai ag x2).bind fun x3=>
 bif decide ((x3.length:Int)=0) then some ((zA (s7+1)),r1)
 else(Ff k k (zA (s7+1)) (x3.length:Int) 0 af ah ai ag r1 r2 x3).bind fun z1=>
 rec z1.1 z1.2.1 z1.2.2.1 z1.2.2.2.1 z1.2.2.2.2.1 z1.2.2.2.2.2.1 z1.2.2.2.2.2.2
def JP (k:Nat):Nat→qVw
 |0,_,_,_,_,_,_,_=>none
 |n+1,s7,af,ah,ai,ag,r1,r2=>Fh k (JP k n) s7 af ah ai ag r1 r2
def Ou (k:Nat)(au:List zI)(az:EQ)(ay:AC)(ax:EQ)(a1:List zC)(a2:Int):Option (AC×Int):=
 (En k a1 a2).bind fun x0=>
 (AR k k 0 (au.length:Int) 0 au az ay ax [] x0).bind fun z=>
 (JP k k z.1 z.2.1 z.2.2.1 z.2.2.2.1 z.2.2.2.2.1 z.2.2.2.2.2.1 z.2.2.2.2.2.2).bind fun z2=>
 some (z2.2,z2.1)
abbrev qV9:Type:=List zC→Int→Int→List zI→EQ→AC→EQ→List zC→Option yA0
def Fi (k:Nat)(rec:qV9)(s7:List zC)(kY gk:Int)(af:List zI)(ah:EQ)(ai:AC)(ag:EQ)(r1:List zC):Option yA0:=
 bif decide (gk < kY) then (bif zB gk r1.length then ((px k s7 (r1.getD gk.toNat (0,0,0,0,0,0,0)).1).bind fun x4=>
   rec x4.1 kY (zA (gk+1)) af ah ai ag r1)
  else none)
 else some (s7,af,ah,ai,ag,r1)
def AT (k:Nat):Nat→qV9
 |0,_,_,_,_,_,_,_,_=>none
 |n+1,s7,kY,gk,af,ah,ai,ag,r1=>Fi k (AT k n) s7 kY gk af ah ai ag r1
def AU (k:Nat)(au:List zI)(az:EQ)(ay:AC)(ax:EQ)(a1:List zC)(a2:Int):Option sd:=
 (Ou k au az ay ax a1 a2).bind fun x0=>
 (En k a1 a2).bind fun x1=>
 (E8 k x1 x0.1).bind fun x2=>
 (pw k au az ay ax x2).bind fun x3=>
 bif !(decide (x3.2.2.2.2=0)) then some (au,az,ay,ax,a1,[])
 else(AT k k a1 (x2.length:Int) 0 x3.1 x3.2.1 x3.2.2.1 x3.2.2.2.1 x2).bind fun z=>
 some (ij z (z.1,z.2.2.2.2.2))
def wx (k:Nat)(au:List zI)(az:EQ)(ay:AC)(ax:EQ)(a1:List zC)(a2:Int)(a3:Bool):Option sd:=
 (JR k au az ay ax a1 a2).bind fun x0=>
 bif !a3 then some (x0.1,x0.2.1,x0.2.2.1,x0.2.2.2.1,x0.2.2.2.2.1,x0.2.2.2.2.2)
 else(AU k x0.1 x0.2.1 x0.2.2.1 x0.2.2.2.1 x0.2.2.2.2.1 a2).bind fun x1=>
 bif decide ((x1.2.2.2.2.2.length:Int)=0) then some (rY x1 x0.2.2.2.2.2)
 else(JR k x1.1 x1.2.1 x1.2.2.1 x1.2.2.2.1 x1.2.2.2.2.1 a2).bind fun x2=>
 bif zN (x0.2.2.2.2.2.length + x1.2.2.2.2.2.length) 56 then (bif zN ((x0.2.2.2.2.2 ++ x1.2.2.2.2.2).length + x2.2.2.2.2.2.length) 56 then (let y0:List zC:=((x0.2.2.2.2.2++x1.2.2.2.2.2)++x2.2.2.2.2.2)
   some (rY x2 y0))
  else none)
 else none
abbrev qXg:Type:=(List zC)×Int×Int×(List qQ)
abbrev yAa:Type:=List zC→Int→Int→Int→Int→List qQ→Int→Int→Int→Int→Int→Int→Int→AC→Option qXg
def w4 (k:Nat)(rec:yAa)(s8:List zC)(s9 aw dG cJ:Int)(r0:List qQ)(av aA aB aD aG aH aI:Int)(r2:AC):Option qXg:=
 bif decide (cJ < dG) then (bif zB cJ r2.length then ((pC k (r2.getD cJ.toNat 0) 18 [av,aA,aB,aD]).bind fun x0=>
   bif zN (r0.length+1) 64 then(rec s8 s9 aw dG (zA (cJ+1)) (r0++[x0]) av aA aB aD aG aH aI r2)
   else none)
  else none)
 else some (s8,s9,aw,r0)
def wz (k:Nat):Nat→yAa
 |0,_,_,_,_,_,_,_,_,_,_,_,_,_,_=>none
 |n+1,s8,s9,aw,dG,cJ,r0,av,aA,aB,aD,aG,aH,aI,r2=>w4 k (wz k n) s8 s9 aw dG cJ r0 av aA aB aD aG aH aI r2
abbrev qVy:Type:=List qQ
abbrev qV3:Type:=List zC→Int→Int→List qQ→Option qVy
def Fl (k:Nat)(rec:qV3)(s8:List zC)(s9 aw:Int)(r0:List qQ):Option qVy:=
 bif decide (aw < s9) then (bif zB aw s8.length then ((wz k k s8 s9 aw 2 0 r0 (s8.getD aw.toNat (0,0,0,0,0,0,0)).1 (s8.getD aw.toNat (0,0,0,0,0,0,0)).2.1 (s8.getD aw.toNat (0,0,0,0,0,0,0)).2.2.1 (s8.getD aw.toNat (0,0,0,0,0,0,0)).2.2.2.1 (s8.getD aw.toNat (0,0,0,0,0,0,0)).2.2.2.2.1 (s8.getD aw.toNat (0,0,0,0,0,0,0)).2.2.2.2.2.1 (s8.getD aw.toNat (0,0,0,0,0,0,0)).2.2.2.2.2.2 [(s8.getD aw.toNat (0,0,0,0,0,0,0)).2.1,(s8.getD aw.toNat (0,0,0,0,0,0,0)).2.2.1]).bind fun z=>
   rec z.1 z.2.1 (zA (z.2.2.1+1)) z.2.2.2)
  else none)
 else some r0
def JS (k:Nat):Nat→qV3
 |0,_,_,_,_=>none
 |n+1,s8,s9,aw,r0=>Fl k (JS k n) s8 s9 aw r0
def Oy (k:Nat)(a0:List zC):Option (List qQ):=
 (JS k k a0 (a0.length:Int) 0 []).bind fun z1=>
 some z1
def tO (k:Nat)(lM:Int)(pK:List zI)(pL:EQ)(pM:AC)(pN:EQ)(pO:AC)(pP:EQ)(lN:List zC)(pQ:AC)(pR:Int)(pS a1:Bool):Option Q0:=
 (wx k pK pL pM pN lN lM a1).bind fun x0=>
 (Oy k x0.2.2.2.2.2).bind fun x1=>
 some (lM,(vT x0 (pO,pP,x0.2.2.2.2.1,pQ,pR,pS,x1)))
abbrev qU0:Type:=Int×(List wJ)×Int×Int×Int×Int×(List zI)×EQ×AC×EQ×AC×EQ×(List zC)×AC×Int×Bool×Int×Int×Bool×(List qQ)×(List zC)
abbrev qZ1:Type:=List zC→Int→Int→Int→List wJ→Int→Int→Int→Int→List zI→EQ→AC→EQ→AC→EQ→List zC→AC→Int→Bool→Int→Int→Bool→List qQ→List zC→Option qU0
def Fv (k:Nat)(rec:qZ1)(fu:List zC)(kZ fw af:Int)(ah:List wJ)(ai ag aZ av:Int)(aA:List zI)(aB:EQ)(aD:AC)(aG:EQ)(aH:AC)(aI:EQ)(cB:List zC)(cC:AC)(bE:Int)(aU:Bool)(ba pV:Int)(kK:Bool)(r3:List qQ)(r4:List zC):Option qU0:=
 bif decide (fw < kZ) then (bif zB fw fu.length then ((Wn k (fu.getD fw.toNat (0,0,0,0,0,0,0)).1 (fu.getD fw.toNat (0,0,0,0,0,0,0)).2.1 (fu.getD fw.toNat (0,0,0,0,0,0,0)).2.2.1 (fu.getD fw.toNat (0,0,0,0,0,0,0)).2.2.2.1 (fu.getD fw.toNat (0,0,0,0,0,0,0)).2.2.2.2.1 (fu.getD fw.toNat (0,0,0,0,0,0,0)).2.2.2.2.2.1 (fu.getD fw.toNat (0,0,0,0,0,0,0)).2.2.2.2.2.2 av).bind fun x2=>
   bif x2 then ((pC k (fu.getD fw.toNat (0,0,0,0,0,0,0)).2.1 21 [(fu.getD fw.toNat (0,0,0,0,0,0,0)).1]).bind fun x3=>
    bif zN (r3.length+1) 64 then(rec fu kZ (zA (fw+1)) af ah ai ag aZ av aA aB aD aG aH aI cB cC bE aU ba pV kK (r3++[x3]) r4)
    else none)
   else bif zN (r4.length + 1) 56 then (let y0:List zC:=(r4++[(fu.getD fw.toNat (0,0,0,0,0,0,0))])
    rec fu kZ (zA (fw+1)) af ah ai ag aZ av aA aB aD aG aH aI cB cC bE aU ba pV kK r3 y0)
   else none)
  else none)
 else some (af,ah,ai,ag,aZ,av,aA,aB,aD,aG,aH,aI,cB,cC,bE,aU,ba,pV,kK,r3,r4)
def Fu (k:Nat):Nat→qZ1
 |0,_,_,_,_,_,_,_,_,_,_,_,_,_,_,_,_,_,_,_,_,_,_,_,_=>none
 |n+1,fu,kZ,fw,af,ah,ai,ag,aZ,av,aA,aB,aD,aG,aH,aI,cB,cC,bE,aU,ba,pV,kK,r3,r4=>Fv k (Fu k n) fu kZ fw af ah ai ag aZ av aA aB aD aG aH aI cB cC bE aU ba pV kK r3 r4
def w6 (k:Nat)(df:Int)(dM:List wJ)(dN dh cc iS:Int)(cD:List zI)(dz:EQ)(dA:AC)(dB:EQ)(fO:AC)(iT:EQ)(fP:List zC)(pW:AC)(iU:Int)(iV:Bool):Option Q0:=
 bif iV then some (iS,cD,dz,dA,dB,fO,iT,fP,pW,iU,iV,[])
 else(AY k df dM dN dh cc (zA (iS+1))).bind fun x0=>
 bif x0 then ((OB k (zA (iS+1)) cD dz dA dB fO iT fP pW iU iV).bind fun x1=>
  some (x1.1,x1.2.1,x1.2.2.1,x1.2.2.2.1,x1.2.2.2.2.1,x1.2.2.2.2.2.1,x1.2.2.2.2.2.2.1,x1.2.2.2.2.2.2.2.1,x1.2.2.2.2.2.2.2.2.1,x1.2.2.2.2.2.2.2.2.2.1,x1.2.2.2.2.2.2.2.2.2.2.1,x1.2.2.2.2.2.2.2.2.2.2.2))
 else(Fu k k fP (fP.length:Int) 0 df dM dN dh cc (zA (iS+1)) cD dz dA dB fO iT fP pW iU iV 0 0 false [] []).bind fun z=>
 (Fw k z.1 z.2.1 z.2.2.1 z.2.2.2.1 z.2.2.2.2.1 z.2.2.2.2.2.1).bind fun x4=>
 (tO k z.2.2.2.2.2.1 z.2.2.2.2.2.2.1 z.2.2.2.2.2.2.2.1 z.2.2.2.2.2.2.2.2.1 z.2.2.2.2.2.2.2.2.2.1 z.2.2.2.2.2.2.2.2.2.2.1 z.2.2.2.2.2.2.2.2.2.2.2.1 z.2.2.2.2.2.2.2.2.2.2.2.2.2.2.2.2.2.2.2.2 z.2.2.2.2.2.2.2.2.2.2.2.2.2.1 z.2.2.2.2.2.2.2.2.2.2.2.2.2.2.1 z.2.2.2.2.2.2.2.2.2.2.2.2.2.2.2.1 x4).bind fun x5=>
 bif zN (z.2.2.2.2.2.2.2.2.2.2.2.2.2.2.2.2.2.2.2.1.length + x5.2.2.2.2.2.2.2.2.2.2.2.length) 64 then (let y1:List qQ:=(z.2.2.2.2.2.2.2.2.2.2.2.2.2.2.2.2.2.2.2.1++x5.2.2.2.2.2.2.2.2.2.2.2)
  some (xK x5 y1))
 else none
def yDi (k:Nat)(a0:kX)(a1:Lt):Option (Int×jM):=
 (vH k a1.2.1 0 (zA (a0.1-1))).bind fun x0=>
 bif !x0 then some (1,(vO a0 []))
 else(vH k a1.2.2.2.1 1 3).bind fun x1=>
 bif !x1 then some (1,(vO a0 []))
 else(Fx k (yR a0) a0.2.2.2.2.2.1 (a1.1,a0.2.2.2.2.2.2.2.2.2.2.2.2.2.2.2.2,a1.2)).bind fun x2=>
 bif !(decide (x2=0)) then some (x2,(vO a0 []))
 else(EO k a0.2.2.2.2.2.2.2.2.2.2.2.2.2.1 a1.1).bind fun x3=>
 bif !(decide (x3.2=0)) then some (x3.2,(vO a0 []))
 else(wi k a0.2.2.2.2.2.2.2.2.2.2.2.2.1 (a1.1,a0.2.2.2.2.2.2.2.2.2.2.2.2.2.2.2.2,a1.2)).bind fun x4=>
 bif !(decide (x4.2=0)) then some (x4.2,(vO a0 []))
 else some (0,(jx a0 (x4.1,x3.1,a0.2.2.2.2.2.2.2.2.2.2.2.2.2.2.1,a0.2.2.2.2.2.2.2.2.2.2.2.2.2.2.2.1,a0.2.2.2.2.2.2.2.2.2.2.2.2.2.2.2.2,[])))
def Qq (k:Nat)(a0:kX)(a1:zC):Option (Int×jM):=
 (ZN k (vO a0 []) a1.2.1).bind fun x0=>
 bif !(decide (x0.2=0)) then some (x0.2,(vO a0 []))
 else bif decide (a1.1 = 2) then ((px k a0.2.2.2.2.2.2.2.2.2.2.2.2.1 a1.2.1).bind fun x1=>
  (Pr k (jx a0 (x1.1,a0.2.2.2.2.2.2.2.2.2.2.2.2.2)) 20 [a1.2.1]).bind fun x2=>
  some (x1.2.2.2.2.2.2.2.2,x2))
 else bif decide (a1.1 = 4) then ((vH k a1.2.2.1 1 3).bind fun x3=>
  bif !x3 then some (1,(vO a0 []))
  else(AZ k (yR a0) a0.2.2.2.2.2.1 a1.2.2.1).bind fun x4=>
  bif !(decide (x4=0)) then some (x4,(vO a0 []))
  else(EJ k a0.2.2.2.2.2.2.2.2.2.2.2.2.1 a1.2.1 a1.2.2.1).bind fun x5=>
  some (x5.2,(jx a0 (x5.1,(qNa a0 [])))))
 else bif decide (a1.2.2.1 = 0) then ((EM k a0.2.2.2.2.2.2.2.2.2.2.2.2.1 a1.2.1).bind fun x6=>
  some (x6.2,(jx a0 (x6.1,(qNa a0 [])))))
 else bif decide (a1.2.2.1 = 1) then ((EK k a0.2.2.2.2.2.2.2.2.2.2.2.2.1 a1.2.1).bind fun x7=>
  some (x7.2,(jx a0 (x7.1,(qNa a0 [])))))
 else some (1,(vO a0 []))
def Qr (k:Nat)(a0:kX)(a1:zC):Option (Int×jM):=
 (gb k a0.2.2.2.2.2.2.1 a0.2.2.2.2.2.2.2.1 a0.2.2.2.2.2.2.2.2.1 a0.2.2.2.2.2.2.2.2.2.1).bind fun x0=>
 bif decide (a1.1 = 5) then ((ZW k (vO a0 []) a1.2.1).bind fun x1=>
  bif !x1 then some (1,(vO a0 []))
  else(vH k a1.2.2.1 (-1) 1152921504606846976).bind fun x2=>
  bif !x2 then some (1,(vO a0 []))
  else bif zB a0.2.2.2.2.2.2.2.2.2.2.2.2.2.2.2.2 x0.2.1.length then (bif zB a1.2.1 (x0.2.1.getD a0.2.2.2.2.2.2.2.2.2.2.2.2.2.2.2.2.toNat []).length then (let y0:EQ:=(x0.2.1.set a0.2.2.2.2.2.2.2.2.2.2.2.2.2.2.2.2.toNat ((x0.2.1.getD a0.2.2.2.2.2.2.2.2.2.2.2.2.2.2.2.2.toNat []).set a1.2.1.toNat a1.2.2.1))
    some (0,(jF a0 (x0.1,y0,x0.2.2.1,x0.2.2.2,(qSg a0 [])))))
   else none)
  else none)
 else bif decide (a1.1 = 6) then ((vH k a1.2.1 (-1) 1152921504606846976).bind fun x3=>
  bif !x3 then some (1,(vO a0 []))
  else bif zB a0.2.2.2.2.2.2.2.2.2.2.2.2.2.2.2.2 x0.2.2.1.length then (let y1:AC:=(x0.2.2.1.set a0.2.2.2.2.2.2.2.2.2.2.2.2.2.2.2.2.toNat a1.2.1)
   some (0,(jF a0 (x0.1,x0.2.1,y1,x0.2.2.2,(qSg a0 [])))))
  else none)
 else(vH k a1.2.1 0 1152921504606846976).bind fun x4=>
 bif !x4 then some (1,(vO a0 []))
 else bif zB a0.2.2.2.2.2.2.2.2.2.2.2.2.2.2.2.2 x0.1.length then (let y2:List zI:=(x0.1.set a0.2.2.2.2.2.2.2.2.2.2.2.2.2.2.2.2.toNat ((x0.1.getD a0.2.2.2.2.2.2.2.2.2.2.2.2.2.2.2.2.toNat (0,0,0)).1,(x0.1.getD a0.2.2.2.2.2.2.2.2.2.2.2.2.2.2.2.2.toNat (0,0,0)).2.1,a1.2.1))
  some (0,(jF a0 (y2,x0.2.1,x0.2.2.1,x0.2.2.2,(qSg a0 [])))))
 else none
def yLs (k:Nat)(a0:kX)(a1 a2:Int):Option (Int×jM):=
 (Lb k (vO a0 []) a1).bind fun x0=>
 bif !x0 then some (1,(vO a0 []))
 else(vH k a2 0 1099511627776).bind fun x1=>
 bif !x1 then some (1,(vO a0 []))
 else(Fz k a0.2.2.2.2.2.2.2.2.2.2.2.1).bind fun x2=>
 bif zB a0.2.2.2.2.2.2.2.2.2.2.2.2.2.2.2.2 x2.length then ((pA k (x2.getD a0.2.2.2.2.2.2.2.2.2.2.2.2.2.2.2.2.toNat []) a1 a2).bind fun x3=>
  bif zB a0.2.2.2.2.2.2.2.2.2.2.2.2.2.2.2.2 x2.length then (let y0:EQ:=(x2.set a0.2.2.2.2.2.2.2.2.2.2.2.2.2.2.2.2.toNat x3)
   bif zB a0.2.2.2.2.2.2.2.2.2.2.2.2.2.2.2.2 y0.length then ((rL k a0.2.1 a0.2.2.2.2.2.2.2.2.2.2.1 (y0.getD a0.2.2.2.2.2.2.2.2.2.2.2.2.2.2.2.2.toNat [])).bind fun x4=>
    bif zB a0.2.2.2.2.2.2.2.2.2.2.2.2.2.2.2.2 a0.2.2.2.2.2.2.1.length then (bif !x4.2 then some (8,(vO a0 []))
     else bif decide (x4.1>1152921504606846976) then some (8,(vO a0 []))
     else bif decide (x4.1 < (a0.2.2.2.2.2.2.1.getD a0.2.2.2.2.2.2.2.2.2.2.2.2.2.2.2.2.toNat (0, 0, 0)).2.1) then (bif decide ((zA ((a0.2.2.2.2.2.2.1.getD a0.2.2.2.2.2.2.2.2.2.2.2.2.2.2.2.2.toNat (0,0,0)).1+x4.1))<0) then some (9,(vO a0 []))
      else(gb k a0.2.2.2.2.2.2.1 a0.2.2.2.2.2.2.2.1 a0.2.2.2.2.2.2.2.2.1 a0.2.2.2.2.2.2.2.2.2.1).bind fun x5=>
      bif zB a0.2.2.2.2.2.2.2.2.2.2.2.2.2.2.2.2 x5.1.length then (let y1:List zI:=(x5.1.set a0.2.2.2.2.2.2.2.2.2.2.2.2.2.2.2.2.toNat ((x5.1.getD a0.2.2.2.2.2.2.2.2.2.2.2.2.2.2.2.2.toNat (0,0,0)).1,x4.1,(x5.1.getD a0.2.2.2.2.2.2.2.2.2.2.2.2.2.2.2.2.toNat (0,0,0)).2.2))
       some (0,(jF a0 (y1,x5.2.1,x5.2.2.1,x5.2.2.2,a0.2.2.2.2.2.2.2.2.2.2.1,y0,(yQl a0 [])))))
      else none)
     else(gb k a0.2.2.2.2.2.2.1 a0.2.2.2.2.2.2.2.1 a0.2.2.2.2.2.2.2.2.1 a0.2.2.2.2.2.2.2.2.2.1).bind fun x6=>
     bif zB a0.2.2.2.2.2.2.2.2.2.2.2.2.2.2.2.2 x6.1.length then (let y2:List zI:=(x6.1.set a0.2.2.2.2.2.2.2.2.2.2.2.2.2.2.2.2.toNat ((x6.1.getD a0.2.2.2.2.2.2.2.2.2.2.2.2.2.2.2.2.toNat (0,0,0)).1,x4.1,(x6.1.getD a0.2.2.2.2.2.2.2.2.2.2.2.2.2.2.2.2.toNat (0,0,0)).2.2))
      some (0,(jF a0 (y2,x6.2.1,x6.2.2.1,x6.2.2.2,a0.2.2.2.2.2.2.2.2.2.2.1,y0,(yQl a0 [])))))
     else none)
    else none)
   else none)
  else none)
 else none
def FY (k:Nat)(a0:kX)(a1 a2 a3:Int):Option (Int×jM):=
 (vH k a2 0 (zA (a0.1-1))).bind fun x0=>
 bif !x0 then some (1,(vO a0 []))
 else(vH k a3 1 1099511627776).bind fun x1=>
 bif !x1 then some (1,(vO a0 []))
 else bif zB a2 a0.2.2.2.2.2.2.1.length then ((FZ k (a0.2.2.2.2.2.2.1.getD a2.toNat (0,0,0)) a3).bind fun x2=>
  bif decide (a1 = 11) then ((F0 k (a0.2.2.2.2.2.2.1.getD a2.toNat (0,0,0)) a3 3).bind fun x3=>
   (F1 k (a0.2.2.2.2.2.2.1.getD a2.toNat (0,0,0)) 3).bind fun x4=>
   bif decide (x4<a3) then some (9,(vO a0 []))
   else bif decide ((zA (a0.2.2.2.2.2.2.2.2.2.2.2.2.2.2.1-a3))<0) then some (9,(vO a0 []))
   else bif !(decide (x3.2=0)) then some (x3.2,(vO a0 []))
   else bif decide ((zA (a0.2.2.2.2.2.2.2.2.2.2.2.2.2.2.1-a3))>1152921504606846976) then some (8,(vO a0 []))
   else(gb k a0.2.2.2.2.2.2.1 a0.2.2.2.2.2.2.2.1 a0.2.2.2.2.2.2.2.2.1 a0.2.2.2.2.2.2.2.2.2.1).bind fun x5=>
   bif zB a2 x5.1.length then some (0,(jF a0 ((x5.1.set a2.toNat x3.1),x5.2.1,x5.2.2.1,x5.2.2.2,(G1 a0 ((zA (a0.2.2.2.2.2.2.2.2.2.2.2.2.2.2.1-a3)),a0.2.2.2.2.2.2.2.2.2.2.2.2.2.2.2.1,a0.2.2.2.2.2.2.2.2.2.2.2.2.2.2.2.2,[])))))
   else none)
  else bif !(decide (x2.2=0)) then some (x2.2,(vO a0 []))
  else bif decide ((zA (a0.2.2.2.2.2.2.2.2.2.2.2.2.2.2.1+a3))>1152921504606846976) then some (8,(vO a0 []))
  else(gb k a0.2.2.2.2.2.2.1 a0.2.2.2.2.2.2.2.1 a0.2.2.2.2.2.2.2.2.1 a0.2.2.2.2.2.2.2.2.2.1).bind fun x6=>
  bif zB a2 x6.1.length then some (0,(jF a0 ((x6.1.set a2.toNat x2.1),x6.2.1,x6.2.2.1,x6.2.2.2,(G1 a0 ((zA (a0.2.2.2.2.2.2.2.2.2.2.2.2.2.2.1+a3)),a0.2.2.2.2.2.2.2.2.2.2.2.2.2.2.2.1,a0.2.2.2.2.2.2.2.2.2.2.2.2.2.2.2.2,[])))))
  else none)
 else none
abbrev qM5:Type:=(kX×AC×(List zI)×EQ×AC×EQ)⊕(Int×kX)
abbrev qKq:Type:=EQ→Int→Int→kX→AC→List zI→EQ→AC→EQ→Option qM5
def F3 (k:Nat)(rec:qKq)(gk:EQ)(iL kJ:Int)(b0:kX)(r1:AC)(r3:List zI)(m4:EQ)(r5:AC)(m6:EQ):Option qM5:=
 bif decide (kJ < iL) then (bif zB kJ gk.length then ((rL k b0.2.1 r1 (gk.getD kJ.toNat [])).bind fun x4=>
   bif !x4.2 then some (.inr (8,b0))
   else bif decide (x4.1>1152921504606846976) then some (.inr (8,b0))
   else bif zB kJ r3.length then (let y0:List zI:=(r3.set kJ.toNat ((r3.getD kJ.toNat (0,0,0)).1,x4.1,(r3.getD kJ.toNat (0,0,0)).2.2))
    rec gk iL (zA (kJ+1)) b0 r1 y0 m4 r5 m6)
   else none)
  else none)
 else some (.inl (b0,r1,r3,m4,r5,m6))
def tY (k:Nat):Nat→qKq:=qZ (fun _ _ _ _ _ _ _ _ _=>none) (F3 k)
def O3 (k:Nat)(a0:kX)(a1 a2:Int):Option (Int×jM):=
 (Lb k (vO a0 []) a1).bind fun x0=>
 bif !x0 then some (1,(vO a0 []))
 else(vH k a2 0 1048576).bind fun x1=>
 bif !x1 then some (1,(vO a0 []))
 else(pA k a0.2.2.2.2.2.2.2.2.2.2.1 a1 a2).bind fun x2=>
 (gb k a0.2.2.2.2.2.2.1 a0.2.2.2.2.2.2.2.1 a0.2.2.2.2.2.2.2.2.1 a0.2.2.2.2.2.2.2.2.2.1).bind fun x3=>
 (tY k k a0.2.2.2.2.2.2.2.2.2.2.2.1 (a0.2.2.2.2.2.2.2.2.2.2.2.1.length:Int) 0 a0 x2 x3.1 x3.2.1 x3.2.2.1 x3.2.2.2).bind fun z=>
 match z with
 |.inl z1=>some (0,(jF z1.1 (Bb z1 (z1.2.1,(W5 z1.1 [])))))
 |.inr z2=>some (jL z2 [])
def Gv (k:Nat)(a0:kX)(a1:zC):Option (Int×jM):=
 bif decide (a1.1 = 1) then ((yDi k a0 a1.2).bind fun x0=>
  some (x0.1,x0.2))
 else bif decide (a1.1 = 2) then ((Qq k a0 a1).bind fun x1=>
  some (x1.1,x1.2))
 else bif decide (a1.1 = 3) then ((Qq k a0 a1).bind fun x2=>
  some (x2.1,x2.2))
 else bif decide (a1.1 = 4) then ((Qq k a0 a1).bind fun x3=>
  some (x3.1,x3.2))
 else bif decide (a1.1 = 5) then ((Qr k a0 a1).bind fun x4=>
  some (x4.1,x4.2))
 else bif decide (a1.1 = 6) then ((Qr k a0 a1).bind fun x5=>
  some (x5.1,x5.2))
 else bif decide (a1.1 = 7) then ((Qr k a0 a1).bind fun x6=>
  some (x6.1,x6.2))
 else bif decide (a1.1 = 8) then ((yLs k a0 a1.2.1 a1.2.2.1).bind fun x7=>
  some (x7.1,x7.2))
 else bif decide (a1.1 = 10) then ((FY k a0 a1.1 a1.2.1 a1.2.2.1).bind fun x8=>
  some (x8.1,x8.2))
 else bif decide (a1.1 = 11) then ((FY k a0 a1.1 a1.2.1 a1.2.2.1).bind fun x9=>
  some (x9.1,x9.2))
 else bif decide (a1.1 = 12) then ((O3 k a0 a1.2.1 a1.2.2.1).bind fun cm=>
  some (cm.1,cm.2))
 else some (0,(vO a0 []))
def oG (k:Nat)(a0:yZ)(a1:yA)(a2:qQ):Option (yA×(List qQ)×Int):=
 (w9 k a0 a1 a2).bind fun x0=>
 bif !(decide (x0=0)) then some (a1,[],x0)
 else bif decide (a2.2.1 = 9) then ((Pq k a1 a2.1).bind fun x1=>
  some (a1,x1,0))
 else bif !(decide (a2.1 = (-1))) then ((Pr k (jD a0 (wO a1 a2.1)) 15 []).bind fun x2=>
  (Pn k x2 a2.2).bind fun x3=>
  bif !(decide (x3.1=0)) then some (a1,[],x3.1)
  else bif decide (a2.2.1 = 14) then ((w6 k a0.1 a0.2.1 a0.2.2.1 a0.2.2.2.1 a0.2.2.2.2 a1.1 a1.2.1 a1.2.2.1 a1.2.2.2.1 a1.2.2.2.2.1 a1.2.2.2.2.2.1 a1.2.2.2.2.2.2.1 a1.2.2.2.2.2.2.2.1 a1.2.2.2.2.2.2.2.2.1 a1.2.2.2.2.2.2.2.2.2.1 a1.2.2.2.2.2.2.2.2.2.2).bind fun x4=>
   some ((qS x4),x4.2.2.2.2.2.2.2.2.2.2.2,0))
  else(tO k x3.2.2.2.2.2.2.1 x3.2.2.2.2.2.2.2.1 x3.2.2.2.2.2.2.2.2.1 x3.2.2.2.2.2.2.2.2.2.1 x3.2.2.2.2.2.2.2.2.2.2.1 x3.2.2.2.2.2.2.2.2.2.2.2.1 x3.2.2.2.2.2.2.2.2.2.2.2.2.1 x3.2.2.2.2.2.2.2.2.2.2.2.2.2.1 x3.2.2.2.2.2.2.2.2.2.2.2.2.2.2.1 x3.2.2.2.2.2.2.2.2.2.2.2.2.2.2.2.1 x3.2.2.2.2.2.2.2.2.2.2.2.2.2.2.2.2.1 (decide (a2.2.1=13))).bind fun x5=>
  bif zN (x3.2.2.2.2.2.2.2.2.2.2.2.2.2.2.2.2.2.2.length + x5.2.2.2.2.2.2.2.2.2.2.2.length) 64 then (let y0:List qQ:=(x3.2.2.2.2.2.2.2.2.2.2.2.2.2.2.2.2.2.2++x5.2.2.2.2.2.2.2.2.2.2.2)
   bif decide (a2.2.1 = 1) then ((og k x5.2.2.2.2.2.2.2.1 a2.2.2.1).bind fun x6=>
    bif decide (x6 ≥ 0) then ((w8 k (Pp x3 y0) 19 [a2.2.2.1]).bind fun x7=>
     some ((qS x5),x7.2.2.2.2.2.2.2.2.2.2.2.2.2.2.2.2.2,0))
    else some ((qS x5),y0,0))
   else some ((qS x5),y0,0))
  else none)
 else(Gv k (jD a0 (wO a1 a2.1)) a2.2).bind fun x8=>
 bif !(decide (x8.1=0)) then some (a1,[],x8.1)
 else bif decide (a2.2.1 = 14) then ((w6 k a0.1 a0.2.1 a0.2.2.1 a0.2.2.2.1 a0.2.2.2.2 a1.1 a1.2.1 a1.2.2.1 a1.2.2.2.1 a1.2.2.2.2.1 a1.2.2.2.2.2.1 a1.2.2.2.2.2.2.1 a1.2.2.2.2.2.2.2.1 a1.2.2.2.2.2.2.2.2.1 a1.2.2.2.2.2.2.2.2.2.1 a1.2.2.2.2.2.2.2.2.2.2).bind fun x9=>
  some ((qS x9),x9.2.2.2.2.2.2.2.2.2.2.2,0))
 else(tO k x8.2.2.2.2.2.2.1 x8.2.2.2.2.2.2.2.1 x8.2.2.2.2.2.2.2.2.1 x8.2.2.2.2.2.2.2.2.2.1 x8.2.2.2.2.2.2.2.2.2.2.1 x8.2.2.2.2.2.2.2.2.2.2.2.1 x8.2.2.2.2.2.2.2.2.2.2.2.2.1 x8.2.2.2.2.2.2.2.2.2.2.2.2.2.1 x8.2.2.2.2.2.2.2.2.2.2.2.2.2.2.1 x8.2.2.2.2.2.2.2.2.2.2.2.2.2.2.2.1 x8.2.2.2.2.2.2.2.2.2.2.2.2.2.2.2.2.1 (decide (a2.2.1=13))).bind fun cm=>
 bif zN (x8.2.2.2.2.2.2.2.2.2.2.2.2.2.2.2.2.2.2.length + cm.2.2.2.2.2.2.2.2.2.2.2.length) 64 then (let y1:List qQ:=(x8.2.2.2.2.2.2.2.2.2.2.2.2.2.2.2.2.2.2++cm.2.2.2.2.2.2.2.2.2.2.2)
  bif decide (a2.2.1 = 1) then ((og k cm.2.2.2.2.2.2.2.1 a2.2.2.1).bind fun cN=>
   bif decide (cN ≥ 0) then ((w8 k (Pp x8 y1) 19 [a2.2.2.1]).bind fun mI=>
    some ((qS cm),mI.2.2.2.2.2.2.2.2.2.2.2.2.2.2.2.2.2,0))
   else some ((qS cm),y1,0))
  else some ((qS cm),y1,0))
 else none
def uh (k:Nat)(bh:iH)(dv:wC)(a1:AC):Option (Int×iH×wC):=
 (PJ k dv (zA (1-bh.1)) (zA (bh.2.1+1)) a1).bind fun x0=>
 bif decide (x0.1=0) then some (x0.1,((zA (1-bh.1)),(zA (bh.2.1+1)),0,false),x0.2)
 else some (x0.1,bh,x0.2)
def XO (k:Nat)(a0:Int):Option Bool:=
 (vH k a0 0 1048576).bind fun x0=>
 some (!x0)
def Gz (k:Nat)(rec:yAt)(s0:AC)(s7 s8:Int):Option (Unit⊕Int):=
 bif decide (s8 < s7) then (bif zB s8 s0.length then ((XO k (s0.getD s8.toNat 0)).bind fun x0=>
   bif x0 then some (.inr s8)
   else rec s0 s7 (zA (s8+1)))
  else none)
 else some (.inl ())
def Bq (k:Nat):Nat→yAt
 |0,_,_,_=>none
 |n+1,s0,s7,s8=>Gz k (Bq k n) s0 s7 s8
def XP (k:Nat)(a0:AC):Option Int:=
 (Bq k k a0 (a0.length:Int) 0).bind fun z=>
 match z with
 |.inl z1=>some (-1)
 |.inr z2=>some z2
def KR (k:Nat)(a0:AC):Option Bool:=
 (XP k a0).bind fun x0=>
 some (decide (x0≥0))
def XQ (k:Nat)(a0:Int):Option Bool:=
 some (decide (a0>1099511627776))
def GA (k:Nat)(rec:yAt)(s0:AC)(s7 s8:Int):Option (Unit⊕Int):=
 bif decide (s8 < s7) then (bif zB s8 s0.length then ((XQ k (s0.getD s8.toNat 0)).bind fun x0=>
   bif x0 then some (.inr s8)
   else rec s0 s7 (zA (s8+1)))
  else none)
 else some (.inl ())
def Br (k:Nat):Nat→yAt
 |0,_,_,_=>none
 |n+1,s0,s7,s8=>GA k (Br k n) s0 s7 s8
def XR (k:Nat)(a0:AC):Option Int:=
 (Br k k a0 (a0.length:Int) 0).bind fun z=>
 match z with
 |.inl z1=>some (-1)
 |.inr z2=>some z2
def Pw (k:Nat)(a0:AC):Option Bool:=
 (XR k a0).bind fun x0=>
 some (decide (x0≥0))
abbrev qX2:Type:=EQ→Int→Int→yZ→yA→Option (Unit⊕Bool)
def GB (k:Nat)(rec:qX2)(kZ:EQ)(fw lQ:Int)(b0:yZ)(b1:yA):Option (Unit⊕Bool):=
 bif decide (lQ < fw) then (bif zB lQ kZ.length then ((rL k b0.2.1 b1.2.2.2.2.2.1 (kZ.getD lQ.toNat [])).bind fun x1=>
   bif !x1.2 then some (.inr false)
   else bif decide (x1.1>1152921504606846976) then some (.inr false)
   else bif zB lQ b1.2.1.length then (bif !(decide (x1.1=(b1.2.1.getD lQ.toNat (0,0,0)).2.1)) then some (.inr false)
    else(Pw k (kZ.getD lQ.toNat [])).bind fun x2=>
    bif x2 then some (.inr false)
    else rec kZ fw (zA (lQ+1)) b0 b1)
   else none)
  else none)
 else some (.inl ())
def xv (k:Nat):Nat→qX2:=qZ (fun _ _ _ _ _=>none) (GB k)
def KS (k:Nat)(a0:yZ)(a1:yA):Option Bool:=
 bif !(decide ((a1.2.2.2.2.2.1.length:Int)=(a0.2.1.length:Int))) then some false
 else bif !(decide ((a1.2.2.2.2.2.2.1.length:Int)=a0.1)) then some false
 else(KR k a1.2.2.2.2.2.1).bind fun x0=>
 bif x0 then some false
 else(xv k k a1.2.2.2.2.2.2.1 (a1.2.2.2.2.2.2.1.length:Int) 0 a0 a1).bind fun z=>
 match z with
 |.inl z1=>some true
 |.inr z2=>some z2
abbrev qQ8:Type:=List zC→Int→Option (Unit⊕Bool)
def Pt (k:Nat)(rec:qQ8)(s0:List zC)(s5:Int):Option (Unit⊕Bool):=
 bif decide (s5 > 0) then (bif zB s5 s0.length then (bif zB (zA (s5 - 1)) s0.length then ((EF k (s0.getD s5.toNat (0,0,0,0,0,0,0)).1 (s0.getD s5.toNat (0,0,0,0,0,0,0)).2.1 (s0.getD s5.toNat (0,0,0,0,0,0,0)).2.2.1 (s0.getD s5.toNat (0,0,0,0,0,0,0)).2.2.2.1 (s0.getD s5.toNat (0,0,0,0,0,0,0)).2.2.2.2.1 (s0.getD s5.toNat (0,0,0,0,0,0,0)).2.2.2.2.2.1 (s0.getD s5.toNat (0,0,0,0,0,0,0)).2.2.2.2.2.2 (s0.getD (zA (s5-1)).toNat (0,0,0,0,0,0,0)).1 (s0.getD (zA (s5-1)).toNat (0,0,0,0,0,0,0)).2.1 (s0.getD (zA (s5-1)).toNat (0,0,0,0,0,0,0)).2.2.1 (s0.getD (zA (s5-1)).toNat (0,0,0,0,0,0,0)).2.2.2.1 (s0.getD (zA (s5-1)).toNat (0,0,0,0,0,0,0)).2.2.2.2.1 (s0.getD (zA (s5-1)).toNat (0,0,0,0,0,0,0)).2.2.2.2.2.1 (s0.getD (zA (s5-1)).toNat (0,0,0,0,0,0,0)).2.2.2.2.2.2).bind fun x0=>
    bif decide (x0<0) then some (.inr false)
    else rec s0 (zA (s5-1)))
   else none)
  else none)
 else some (.inl ())
def KM (k:Nat):Nat→qQ8:=qZ (fun _ _=>none) (Pt k)
def Ps (k:Nat)(a0:List zC):Option Bool:=
 (KM k k a0 (zA ((a0.length:Int)-1))).bind fun z=>
 match z with
 |.inl z1=>some true
 |.inr z2=>some z2
abbrev qI7:Type:=(List zC)⊕Bool
abbrev qVo:Type:=List zC→List zC→Int→Int→Option qI7
def Gw (k:Nat)(rec:qVo)(s0 s5:List zC)(s6 s7:Int):Option qI7:=
 bif decide (s7 < s6) then (bif zB s7 s5.length then ((og k s0 (s5.getD s7.toNat (0,0,0,0,0,0,0)).1).bind fun x0=>
   bif !(decide (x0=s7)) then some (.inr false)
   else rec s0 s5 s6 (zA (s7+1)))
  else none)
 else some (.inl s0)
def Bo (k:Nat):Nat→qVo
 |0,_,_,_,_=>none
 |n+1,s0,s5,s6,s7=>Gw k (Bo k n) s0 s5 s6 s7
def KL (k:Nat)(a0:List zC):Option Bool:=
 (Bo k k a0 a0 (a0.length:Int) 0).bind fun z=>
 match z with
 | .inl z1 => bif decide ((z1.length : Int) ≤ 40) then ((Ps k z1).bind fun x1=>
   some x1)
  else some false
 |.inr z2=>some z2
abbrev qMf:Type:=AC→Int→AC→Int→Int→Option (AC⊕Bool)
def Gx (k:Nat)(rec:qMf)(s0:AC)(s3:Int)(s6:AC)(s7 s8:Int):Option (AC⊕Bool):=
 bif decide (s8 < s7) then (bif zB s8 s6.length then (bif decide ((s6.getD s8.toNat 0)≤s3) then some (.inr false)
   else rec s0 (s6.getD s8.toNat 0) s6 s7 (zA (s8+1)))
  else none)
 else some (.inl s0)
def KO (k:Nat):Nat→qMf:=qZ (fun _ _ _ _ _=>none) (Gx k)
def KN (k:Nat)(a0:AC):Option Bool:=
 (KO k k a0 0 a0 (a0.length:Int) 0).bind fun z=>
 match z with
 |.inl z1=>some (decide ((z1.length:Int)≤200))
 |.inr z2=>some z2
def Oa (k:Nat)(a0:AC)(a1:Int):Option Bool:=
 (EN k a0 a1).bind fun x0=>
 some x0.2
def Pv (k:Nat)(a0:zC)(a1:yA):Option Bool:=
 (DQ k a1.2.1 a1.2.2.1 a1.2.2.2.1 a1.2.2.2.2.1 a0.1 a0.2.1 a0.2.2.1 a0.2.2.2.1 a0.2.2.2.2.1 a0.2.2.2.2.2.1 a0.2.2.2.2.2.2).bind fun x0=>
 bif !x0 then some true
 else bif decide (a0.2.2.2.2.2.1<0) then some true
 else(vH k a0.2.2.2.2.2.2 a0.2.2.2.2.2.1 1048576).bind fun x1=>
 bif !x1 then some true
 else(Oa k a1.2.2.2.2.2.2.2.2.1 a0.1).bind fun x2=>
 some (!x2)
abbrev qK5:Type:=List zC→Int→Int→Int→List zI→EQ→AC→EQ→AC→EQ→List zC→AC→Int→Bool→Option (Unit⊕Int)
def Gy (k:Nat)(rec:qK5)(s0:List zC)(s7 s8 af:Int)(ah:List zI)(ai:EQ)(ag:AC)(aZ:EQ)(bn:AC)(bo:EQ)(dO:List zC)(dP:AC)(dQ:Int)(bW:Bool):Option (Unit⊕Int):=
 bif decide (s8 < s7) then (bif zB s8 s0.length then ((Pv k (s0.getD s8.toNat (0,0,0,0,0,0,0)) (af,ah,ai,ag,aZ,bn,bo,dO,dP,dQ,bW)).bind fun x0=>
   bif x0 then some (.inr s8)
   else rec s0 s7 (zA (s8+1)) af ah ai ag aZ bn bo dO dP dQ bW)
  else none)
 else some (.inl ())
def Bp (k:Nat):Nat→qK5
 |0,_,_,_,_,_,_,_,_,_,_,_,_,_,_=>none
 |n+1,s0,s7,s8,af,ah,ai,ag,aZ,bn,bo,dO,dP,dQ,bW=>Gy k (Bp k n) s0 s7 s8 af ah ai ag aZ bn bo dO dP dQ bW
def XN (k:Nat)(a0:List zC)(fQ:Int)(bQ:List zI)(cE:EQ)(cF:AC)(cG:EQ)(dC:AC)(eA:EQ)(fR:List zC)(iW:AC)(eC:Int)(fS:Bool):Option Int:=
 (Bp k k a0 (a0.length:Int) 0 fQ bQ cE cF cG dC eA fR iW eC fS).bind fun z=>
 match z with
 |.inl z1=>some (-1)
 |.inr z2=>some z2
def Pu (k:Nat)(a0:List zC)(fQ:Int)(bQ:List zI)(cE:EQ)(cF:AC)(cG:EQ)(dC:AC)(eA:EQ)(fR:List zC)(iW:AC)(eC:Int)(fS:Bool):Option Bool:=
 (XN k a0 fQ bQ cE cF cG dC eA fR iW eC fS).bind fun x0=>
 some (decide (x0≥0))
def KP (k:Nat)(a0:yA):Option Bool:=
 (KL k a0.2.2.2.2.2.2.2.1).bind fun x0=>
 bif x0 then ((KN k a0.2.2.2.2.2.2.2.2.1).bind fun x1=>
  bif x1 then ((Pu k a0.2.2.2.2.2.2.2.1 a0.1 a0.2.1 a0.2.2.1 a0.2.2.2.1 a0.2.2.2.2.1 a0.2.2.2.2.2.1 a0.2.2.2.2.2.2.1 a0.2.2.2.2.2.2.2.1 a0.2.2.2.2.2.2.2.2.1 a0.2.2.2.2.2.2.2.2.2.1 a0.2.2.2.2.2.2.2.2.2.2).bind fun x2=>
   some (!x2))
  else some false)
 else some false
abbrev yAe:Type:=yZ×yA×AC
abbrev qZw:Type:=List zI→Int→Int→yZ→yA→AC→Option yAe
def GD (k:Nat)(rec:qZw)(nG:List zI)(s45 Q8:Int)(b0:yZ)(b1:yA)(r2:AC):Option yAe:=
 bif decide (Q8 < s45) then (bif zB Q8 nG.length then (bif zN (r2.length+1) 8 then(rec nG s45 (zA (Q8+1)) b0 b1 (r2++[(nG.getD Q8.toNat (0,0,0)).1]))
   else none)
  else none)
 else some (b0,b1,r2)
def GC (k:Nat):Nat→qZw:=qZ (fun _ _ _ _ _ _=>none) (GD k)
def KT (k:Nat)(a0:yZ)(a1:yA):Option Bool:=
 (vH k a1.1 0 a0.2.2.2.1).bind fun x0=>
 bif !x0 then some false
 else(Av k a1.2.1 a1.2.2.1 a1.2.2.2.1 a1.2.2.2.2.1).bind fun x1=>
 bif !x1 then some false
 else bif !(decide ((a1.2.1.length:Int)=a0.1)) then some false
 else(KS k a0 a1).bind fun x2=>
 bif !x2 then some false
 else(KP k a1).bind fun x3=>
 bif !x3 then some false
 else(GC k k a1.2.1 (a1.2.1.length:Int) 0 a0 a1 []).bind fun z=>
 (EP k z.2.2).bind fun x4=>
 bif !x4.2 then some false
 else bif !(decide (x4.1=z.2.1.2.2.2.2.2.2.2.2.2.1)) then some false
 else(vH k x4.1 0 1152921504606846976).bind fun x5=>
 bif !x5 then some false
 else(AY k z.1.1 z.1.2.1 z.1.2.2.1 z.1.2.2.2.1 z.1.2.2.2.2 z.2.1.1).bind fun x6=>
 bif mK z.2.1.2.2.2.2.2.2.2.2.2.2 x6 then (bif !z.2.1.2.2.2.2.2.2.2.2.2.2 then some true
  else some (decide ((z.2.1.2.2.2.2.2.2.2.1.length:Int)=0)))
 else some false
abbrev qV7:Type:=Int×Bool×G5×AC×AC×yZ×iH×yA
abbrev qZg:Type:=Int→Bool→EQ→Int→Int→G5→AC→AC→yZ→iH→yA→Option qV7
def xy (k:Nat)(rec:qZg)(s2:Int)(de:Bool)(Q9:EQ)(s73 Lx:Int)(b0:G5)(r1 r2:AC)(b3:yZ)(b4:iH)(b5:yA):Option qV7:=
 bif decide (Lx < s73) then (bif zB Lx Q9.length then ((rT k (Q9.getD Lx.toNat [])).bind fun x8=>
   bif decide (x8.2 = 0) then ((oG k b3 b5 x8.1).bind fun x9=>
    rec s2 de Q9 s73 (zA (Lx+1)) b0 r1 r2 b3 b4 x9.1)
   else rec s2 de Q9 s73 (zA (Lx+1)) b0 r1 r2 b3 b4 b5)
  else none)
 else some (s2,de,b0,r1,r2,b3,b4,b5)
def xx (k:Nat):Nat→qZg:=qZ (fun _ _ _ _ _ _ _ _ _ _ _=>none) (xy k)
def fI (k:Nat)(a0:yZ)(a1:wC)(a2:Int):Option ((Int×wC×uo×iH)⊕(Int×wC)):=
 (xz k a0).bind fun x0=>
 bif !x0 then some (.inr (1,a1))
 else bif decide (a2<1) then some (.inr (1,a1))
 else bif decide (a2>1000) then some (.inr (1,a1))
 else(KY k a1).bind fun x1=>
 (uf k a0).bind fun x2=>
 (mo k x2).bind fun x3=>
 (PD k a1 x3).bind fun x4=>
 match x4 with
 |.inl x5=>bif !(decide (x5.2.2.1=0)) then some (.inr (x5.2.2.1,x5.2.2.2.1))
  else(J2 k x5.1).bind fun x6=>
  bif !x6.2 then ((uf k a0).bind fun x7=>
   (xx k k a2 x1.2.2.2.2 x5.2.1 (x5.2.1.length:Int) 0 (x5.2.2.2.1.1,x5.2.2.2.1.2.2.1,x5.2.2.2.1.2.2.2.2) x5.2.2.2.1.2.1 x5.2.2.2.1.2.2.2.1 a0 x5.2.2.2.2 x7).bind fun z=>
   bif z.2.1 then ((mo k z.2.2.2.2.2.2.2).bind fun cm=>
    (uh k z.2.2.2.2.2.2.1 (z.2.2.1.1,z.2.2.2.1,z.2.2.1.2.1,z.2.2.2.2.1,z.2.2.1.2.2) cm).bind fun cN=>
    bif !(decide (cN.1=0)) then some (.inr (cN.1,cN.2.2))
    else some (.inl (0,cN.2.2,(jD z.2.2.2.2.2.1 (G6 z (z.1,false))),cN.2.1)))
   else some (.inl (0,(z.2.2.1.1,z.2.2.2.1,z.2.2.1.2.1,z.2.2.2.2.1,z.2.2.1.2.2),(jD z.2.2.2.2.2.1 (G6 z (z.1,false))),z.2.2.2.2.2.2.1)))
  else(KT k a0 x6.1).bind fun mI=>
  bif !mI then ((uf k a0).bind fun se=>
   (xx k k a2 x1.2.2.2.2 x5.2.1 (x5.2.1.length:Int) 0 (x5.2.2.2.1.1,x5.2.2.2.1.2.2.1,x5.2.2.2.1.2.2.2.2) x5.2.2.2.1.2.1 x5.2.2.2.1.2.2.2.1 a0 x5.2.2.2.2 se).bind fun z1=>
   bif z1.2.1 then ((mo k z1.2.2.2.2.2.2.2).bind fun oL=>
    (uh k z1.2.2.2.2.2.2.1 (z1.2.2.1.1,z1.2.2.2.1,z1.2.2.1.2.1,z1.2.2.2.2.1,z1.2.2.1.2.2) oL).bind fun bP=>
    bif !(decide (bP.1=0)) then some (.inr (bP.1,bP.2.2))
    else some (.inl (0,bP.2.2,(jD z1.2.2.2.2.2.1 (G6 z1 (z1.1,false))),bP.2.1)))
   else some (.inl (0,(z1.2.2.1.1,z1.2.2.2.1,z1.2.2.1.2.1,z1.2.2.2.2.1,z1.2.2.1.2.2),(jD z1.2.2.2.2.2.1 (G6 z1 (z1.1,false))),z1.2.2.2.2.2.2.1)))
  else(xx k k a2 x1.2.2.2.2 x5.2.1 (x5.2.1.length:Int) 0 (x5.2.2.2.1.1,x5.2.2.2.1.2.2.1,x5.2.2.2.1.2.2.2.2) x5.2.2.2.1.2.1 x5.2.2.2.1.2.2.2.1 a0 x5.2.2.2.2 x6.1).bind fun z2=>
  bif z2.2.1 then ((mo k z2.2.2.2.2.2.2.2).bind fun xQ=>
   (uh k z2.2.2.2.2.2.2.1 (z2.2.2.1.1,z2.2.2.2.1,z2.2.2.1.2.1,z2.2.2.2.2.1,z2.2.2.1.2.2) xQ).bind fun iG=>
   bif !(decide (iG.1=0)) then some (.inr (iG.1,iG.2.2))
   else some (.inl (0,iG.2.2,(jD z2.2.2.2.2.2.1 (G6 z2 (z2.1,false))),iG.2.1)))
  else some (.inl (0,(z2.2.2.1.1,z2.2.2.2.1,z2.2.2.1.2.1,z2.2.2.2.2.1,z2.2.2.1.2.2),(jD z2.2.2.2.2.2.1 (G6 z2 (z2.1,false))),z2.2.2.2.2.2.2.1))
 |.inr gH=>bif !(decide (gH.2.2.1=0)) then some (.inr (gH.2.2.1,gH.2.2.2))
  else(J2 k gH.1).bind fun nC=>
  bif !nC.2 then ((uf k a0).bind fun nD=>
   none)
  else(KT k a0 nC.1).bind fun BK=>
  bif !BK then ((uf k a0).bind fun BL=>
   none)
  else none
def vCf (k:Nat)(rec:Yx)(s0 s1 s6:Int)(r0:AC):Option AC:=
 bif decide (s6 < s0) then (bif zB s6 r0.length then(rec s0 s1 (zA (s6+1)) (r0.set s6.toNat s1))
  else none)
 else some r0
def Qv (k:Nat):Nat→Yx
 |0,_,_,_,_=>none
 |n+1,s0,s1,s6,r0=>vCf k (Qv k n) s0 s1 s6 r0
def qXc (k:Nat)(a0 a1:Int):Option AC:=
 bif decide (a0<0) then some []
 else bif decide (a0>6) then some []
 else bif o0 a0 a0 8 then ((Qv k k a0 a1 0 (List.replicate a0.toNat (0:Int))).bind fun z=>
  some z)
 else none
abbrev qPz:Type:=Int→Int→Int→EQ→Option EQ
def yHn (k:Nat)(rec:qPz)(s0 s1 s6:Int)(m0:EQ):Option EQ:=
 bif decide (s6 < s0) then ((qXc k s0 s1).bind fun x0=>
  bif zN (m0.length+1) 24 then(rec s0 s1 (zA (s6+1)) (m0++[x0]))
  else none)
 else some m0
def Qw (k:Nat):Nat→qPz
 |0,_,_,_,_=>none
 |n+1,s0,s1,s6,m0=>yHn k (Qw k n) s0 s1 s6 m0
def qJn (k:Nat)(a0 a1:Int):Option EQ:=
 bif decide (a0<0) then some []
 else bif decide (a0>6) then some []
 else(Qw k k a0 a1 0 []).bind fun z=>
 some z
abbrev qSh:Type:=Int→Int→yZ→yF→yF→List zI→EQ→AC→EQ→AC→Option YF
def yXn (k:Nat)(rec:qSh)(s3 s5:Int)(b0:yZ)(b1 b2:yF)(r3:List zI)(m4:EQ)(r5:AC)(m6:EQ)(r7:AC):Option YF:=
 bif decide (s5 < (b0.2.1.length : Int)) then (bif zB s5 b0.2.1.length then (bif zN (r7.length+1) 8 then(rec s3 (zA (s5+1)) b0 b1 b2 r3 m4 r5 m6 (r7++[(b0.2.1.getD s5.toNat (0,0)).1]))
   else none)
  else none)
 else some (s3,b0,b1,b2,r3,m4,r5,m6,r7)
def qZf (k:Nat):Nat→qSh:=qZ (fun _ _ _ _ _ _ _ _ _ _=>none) (yXn k)
def yDw (k:Nat)(rec:YH)(s3 s6:Int)(b0:yZ)(b1 b2:yF)(r3:List zI)(m4:EQ)(r5:AC)(m6:EQ)(r7:AC)(m8:EQ):Option YI:=
 bif decide (s6 < s3) then (bif o0 (b0.2.1.length : Int) (b0.2.1.length : Int) 8 then (bif zN (m8.length+1) 24 then(rec s3 (zA (s6+1)) b0 b1 b2 r3 m4 r5 m6 r7 (m8++[(List.replicate b0.2.1.length (0:Int))]))
   else none)
  else none)
 else some (b1,b2,r3,m4,r5,m6,r7,m8)
def qOh (k:Nat):Nat→YH:=qZ (fun _ _ _ _ _ _ _ _ _ _ _=>none) (yDw k)
def Yc (k:Nat)(a0:yZ):Option yA:=
 bif o0 a0.1 a0.1 24 then ((qJn k a0.1 (-1)).bind fun x0=>
  (qXc k a0.1 (-1)).bind fun x1=>
  (qJn k a0.1 0).bind fun x2=>
  (qZf k k a0.1 0 a0 (0,0,false) (0,0,false) (List.replicate a0.1.toNat ((0,0,0):Int×Int×Int)) x0 x1 x2 []).bind fun z=>
  (qOh k k z.1 0 z.2.1 z.2.2.1 z.2.2.2.1 z.2.2.2.2.1 z.2.2.2.2.2.1 z.2.2.2.2.2.2.1 z.2.2.2.2.2.2.2.1 z.2.2.2.2.2.2.2.2 []).bind fun z1=>
  some (z1.2.1.1,(yN6 z1 ([],[],z1.2.1.2))))
 else none
def rZ (k:Nat)(bh:uo)(dv:iH)(lO:wC):Option (Bool×uo×iH×wC):=
 some (bh.2.2.2.2.2.2.2.2.2.2.2.2.2.2.2.2.2,bh,dv,lO)
def Lj (k:Nat)(a0 a1:Int):Option (List qQ):=
 some [(a0,16,a1,0,0,0,0,0)]
def yJj (k:Nat)(a0:zC):Option AC:=
 (nr k a0).bind fun x0=>
 bif !x0 then some []
 else(tv k a0.1).bind fun x1=>
 bif (decide (0 ≤ x1)) && (decide (x1 ≤ 6)) then ((vw k (qR [a0.2.1,a0.2.2.1,a0.2.2.2.1,a0.2.2.2.2.1,a0.2.2.2.2.2.1,a0.2.2.2.2.2.2] 0 (x1.toNat-0))).bind fun x2=>
  bif zN (1+x2.length) 1 then some ([(IntKind.wrap .u8 (a0.1))]++x2)
  else none)
 else none
def vCp (k:Nat)(a0:qQ):Option AC:=
 (yJj k a0.2).bind fun x0=>
 bif decide ((x0.length:Int)=0) then some []
 else(vw k [a0.1]).bind fun x1=>
 bif zN (x1.length+x0.length) 1 then some (x1++x0)
 else none
def qTs (k:Nat)(bh:iH)(dv:wC)(a1:AC):Option (Int×iH×wC):=
 (Iz k a1).bind fun x0=>
 bif !x0.2 then some (10,bh,dv)
 else bif bh.2.2.2 then some (10,bh,dv)
 else(tw k dv bh.1 x0.1).bind fun x1=>
 bif decide (x1.1=3) then some (10,bh,x1.2)
 else bif decide (x1.1 = 0) then ((Y6 k x1.2).bind fun x2=>
  bif decide (x2.1=0) then some (x2.1,(bh.1,bh.2.1,(zA (bh.2.2.1+1)),bh.2.2.2),x2.2)
  else some (x2.1,bh,x2.2))
 else bif decide (x1.1=0) then some (x1.1,(bh.1,bh.2.1,(zA (bh.2.2.1+1)),bh.2.2.2),x1.2)
 else some (x1.1,bh,x1.2)
def yQd (k:Nat)(bh:uo)(dv:iH)(lO:wC)(a1:AC):Option (Int×uo×iH×wC):=
 (qTs k dv lO a1).bind fun x0=>
 bif !(decide (x0.1=10)) then some (x0.1,bh,x0.2.1,x0.2.2)
 else(mo k (ui bh)).bind fun x1=>
 (uh k x0.2.1 x0.2.2 x1).bind fun x2=>
 bif !(decide (x2.1=0)) then some (x2.1,bh,x2.2.1,x2.2.2)
 else(qTs k x2.2.1 x2.2.2 a1).bind fun x3=>
 some (x3.1,bh,x3.2.1,x3.2.2)
def yNl (k:Nat)(bh:iH)(dv:wC):Option (Int×iH×wC):=
 some (bh.2.2.1,bh,dv)
def qRr (k:Nat)(bh:uo)(dv:iH)(lO:wC)(a1:Int)(a2:AC):Option ((List qQ)×uo×iH×wC):=
 (rZ k bh dv lO).bind fun x0=>
 bif x0.1 then some ([],x0.2.1,x0.2.2.1,x0.2.2.2)
 else(Dh k a2).bind fun x1=>
 bif !(decide (x1.2 = 0)) then ((Lj k a1 x1.2).bind fun x2=>
  some (x2,x0.2.1,x0.2.2.1,x0.2.2.2))
 else(oG k (yR x0.2.1) (ui x0.2.1) (a1,x1.1)).bind fun x3=>
 bif !(decide (x3.2.2 = 0)) then ((Lj k a1 x3.2.2).bind fun x4=>
  some (x4,x0.2.1,x0.2.2.1,x0.2.2.2))
 else bif decide (x1.1.1=9) then some (x3.2.1,x0.2.1,x0.2.2.1,x0.2.2.2)
 else(vCp k (a1,x1.1)).bind fun x5=>
 (yQd k x0.2.1 x0.2.2.1 x0.2.2.2 x5).bind fun x6=>
 bif decide (x6.1 = 0) then ((yNl k x6.2.2.1 x6.2.2.2).bind fun x7=>
  bif decide (x7.1 ≥ x6.2.1.2.2.2.2.2.2.2.2.2.2.2.2.2.2.2.2.1) then ((mo k x3.1).bind fun x8=>
   (uh k x7.2.1 x7.2.2 x8).bind fun x9=>
   bif decide (x9.1=11) then some (x3.2.1,(rY x6.2.1 (wO x3.1 (x6.2.1.2.2.2.2.2.2.2.2.2.2.2.2.2.2.2.2.1,true))),x9.2.1,x9.2.2)
   else some (x3.2.1,(rY x6.2.1 (wO x3.1 x6.2.1.2.2.2.2.2.2.2.2.2.2.2.2.2.2.2.2)),x9.2.1,x9.2.2))
  else some (x3.2.1,(rY x6.2.1 (wO x3.1 x6.2.1.2.2.2.2.2.2.2.2.2.2.2.2.2.2.2.2)),x7.2.1,x7.2.2))
 else bif decide (x6.1 = 10) then ((Lj k a1 10).bind fun cm=>
  some (cm,x6.2.1,x6.2.2.1,x6.2.2.2))
 else some ([],(yB x6.2.1 true),x6.2.2.1,x6.2.2.2)
def Uy (k:Nat)(rec:AC→Int→Int→Option Int)(s0:AC)(s3 s4:Int):Option Int:=
 bif decide (s4 < 8) then (bif zB s4 s0.length then(rec s0 (wD .u64 (shl .u64 s3 8) (IntKind.wrap .u64 ((s0.getD s4.toNat 0)))) (zA (s4+1)))
  else none)
 else some s3
def Ux (k:Nat):Nat→AC→Int→Int→Option Int:=qZ (fun _ _ _=>none) (Uy k)
def M9 (k:Nat)(a0:AC):Option Int:=
 (Ux k k a0 0 0).bind fun z=>
 some (zA (z))
abbrev yY5:Type:=AC→Int→AC→Option AC
def Ix (k:Nat)(rec:yY5)(s0:AC)(s5:Int)(r0:AC):Option AC:=
 bif decide (s5 < (s0.length : Int)) then (bif ((decide (0 ≤ s5)) && (decide (s5 ≤ (zA (s5 + 8))))) && (decide ((zA (s5 + 8)) ≤ (s0.length : Int))) then ((M9 k (qR s0 s5.toNat ((zA (s5+8)).toNat-s5.toNat))).bind fun x0=>
   bif zN (r0.length+1) 8 then(rec s0 (zA (s5+8)) (r0++[x0]))
   else none)
  else none)
 else some r0
def Iw (k:Nat):Nat→yY5:=qZ (fun _ _ _=>none) (Ix k)
def Uz (k:Nat)(a0:AC):Option (AC×Int):=
 bif !(decide ((Int.tmod (a0.length:Int) 8)=0)) then some ([],2)
 else(Iw k k a0 0 []).bind fun z=>
 some (z,0)
def Df (k:Nat)(a0:Int):Option Int:=
 bif decide (a0<0) then some (-1)
 else bif decide (a0≥24) then some (-1)
 else bif zB a0 24 then some (List.getD [(-1),6,1,2,2,2,1,1,2,0,2,2,2,0,0,0,1,5,4,1,1,1,1,1] a0.toNat 0)
 else none
def Pl (k:Nat)(a0:Int):Option Bool:=
 bif decide (a0≥1) then some (decide (a0≤14))
 else some false
abbrev qIx:Type:=Int→Int→zC→Option (Int⊕Bool)
def XF (k:Nat)(rec:qIx)(s3 s4:Int)(b0:zC):Option (Int⊕Bool):=
 bif decide (s4 < 6) then (bif decide (s4 = 0) then (bif !(decide (b0.2.1=0)) then some (.inr false)
   else rec s3 (zA (s4+1)) b0)
  else bif decide (s4 = 1) then (bif !(decide (b0.2.2.1=0)) then some (.inr false)
   else rec s3 (zA (s4+1)) b0)
  else bif decide (s4 = 2) then (bif !(decide (b0.2.2.2.1=0)) then some (.inr false)
   else rec s3 (zA (s4+1)) b0)
  else bif decide (s4 = 3) then (bif !(decide (b0.2.2.2.2.1=0)) then some (.inr false)
   else rec s3 (zA (s4+1)) b0)
  else bif decide (s4 = 4) then (bif !(decide (b0.2.2.2.2.2.1=0)) then some (.inr false)
   else rec s3 (zA (s4+1)) b0)
  else bif decide (s4 = 5) then (bif !(decide (b0.2.2.2.2.2.2=0)) then some (.inr false)
   else rec s3 (zA (s4+1)) b0)
  else none)
 else some (.inl s3)
def xa (k:Nat):Nat→qIx:=qZ (fun _ _ _=>none) (XF k)
def rQ (k:Nat)(a0:zC):Option Bool:=
 (Df k a0.1).bind fun x0=>
 (xa k k x0 (wU false x0 0) a0).bind fun z=>
 match z with
 |.inl z1=>some (decide (z1≥0))
 |.inr z2=>some z2
def Pm (k:Nat)(a0:Int):Option Bool:=
 bif decide (a0≥10) then some (decide (a0≤14))
 else some false
def Bj (k:Nat)(a0:yZ)(a1:qQ):Option Bool:=
 (Pl k a1.2.1).bind fun x0=>
 bif !x0 then some false
 else(rQ k a1.2).bind fun x1=>
 bif !x1 then some false
 else(Pm k a1.2.1).bind fun x2=>
 bif x2 then some (decide (a1.1=(-1)))
 else bif decide (a1.1≥0) then some (decide (a1.1<a0.1))
 else some false
abbrev qN3:Type:=List zC→Int→Int→List zC→Option Zs
def Es (k:Nat)(rec:qN3)(s0:List zC)(s1 s6:Int)(r0:List zC):Option Zs:=
 bif decide (s6 < (s0.length : Int)) then (bif zB s6 s0.length then (bif decide ((s0.getD s6.toNat (0, 0, 0, 0, 0, 0, 0)).2.1 = s1) then (bif zB s6 s0.length then (bif zN (r0.length + 1) 56 then (let y0:List zC:=(r0++[(s0.getD s6.toNat (0,0,0,0,0,0,0))])
      rec s0 s1 (zA (s6+1)) y0)
     else none)
    else none)
   else rec s0 s1 (zA (s6+1)) r0)
  else none)
 else some r0
def Jm (k:Nat):Nat→qN3
 |0,_,_,_,_=>none
 |n+1,s0,s1,s6,r0=>Es k (Jm k n) s0 s1 s6 r0
def tF (k:Nat)(a0:List zC)(a1:Int):Option (List zC):=
 (Jm k k a0 a1 0 []).bind fun z=>
 some z
abbrev qMw:Type:=Int×Int×Int×Int×Int×Int×Int×Int×Int×Int×Int×Int×Int×Int
abbrev qOy:Type:=AC→Int→Int→Int→Int→Int→Int→Int→Int→Int→Int→Int→Int→Int→Int→Int→Option qMw
def yOp (k:Nat)(rec:qOy)(s1:AC)(s6 af ah ai ag aZ bn bo av aA aB aD aG aH aI:Int):Option qMw:=
 bif decide (s6 < (s1.length : Int)) then (bif decide (s6 < 6) then (bif zB s6 s1.length then (bif decide (s6=0) then(rec s1 (zA (s6+1)) af ah ai ag aZ bn bo av (s1.getD s6.toNat 0) aB aD aG aH aI)
    else bif decide (s6=1) then(rec s1 (zA (s6+1)) af ah ai ag aZ bn bo av aA (s1.getD s6.toNat 0) aD aG aH aI)
    else bif decide (s6=2) then(rec s1 (zA (s6+1)) af ah ai ag aZ bn bo av aA aB (s1.getD s6.toNat 0) aG aH aI)
    else bif decide (s6=3) then(rec s1 (zA (s6+1)) af ah ai ag aZ bn bo av aA aB aD (s1.getD s6.toNat 0) aH aI)
    else bif decide (s6=4) then(rec s1 (zA (s6+1)) af ah ai ag aZ bn bo av aA aB aD aG (s1.getD s6.toNat 0) aI)
    else bif decide (s6=5) then(rec s1 (zA (s6+1)) af ah ai ag aZ bn bo av aA aB aD aG aH (s1.getD s6.toNat 0))
    else none)
   else none)
  else some (af,ah,ai,ag,aZ,bn,bo,av,aA,aB,aD,aG,aH,aI))
 else some (af,ah,ai,ag,aZ,bn,bo,av,aA,aB,aD,aG,aH,aI)
def QF (k:Nat):Nat→qOy
 |0,_,_,_,_,_,_,_,_,_,_,_,_,_,_,_,_=>none
 |n+1,s1,s6,af,ah,ai,ag,aZ,bn,bo,av,aA,aB,aD,aG,aH,aI=>yOp k (QF k n) s1 s6 af ah ai ag aZ bn bo av aA aB aD aG aH aI
def eP (k:Nat)(a0:Int)(a1:AC):Option zC:=
 (QF k k a1 0 0 0 0 0 0 0 0 a0 0 0 0 0 0 0).bind fun z=>
 some (z.2.2.2.2.2.2.2.1,z.2.2.2.2.2.2.2.2.1,z.2.2.2.2.2.2.2.2.2.1,z.2.2.2.2.2.2.2.2.2.2.1,z.2.2.2.2.2.2.2.2.2.2.2.1,z.2.2.2.2.2.2.2.2.2.2.2.2.1,z.2.2.2.2.2.2.2.2.2.2.2.2.2)
def Pk (k:Nat)(a0:yZ)(a1:Int):Option Bool:=
 some (decide (a1=a0.2.2.2.1))
def Xv (k:Nat)(ca bc bB cq bM bX bO a1:Int):Option Bool:=
 some (decide (a1>bO))
abbrev qKp:Type:=List zC→Int→Int→Option (Unit⊕Int)
def EB (k:Nat)(rec:qKp)(s0:List zC)(s1 s5:Int):Option (Unit⊕Int):=
 bif decide (s5 < (s0.length : Int)) then (bif zB s5 s0.length then (bif decide ((s0.getD s5.toNat (0,0,0,0,0,0,0)).1=s1) then some (.inr s5)
   else rec s0 s1 (zA (s5+1)))
  else none)
 else some (.inl ())
def EA (k:Nat):Nat→qKp
 |0,_,_,_=>none
 |n+1,s0,s1,s5=>EB k (EA k n) s0 s1 s5
def mv (k:Nat)(a0:List zC)(a1:Int):Option Int:=
 (EA k k a0 a1 0).bind fun z=>
 match z with
 |.inl z1=>some (-1)
 |.inr z2=>some z2
def nu (k:Nat)(a0:List zC)(a1:Int):Option qZn:=
 (mv k a0 a1).bind fun x0=>
 bif decide (x0<0) then some (a0,0,0,0,0,0,0,0,4)
 else bif (decide (0 ≤ x0)) && (decide (x0 ≤ (a0.length : Int))) then (bif zN (0 + (List.take x0.toNat a0).length) 56 then (bif (decide (0 ≤ (zA (x0 + 1)))) && (decide ((zA (x0 + 1)) ≤ (a0.length : Int))) then (bif zN ((List.take x0.toNat a0).length + (List.drop (zA (x0 + 1)).toNat a0).length) 56 then (bif zB x0 a0.length then some (((List.take x0.toNat a0)++(List.drop (zA (x0+1)).toNat a0)),(ie (a0.getD x0.toNat (0,0,0,0,0,0,0)) 0))
     else none)
    else none)
   else none)
  else none)
 else none
def KK (k:Nat)(a0:yZ)(a1:Int):Option Bool:=
 bif decide (a1 > 0) then (bif decide (a1 < a0.2.2.2.1) then (bif !(decide (a0.2.2.2.2=0)) then some (decide ((Int.tmod a1 a0.2.2.2.2)=0))
   else none)
  else some false)
 else some false
def VA (k:Nat)(ca bc bB cq bM bX bO a1:Int):Option Bool:=
 bif decide (a1≥bX) then some (decide (a1≤bO))
 else some false
def Er (k:Nat)(rec:qN3)(s0:List zC)(s1 s6:Int)(r0:List zC):Option Zs:=
 bif decide (s6 < (s0.length : Int)) then (bif zB s6 s0.length then ((VA k (s0.getD s6.toNat (0,0,0,0,0,0,0)).1 (s0.getD s6.toNat (0,0,0,0,0,0,0)).2.1 (s0.getD s6.toNat (0,0,0,0,0,0,0)).2.2.1 (s0.getD s6.toNat (0,0,0,0,0,0,0)).2.2.2.1 (s0.getD s6.toNat (0,0,0,0,0,0,0)).2.2.2.2.1 (s0.getD s6.toNat (0,0,0,0,0,0,0)).2.2.2.2.2.1 (s0.getD s6.toNat (0,0,0,0,0,0,0)).2.2.2.2.2.2 s1).bind fun x0=>
   bif x0 then (bif zB s6 s0.length then (bif zN (r0.length + 1) 56 then (let y0:List zC:=(r0++[(s0.getD s6.toNat (0,0,0,0,0,0,0))])
      rec s0 s1 (zA (s6+1)) y0)
     else none)
    else none)
   else rec s0 s1 (zA (s6+1)) r0)
  else none)
 else some r0
def Jl (k:Nat):Nat→qN3
 |0,_,_,_,_=>none
 |n+1,s0,s1,s6,r0=>Er k (Jl k n) s0 s1 s6 r0
def Ep (k:Nat)(a0:List zC)(a1:Int):Option (List zC):=
 (Jl k k a0 a1 0 []).bind fun z=>
 some z
abbrev qI1:Type:=Int×Bool×(List zC)×(List zC)×(List zC)
abbrev qVs:Type:=Int→Bool→Int→List zC→List zC→List zC→Option qI1
def Eu (k:Nat)(rec:qVs)(s7:Int)(s9:Bool)(aw:Int)(r0 r1 r2:List zC):Option qI1:=
 bif decide (aw < (r2.length : Int)) then (bif s9 then (bif zB aw r2.length then(rec s7 (decide ((r2.getD aw.toNat (0,0,0,0,0,0,0)).2.2.2.2.1=3)) (zA (aw+1)) r0 r1 r2)
   else none)
  else rec s7 false (zA (aw+1)) r0 r1 r2)
 else some (s7,s9,r0,r1,r2)
def Et (k:Nat):Nat→qVs
 |0,_,_,_,_,_,_=>none
 |n+1,s7,s9,aw,r0,r1,r2=>Eu k (Et k n) s7 s9 aw r0 r1 r2
abbrev qUd:Type:=Int→List zC→List zC→Option Zs
def Ev (k:Nat)(rec:qUd)(s7:Int)(r0 r1:List zC):Option Zs:=
 bif decide (s7 < (r0.length : Int)) then (bif zB s7 r0.length then ((tF k r0 (r0.getD s7.toNat (0,0,0,0,0,0,0)).2.1).bind fun x1=>
   (Et k k s7 true 0 r0 r1 x1).bind fun z=>
   bif zB 0 z.2.2.2.2.length then (bif zB z.1 z.2.2.1.length then (bif (decide ((z.2.2.2.2.getD 0 (0, 0, 0, 0, 0, 0, 0)).1 = (z.2.2.1.getD z.1.toNat (0, 0, 0, 0, 0, 0, 0)).1)) && ((decide ((z.2.2.2.2.getD 0 (0, 0, 0, 0, 0, 0, 0)).2.1 = (z.2.2.1.getD z.1.toNat (0, 0, 0, 0, 0, 0, 0)).2.1)) && ((decide ((z.2.2.2.2.getD 0 (0, 0, 0, 0, 0, 0, 0)).2.2.1 = (z.2.2.1.getD z.1.toNat (0, 0, 0, 0, 0, 0, 0)).2.2.1)) && ((decide ((z.2.2.2.2.getD 0 (0, 0, 0, 0, 0, 0, 0)).2.2.2.1 = (z.2.2.1.getD z.1.toNat (0, 0, 0, 0, 0, 0, 0)).2.2.2.1)) && ((decide ((z.2.2.2.2.getD 0 (0, 0, 0, 0, 0, 0, 0)).2.2.2.2.1 = (z.2.2.1.getD z.1.toNat (0, 0, 0, 0, 0, 0, 0)).2.2.2.2.1)) && ((decide ((z.2.2.2.2.getD 0 (0, 0, 0, 0, 0, 0, 0)).2.2.2.2.2.1 = (z.2.2.1.getD z.1.toNat (0, 0, 0, 0, 0, 0, 0)).2.2.2.2.2.1)) && (decide ((z.2.2.2.2.getD 0 (0, 0, 0, 0, 0, 0, 0)).2.2.2.2.2.2 = (z.2.2.1.getD z.1.toNat (0, 0, 0, 0, 0, 0, 0)).2.2.2.2.2.2))))))) then (bif zB z.1 z.2.2.1.length then (bif zN (z.2.2.2.1.length + 1) 56 then (let y0:List zC:=(z.2.2.2.1++[(z.2.2.1.getD z.1.toNat (0,0,0,0,0,0,0))])
        rec (zA (z.1+1)) z.2.2.1 y0)
       else none)
      else none)
     else bif z.2.1 then (bif zB z.1 z.2.2.1.length then (bif zN (z.2.2.2.1.length + 1) 56 then (let y1:List zC:=(z.2.2.2.1++[(z.2.2.1.getD z.1.toNat (0,0,0,0,0,0,0))])
        rec (zA (z.1+1)) z.2.2.1 y1)
       else none)
      else none)
     else rec (zA (z.1+1)) z.2.2.1 z.2.2.2.1)
    else none)
   else none)
  else none)
 else some r1
def Jo (k:Nat):Nat→qUd
 |0,_,_,_=>none
 |n+1,s7,r0,r1=>Ev k (Jo k n) s7 r0 r1
def Jn (k:Nat)(a0:List zC)(a1:Int):Option (List zC):=
 (Ep k a0 a1).bind fun x0=>
 (Jo k k 0 x0 []).bind fun z1=>
 some z1
def U4 (k:Nat)(au:List zI)(az:EQ)(ay:AC)(ax:EQ)(gG ct dt dZ du iE iF:Int):Option Bool:=
 bif decide (ct ≥ 0) then (bif decide (ct < (au.length : Int)) then (bif decide (dt ≥ 0) then (bif decide (dt < (au.length : Int)) then (bif !(decide (ct = dt)) then (bif decide (dZ ≥ 1) then (bif decide (dZ ≤ 1099511627776) then (bif decide (du≥1) then some (decide (du≤3))
        else some false)
       else some false)
      else some false)
     else some false)
    else some false)
   else some false)
  else some false)
 else some false
abbrev qZi:Type:=List zC→Int→List zI→EQ→AC→EQ→Option qI7
def DS (k:Nat)(rec:qZi)(s1:List zC)(s5:Int)(af:List zI)(ah:EQ)(ai:AC)(ag:EQ):Option qI7:=
 bif decide (s5 < (s1.length : Int)) then (bif zB s5 s1.length then ((U4 k af ah ai ag (s1.getD s5.toNat (0,0,0,0,0,0,0)).1 (s1.getD s5.toNat (0,0,0,0,0,0,0)).2.1 (s1.getD s5.toNat (0,0,0,0,0,0,0)).2.2.1 (s1.getD s5.toNat (0,0,0,0,0,0,0)).2.2.2.1 (s1.getD s5.toNat (0,0,0,0,0,0,0)).2.2.2.2.1 (s1.getD s5.toNat (0,0,0,0,0,0,0)).2.2.2.2.2.1 (s1.getD s5.toNat (0,0,0,0,0,0,0)).2.2.2.2.2.2).bind fun x0=>
   bif !x0 then some (.inr false)
   else rec s1 (zA (s5+1)) af ah ai ag)
  else none)
 else some (.inl s1)
def I2 (k:Nat):Nat→qZi
 |0,_,_,_,_,_,_=>none
 |n+1,s1,s5,af,ah,ai,ag=>DS k (I2 k n) s1 s5 af ah ai ag
def I1 (k:Nat)(au:List zI)(az:EQ)(ay:AC)(ax:EQ)(a1:List zC):Option Bool:=
 (I2 k k a1 0 au az ay ax).bind fun z=>
 match z with
 |.inl z1=>some (decide ((z1.length:Int)≤64))
 |.inr z2=>some z2
abbrev qPh:Type:=EQ→Int→EQ→Option EQ
def DL (k:Nat)(rec:qPh)(s0:EQ)(s4:Int)(m0:EQ):Option EQ:=
 bif decide (s4 < (s0.length : Int)) then (bif zB s4 s0.length then (bif zN (0 + (s0.getD s4.toNat []).length) 8 then (bif zN (m0.length+1) 24 then(rec s0 (zA (s4+1)) (m0++[(s0.getD s4.toNat [])]))
    else none)
   else none)
  else none)
 else some m0
def IN (k:Nat):Nat→qPh
 |0,_,_,_=>none
 |n+1,s0,s4,m0=>DL k (IN k n) s0 s4 m0
def IP (k:Nat)(a0:EQ):Option EQ:=
 (IN k k a0 0 []).bind fun z=>
 some z
def oe (k:Nat)(au:List zI)(az:EQ)(ay:AC)(ax:EQ):Option xR:=
 bif zN (0 + au.length) 24 then ((IP k az).bind fun x0=>
  bif zN (0 + ay.length) 8 then ((IP k ax).bind fun x1=>
   some (au,x0,ay,x1))
  else none)
 else none
abbrev qQu:Type:=List zC→Int→Int→Int→Int→Option wJ
def DX (k:Nat)(rec:qQu)(s0:List zC)(s1 s6 s7 s8:Int):Option wJ:=
 bif decide (s8 < (s0.length : Int)) then (bif zB s8 s0.length then (bif !(decide ((s0.getD s8.toNat (0,0,0,0,0,0,0)).2.1=s1)) then(rec s0 s1 s6 s7 (zA (s8+1)))
   else bif zB s8 s0.length then (bif decide ((s0.getD s8.toNat (0, 0, 0, 0, 0, 0, 0)).2.2.2.2.1 = 3) then (bif zB s8 s0.length then(rec s0 s1 (zA (s6+(s0.getD s8.toNat (0,0,0,0,0,0,0)).2.2.2.1)) s7 (zA (s8+1)))
     else none)
    else bif zB s8 s0.length then(rec s0 s1 s6 (zA (s7+(s0.getD s8.toNat (0,0,0,0,0,0,0)).2.2.2.1)) (zA (s8+1)))
    else none)
   else none)
  else none)
 else some (s6,s7)
def I5 (k:Nat):Nat→qQu
 |0,_,_,_,_,_=>none
 |n+1,s0,s1,s6,s7,s8=>DX k (I5 k n) s0 s1 s6 s7 s8
def I4 (k:Nat)(a0:List zC)(a1:Int):Option wJ:=
 (I5 k k a0 a1 0 0 0).bind fun z=>
 some (z.1,z.2)
def ND (k:Nat)(a0:List zC)(a1:Int):Option Int:=
 (I4 k a0 a1).bind fun x0=>
 some x0.2
def I6 (k:Nat)(bq bD aT a1:Int):Option Int:=
 bif decide (a1≥aT) then some 0
 else some (zA (aT-a1))
abbrev qNx:Type:=List zC→Int→Int→Int→Int→Option Int
def DW (k:Nat)(rec:qNx)(s0:List zC)(s1 s2 s7 s8:Int):Option Int:=
 bif decide (s8 < (s0.length : Int)) then (bif zB s8 s0.length then (bif decide ((s0.getD s8.toNat (0, 0, 0, 0, 0, 0, 0)).2.1 = s1) then (bif zB s8 s0.length then (bif decide ((s0.getD s8.toNat (0, 0, 0, 0, 0, 0, 0)).2.2.1 = s2) then (bif zB s8 s0.length then(rec s0 s1 s2 (zA (s7+(s0.getD s8.toNat (0,0,0,0,0,0,0)).2.2.2.1)) (zA (s8+1)))
      else none)
     else rec s0 s1 s2 s7 (zA (s8+1)))
    else none)
   else rec s0 s1 s2 s7 (zA (s8+1)))
  else none)
 else some s7
def I3 (k:Nat):Nat→qNx
 |0,_,_,_,_,_=>none
 |n+1,s0,s1,s2,s7,s8=>DW k (I3 k n) s0 s1 s2 s7 s8
def wa (k:Nat)(a0:List zC)(a1 a2:Int):Option Int:=
 (I3 k k a0 a1 a2 0 0).bind fun z=>
 some z
def NB (k:Nat)(a0:List zC)(a1 a2:Int):Option Int:=
 (wa k a0 a1 a2).bind fun x0=>
 (wa k a0 a2 a1).bind fun x1=>
 some (zA (x0-x1))
abbrev qUf:Type:=EQ→Int→Int→Option (Unit⊕Bool)
def Dy (k:Nat)(rec:qUf)(s0:EQ)(s1 s5:Int):Option (Unit⊕Bool):=
 bif decide (s5 < s1) then (bif zB s5 s0.length then (bif !(decide (((s0.getD s5.toNat []).length:Int)=s1)) then some (.inr false)
   else rec s0 s1 (zA (s5+1)))
  else none)
 else some (.inl ())
def IF (k:Nat):Nat→qUf
 |0,_,_,_=>none
 |n+1,s0,s1,s5=>Dy k (IF k n) s0 s1 s5
def IE (k:Nat)(a0:EQ)(a1:Int):Option Bool:=
 bif !(decide ((a0.length:Int)=a1)) then some false
 else(IF k k a0 a1 0).bind fun z=>
 match z with
 |.inl z1=>some true
 |.inr z2=>some z2
def IC (k:Nat)(bq bD aT:Int):Option Bool:=
 bif decide (bq > (-4611686018427387904)) then (bif decide (bq < 4611686018427387904) then (bif decide (bD ≥ 0) then (bif decide (bD ≤ 2305843009213693952) then (bif decide (aT≥0) then some (decide (aT≤2305843009213693952))
     else some false)
    else some false)
   else some false)
  else some false)
 else some false
def ID (k:Nat)(a0:Int):Option Bool:=
 bif decide (a0≥(-1)) then some (decide (a0≤2305843009213693952))
 else some false
abbrev yAp:Type:=(Int×Int×(List zI)×EQ×AC×EQ)⊕Bool
abbrev qNt:Type:=Int→Int→Int→List zI→EQ→AC→EQ→Option yAp
def DA (k:Nat)(rec:qNt)(s3 s4 s5:Int)(af:List zI)(ah:EQ)(ai:AC)(ag:EQ):Option yAp:=
 bif decide (s5 < s3) then (bif zB s4 ah.length then (bif zB s5 (ah.getD s4.toNat []).length then ((ID k ((ah.getD s4.toNat []).getD s5.toNat 0)).bind fun x4=>
    bif !x4 then some (.inr false)
    else bif zB s4 ag.length then (bif zB s5 (ag.getD s4.toNat []).length then (bif decide (((ag.getD s4.toNat []).getD s5.toNat 0)≤(-72057594037927936)) then some (.inr false)
      else bif zB s4 ag.length then (bif zB s5 (ag.getD s4.toNat []).length then (bif decide (((ag.getD s4.toNat []).getD s5.toNat 0)≥72057594037927936) then some (.inr false)
        else bif zB s4 ag.length then (bif zB s5 (ag.getD s4.toNat []).length then (bif zB s5 ag.length then (bif zB s4 (ag.getD s5.toNat []).length then (bif !(decide (((ag.getD s4.toNat []).getD s5.toNat 0)=(zA (0-((ag.getD s5.toNat []).getD s4.toNat 0))))) then some (.inr false)
            else rec s3 s4 (zA (s5+1)) af ah ai ag)
           else none)
          else none)
         else none)
        else none)
       else none)
      else none)
     else none)
    else none)
   else none)
  else none)
 else some (.inl (s3,s4,af,ah,ai,ag))
def Dz (k:Nat):Nat→qNt
 |0,_,_,_,_,_,_,_=>none
 |n+1,s3,s4,s5,af,ah,ai,ag=>DA k (Dz k n) s3 s4 s5 af ah ai ag
abbrev qP5:Type:=Int→Int→List zI→EQ→AC→EQ→Option (Unit⊕Bool)
def DC (k:Nat)(rec:qP5)(s3 s4:Int)(af:List zI)(ah:EQ)(ai:AC)(ag:EQ):Option (Unit⊕Bool):=
 bif decide (s4 < s3) then (bif zB s4 af.length then ((IC k (af.getD s4.toNat (0,0,0)).1 (af.getD s4.toNat (0,0,0)).2.1 (af.getD s4.toNat (0,0,0)).2.2).bind fun x2=>
   bif !x2 then some (.inr false)
   else bif zB s4 ai.length then ((ID k (ai.getD s4.toNat 0)).bind fun x3=>
    bif !x3 then some (.inr false)
    else(Dz k k s3 s4 0 af ah ai ag).bind fun z=>
    match z with
    |.inl z1=>rec z1.1 (zA (z1.2.1+1)) z1.2.2.1 z1.2.2.2.1 z1.2.2.2.2.1 z1.2.2.2.2.2
    |.inr z2=>some (.inr z2))
   else none)
  else none)
 else some (.inl ())
def DB (k:Nat):Nat→qP5
 |0,_,_,_,_,_,_=>none
 |n+1,s3,s4,af,ah,ai,ag=>DC k (DB k n) s3 s4 af ah ai ag
def Nk (k:Nat)(au:List zI)(az:EQ)(ay:AC)(ax:EQ):Option Bool:=
 bif decide ((au.length:Int)<1) then some false
 else bif decide ((au.length:Int)>6) then some false
 else(IE k az (au.length:Int)).bind fun x0=>
 bif !x0 then some false
 else(IE k ax (au.length:Int)).bind fun x1=>
 bif !x1 then some false
 else bif !(decide ((ay.length:Int)=(au.length:Int))) then some false
 else(DB k k (au.length:Int) 0 au az ay ax).bind fun z3=>
 match z3 with
 |.inl z4=>some true
 |.inr z5=>some z5
abbrev qMi:Type:=(List zC)×Int×(List zI)×EQ×AC×EQ×(List zI)×EQ×AC×EQ
abbrev qLj:Type:=List zC→Int→Int→List zI→EQ→AC→EQ→List zI→EQ→AC→EQ→Option qMi
def DZ (k:Nat)(rec:qLj)(s1:List zC)(s7 s8:Int)(af:List zI)(ah:EQ)(ai:AC)(ag:EQ)(r3:List zI)(m4:EQ)(r5:AC)(m6:EQ):Option qMi:=
 bif decide (s8 < (r3.length : Int)) then ((NB k s1 s7 s8).bind fun x4=>
  bif zB s7 r3.length then (bif zB s7 r3.length then (let y1:List zI:=(r3.set s7.toNat ((zA ((r3.getD s7.toNat (0,0,0)).1-x4)),(r3.getD s7.toNat (0,0,0)).2))
    bif zB s7 m6.length then (bif zB s7 m6.length then (bif zB s8 (m6.getD s7.toNat []).length then (bif zB s8 (m6.getD s7.toNat []).length then (let y2:EQ:=(m6.set s7.toNat ((m6.getD s7.toNat []).set s8.toNat (zA (((m6.getD s7.toNat []).getD s8.toNat 0)+x4))))
        rec s1 s7 (zA (s8+1)) af ah ai ag y1 m4 r5 y2)
       else none)
      else none)
     else none)
    else none)
   else none)
  else none)
 else some (s1,s7,af,ah,ai,ag,r3,m4,r5,m6)
def DY (k:Nat):Nat→qLj
 |0,_,_,_,_,_,_,_,_,_,_,_=>none
 |n+1,s1,s7,s8,af,ah,ai,ag,r3,m4,r5,m6=>DZ k (DY k n) s1 s7 s8 af ah ai ag r3 m4 r5 m6
abbrev qRl:Type:=List zC→Int→List zI→EQ→AC→EQ→List zI→EQ→AC→EQ→Option qWm
def D4 (k:Nat)(rec:qRl)(s1:List zC)(s7:Int)(af:List zI)(ah:EQ)(ai:AC)(ag:EQ)(r3:List zI)(m4:EQ)(r5:AC)(m6:EQ):Option qWm:=
 bif decide (s7 < (r3.length : Int)) then (bif zB s7 r3.length then ((ND k s1 s7).bind fun x2=>
   (I6 k (r3.getD s7.toNat (0,0,0)).1 (r3.getD s7.toNat (0,0,0)).2.1 (r3.getD s7.toNat (0,0,0)).2.2 x2).bind fun x3=>
   bif zB s7 r3.length then (let y0:List zI:=(r3.set s7.toNat ((r3.getD s7.toNat (0,0,0)).1,(r3.getD s7.toNat (0,0,0)).2.1,x3))
    (DY k k s1 s7 0 af ah ai ag y0 m4 r5 m6).bind fun z=>
    rec z.1 (zA (z.2.1+1)) z.2.2.1 z.2.2.2.1 z.2.2.2.2.1 z.2.2.2.2.2.1 z.2.2.2.2.2.2.1 z.2.2.2.2.2.2.2.1 z.2.2.2.2.2.2.2.2.1 z.2.2.2.2.2.2.2.2.2)
   else none)
  else none)
 else some (af,ah,ai,ag,r3,m4,r5,m6)
def D3 (k:Nat):Nat→qRl
 |0,_,_,_,_,_,_,_,_,_,_=>none
 |n+1,s1,s7,af,ah,ai,ag,r3,m4,r5,m6=>D4 k (D3 k n) s1 s7 af ah ai ag r3 m4 r5 m6
def Az (k:Nat)(au:List zI)(az:EQ)(ay:AC)(ax:EQ)(a1:List zC):Option ((List zI)×EQ×AC×EQ×Int):=
 (I1 k au az ay ax a1).bind fun x0=>
 bif !x0 then some (au,az,ay,ax,1)
 else(oe k au az ay ax).bind fun x1=>
 (D3 k k a1 0 au az ay ax x1.1 x1.2.1 x1.2.2.1 x1.2.2.2).bind fun z1=>
 (Nk k z1.2.2.2.2.1 z1.2.2.2.2.2.1 z1.2.2.2.2.2.2.1 z1.2.2.2.2.2.2.2).bind fun x5=>
 bif !x5 then some (vT z1 8)
 else some (yP5 z1 0)
abbrev qJs:Type:=Int→Int→Int→List zI→EQ→AC→EQ→Option Int
def D6 (k:Nat)(rec:qJs)(s1 s5 s6:Int)(af:List zI)(ah:EQ)(ai:AC)(ag:EQ):Option Int:=
 bif zB s1 ag.length then (bif decide (s6 < ((ag.getD s1.toNat []).length : Int)) then (bif zB s1 ag.length then (bif zB s6 (ag.getD s1.toNat []).length then(rec s1 (zA (s5+((ag.getD s1.toNat []).getD s6.toNat 0))) (zA (s6+1)) af ah ai ag)
    else none)
   else none)
  else some s5)
 else none
def D5 (k:Nat):Nat→qJs
 |0,_,_,_,_,_,_,_=>none
 |n+1,s1,s5,s6,af,ah,ai,ag=>D6 k (D5 k n) s1 s5 s6 af ah ai ag
def NH (k:Nat)(au:List zI)(az:EQ)(ay:AC)(ax:EQ)(a1:Int):Option Int:=
 (D5 k k a1 0 0 au az ay ax).bind fun z=>
 some z
abbrev qIg:Type:=(Int×Int×Int×Int×Int×(List zI)×EQ×AC×EQ)⊕Bool
abbrev qS4:Type:=List zC→Int→Int→Int→Int→Int→Int→List zI→EQ→AC→EQ→Option qIg
def D8 (k:Nat)(rec:qS4)(s1:List zC)(s2 s7 s8 s9 aw aN:Int)(af:List zI)(ah:EQ)(ai:AC)(ag:EQ):Option qIg:=
 bif decide (aN < (af.length : Int)) then ((wa k s1 s2 aN).bind fun x2=>
  (wa k s1 aN s2).bind fun x3=>
  (wa k s1 s2 aN).bind fun x4=>
  bif decide (x4 > 0) then (bif zB s2 ah.length then (bif zB aN (ah.getD s2.toNat []).length then (bif !(decide (((ah.getD s2.toNat []).getD aN.toNat 0) = (-1))) then (bif zB s2 ag.length then (bif zB aN (ag.getD s2.toNat []).length then (bif zB s2 ah.length then (bif zB aN (ah.getD s2.toNat []).length then (bif decide ((zA (((ag.getD s2.toNat []).getD aN.toNat 0)+(zA (x2-x3))))>((ah.getD s2.toNat []).getD aN.toNat 0)) then some (.inr true)
          else rec s1 s2 s7 s8 (zA (s9-(zA (x2-x3)))) (zA (aw+(zA (x2-x3)))) (zA (aN+1)) af ah ai ag)
         else none)
        else none)
       else none)
      else none)
     else rec s1 s2 s7 s8 (zA (s9-(zA (x2-x3)))) (zA (aw+(zA (x2-x3)))) (zA (aN+1)) af ah ai ag)
    else none)
   else none)
  else rec s1 s2 s7 s8 (zA (s9-(zA (x2-x3)))) (zA (aw+(zA (x2-x3)))) (zA (aN+1)) af ah ai ag)
 else some (.inl (s2,s7,s8,s9,aw,af,ah,ai,ag))
def rI (k:Nat):Nat→qS4
 |0,_,_,_,_,_,_,_,_,_,_,_=>none
 |n+1,s1,s2,s7,s8,s9,aw,aN,af,ah,ai,ag=>D8 k (rI k n) s1 s2 s7 s8 s9 aw aN af ah ai ag
def NL (k:Nat)(au:List zI)(az:EQ)(ay:AC)(ax:EQ)(a1:List zC)(a2:Int):Option Bool:=
 (I4 k a1 a2).bind fun x0=>
 bif decide ((zA (x0.1+x0.2))=0) then some false
 else bif zB a2 au.length then (bif zB a2 au.length then ((NH k au az ay ax a2).bind fun x1=>
   (rI k k a1 a2 x0.1 x0.2 (zA ((au.getD a2.toNat (0,0,0)).1+(au.getD a2.toNat (0,0,0)).2.1)) x1 0 au az ay ax).bind fun z=>
   match z with
   |.inl z1=>bif decide (z1.2.2.2.1<0) then some true
    else bif decide (z1.2.1 > 0) then (bif zB z1.1 z1.2.2.2.2.2.1.length then ((I6 k (z1.2.2.2.2.2.1.getD z1.1.toNat (0,0,0)).1 (z1.2.2.2.2.2.1.getD z1.1.toNat (0,0,0)).2.1 (z1.2.2.2.2.2.1.getD z1.1.toNat (0,0,0)).2.2 z1.2.2.1).bind fun x5=>
      bif decide (z1.2.2.2.1<x5) then some true
      else bif zB z1.1 z1.2.2.2.2.2.2.2.1.length then (bif !(decide ((z1.2.2.2.2.2.2.2.1.getD z1.1.toNat 0) = (-1))) then (bif zB z1.1 z1.2.2.2.2.2.2.2.1.length then some (decide (z1.2.2.2.2.1>(z1.2.2.2.2.2.2.2.1.getD z1.1.toNat 0)))
        else none)
       else some false)
      else none)
     else none)
    else bif zB z1.1 z1.2.2.2.2.2.2.2.1.length then (bif !(decide ((z1.2.2.2.2.2.2.2.1.getD z1.1.toNat 0) = (-1))) then (bif zB z1.1 z1.2.2.2.2.2.2.2.1.length then some (decide (z1.2.2.2.2.1>(z1.2.2.2.2.2.2.2.1.getD z1.1.toNat 0)))
      else none)
     else some false)
    else none
   |.inr z2=>some z2)
  else none)
 else none
abbrev qPv:Type:=List zC→Int→List zI→EQ→AC→EQ→AC→Option AC
def rJ (k:Nat)(rec:qPv)(s1:List zC)(s6:Int)(af:List zI)(ah:EQ)(ai:AC)(ag:EQ)(r1:AC):Option AC:=
 bif decide (s6 < (af.length : Int)) then ((NL k af ah ai ag s1 s6).bind fun x0=>
  bif x0 then (bif zN (r1.length+1) 8 then(rec s1 (zA (s6+1)) af ah ai ag (r1++[s6]))
   else none)
  else rec s1 (zA (s6+1)) af ah ai ag r1)
 else some r1
def tD (k:Nat):Nat→qPv
 |0,_,_,_,_,_,_,_=>none
 |n+1,s1,s6,af,ah,ai,ag,r1=>rJ k (tD k n) s1 s6 af ah ai ag r1
def tC (k:Nat)(au:List zI)(az:EQ)(ay:AC)(ax:EQ)(a1:List zC):Option AC:=
 (tD k k a1 0 au az ay ax []).bind fun z=>
 some z
def I8 (k:Nat)(au:List zI)(az:EQ)(ay:AC)(ax:EQ)(a1:List zC):Option Bool:=
 (I1 k au az ay ax a1).bind fun x0=>
 bif x0 then ((tC k au az ay ax a1).bind fun x1=>
  some (decide ((x1.length:Int)=0)))
 else some false
def uc (k:Nat)(au:List zI)(az:EQ)(ay:AC)(ax:EQ)(a1:List zC):Option ((List zI)×EQ×AC×EQ×Bool):=
 (Az k au az ay ax a1).bind fun x0=>
 bif decide (x0.2.2.2.2 = 0) then ((I8 k au az ay ax a1).bind fun x1=>
  some (vT x0 x1))
 else some (vT x0 false)
end Go.Ab.Gi
