/- part 6 -/
import Derived.Test.YthpehdcmpldloaaGreatGiAbD
set_option linter.unusedVariables false
set_option maxRecDepth 100000
abbrev Go.Ab.Ty.i:Go.Ab.Ty:=.int .i64
abbrev Go.Ab.CS.i:Go.Ab.CS:=.int .i64
abbrev Go.Ab.PC.i:Go.Ab.PC:=.int .i64
abbrev Go.Ab.RC.i:Go.Ab.RC:=.int .i64
namespace Go.Ab.Gi
abbrev AC:=List Int
abbrev EQ:=List AC
abbrev jF:Type:=AC×Bool
abbrev jC:Go.Ab.Ty:=.pair .i .i
abbrev vX:Type:=Int×AC×Int×AC×Int×Int×Int×Bool×Bool×Int
abbrev fD:Type:=Int×Bool
abbrev oL:Type:=Int×Int×AC×Int×Int
abbrev pP:Type:=Int×Int×Bool×Bool
abbrev yK:Type:=Int×Int×Bool
abbrev fV:Type:=Int×Int×Int×Bool
abbrev tw:Type:=Int×Int×Int×Int×Int×Bool×Bool×Int
abbrev qE:Type:=Int×Int×Int×Int×Int×Int×Int×Int
abbrev zC:Type:=Int×Int×Int×Int×Int×Int×Int
abbrev MZ:Type:=Int×Int×Int×Int×Int×Int
abbrev zJ:Type:=Int×Int×Int
abbrev wD:Type:=Int×Int
abbrev qZb:Type:=(List zC)×Int×Int×Int×Int×Int×Int×Int×Int
abbrev tv:Type:=(List zJ)×EQ×AC×EQ×(List zC)×(List zC)
abbrev zk:Type:=(List zJ)×EQ×AC×EQ
abbrev qS:Go.Ab.Ty:=.pair .i jC
abbrev adO:Go.Ab.Ty:=.pair (.sl (.int .u8)) jC
abbrev yUm:Type:=Bool×Int×Int×Int×Int×Int×Int×Int×Int×Int×Int×Int×Int×Int×Int×(List zJ)×EQ×AC×EQ
abbrev Sx:Type:=Int×(List zJ)×EQ×AC×EQ×AC×EQ×(List zC)×AC×Int×Bool×(List qE)
abbrev yG:Type:=Int×(List zJ)×EQ×AC×EQ×AC×EQ×(List zC)×AC×Int×Bool
abbrev vr:Type:=Int×(List wD)×Int×Int×Int×Int×(List zJ)×EQ×AC×EQ×AC×EQ×(List zC)×AC×Int×Bool×Int×(List qE)×Int
abbrev jU:Type:=Int×(List wD)×Int×Int×Int×Int×(List zJ)×EQ×AC×EQ×AC×EQ×(List zC)×AC×Int×Bool×Int×(List qE)
abbrev nK:Type:=Int×(List wD)×Int×Int×Int×Int×(List zJ)×EQ×AC×EQ×AC×EQ×(List zC)×AC×Int×Bool×Int×Bool
abbrev rM:Type:=Int×(List wD)×Int×Int×Int×Int×(List zJ)×EQ×AC×EQ×AC×EQ×(List zC)×AC×Int×Bool×Int×Int
abbrev lR:Type:=Int×(List wD)×Int×Int×Int×Int×(List zJ)×EQ×AC×EQ×AC×EQ×(List zC)×AC×Int×Bool×Int
abbrev vF:Type:=Int×(List wD)×Int×Int×Int
abbrev vTn:Go.Ab.Ty:=.pair .i qS
abbrev vUy:Go.Ab.Ty:=.pair .i adO
abbrev adP:Go.Ab.Ty:=.pair .i vTn
abbrev yw:Go.Ab.Ty:=.pair .i vUy
abbrev vPc:Go.Ab.Ty:=.pair .i adP
abbrev zG:Go.Ab.Ty:=.pair .i vPc
abbrev qZ:Go.Ab.Ty:=.pair .i zG
abbrev yB3:List Go.Ab.CS:=[.dat false .i,.dat false .i,.dat false (.sl .i)]
abbrev jW:List Go.Ab.CS:=[.dat false qS,.dat false (.sl .i),.dat false .i,.dat false (.sl .i)]
abbrev pK:List Go.Ab.CS:=[.dat true (.int .u8),.bool]
abbrev wL:List Go.Ab.CS:=[.dat true qS,.dat true (.sl .i),.dat true .i,.dat true (.sl .i)]
abbrev zh:List Go.Ab.CS:=[.i,.dat false qS,.dat false (.sl .i),.dat false .i,.dat false (.sl .i),.dat false .i,.dat false (.sl .i),.dat false zG,.dat false .i,.i,.bool]
abbrev rA:List Go.Ab.CS:=[.i,.dat false jC,.i,.i,.i]
abbrev jg:List Go.Ab.CS:=[.i,.dat true qS,.dat true (.sl .i),.dat true .i,.dat true (.sl .i),.dat true .i,.dat true (.sl .i),.dat true zG,.dat true .i,.i,.bool]
abbrev Ij:List Go.Ab.CS:=[.i,.dat true jC,.i,.i,.i]
abbrev qYj:List Go.Ab.CS:=[.i,.dat true jC,.i,.i,.i,.i,.dat true qS,.dat true (.sl .i),.dat true .i,.dat true (.sl .i),.dat true .i,.dat true (.sl .i),.dat true zG,.dat true .i,.i,.bool,.i,.lit (.osl 1001001 none)]
abbrev qK6:List Go.Ab.CS:=[.i,.dat true jC,.i,.i,.i,.i,.dat true qS,.dat true (.sl .i),.dat true .i,.dat true (.sl .i),.dat true .i,.dat true (.sl .i),.dat true zG,.dat true .i,.i,.bool,.i,.lit .nsl]
abbrev qZl:List Go.Ab.CS:=[.i,.dat true jC,.i,.i,.i,.i,.dat true qS,.dat true (.sl .i),.dat true .i,.dat true (.sl .i),.dat true .i,.dat true (.sl .i),.dat true zG,.dat true .i,.i,.bool,.i,.lit .nsl,.i]
abbrev wC:List Go.Ab.CS:=[.i,.i,.i,.i,.i,.i,.i]
abbrev vBb:List Go.Ab.CS:=[.i,.i,.i,.i,.i,.i,.i,.i,.i,.i,.i,.i,.i,.i,.dat true qS,.dat true (.sl .i),.dat true .i,.dat true (.sl .i)]
abbrev RJ:List Go.Ab.CS:=[.i,.i,.i,.i,.i,.i,.i,.i,.i,.i,.i,.i,.i,.i,.lit .nsl,.lit .nsl,.lit .nsl,.lit .nsl]
abbrev vFe:List Go.Ab.CS:=[.i,.lit (.osl 1001001 none),.i,.lit (.osl 1001002 none),.i,.i,.i,.bool,.bool,.i]
abbrev vAm:List Go.Ab.CS:=[.i,.lit (.osl 1001002 none),.lit (.osl 1001003 none),.lit (.osl 1001004 none),.lit (.osl 1001005 none),.lit (.osl 1001006 none),.lit (.osl 1001007 none),.lit .nsl,.lit .nsl,.i,.bool]
abbrev qQ7:List Go.Ab.CS:=[.i,.lit (.osl 1001003 none),.i,.lit (.osl 1001004 none),.i,.i,.i,.bool,.bool,.i]
abbrev qSq:List Go.Ab.CS:=[.i,.lit (.osl 1001003 none),.lit (.osl 1001004 none),.lit (.osl 1001005 none),.lit (.osl 1001006 none),.lit (.osl 1001007 none),.lit (.osl 1001008 none),.lit (.osl 1001009 none),.lit .nsl,.i,.bool]
abbrev yOy:List Go.Ab.CS:=[.i,.lit (.osl 1001003 none),.lit (.osl 1001004 none),.lit (.osl 1001005 none),.lit (.osl 1001006 none),.lit (.osl 1001007 none),.lit (.osl 1001008 none),.lit .nsl,.lit .nsl,.i,.bool]
abbrev Rg:List Go.Ab.CS:=[.i,.lit (.osl 1001003 none),.lit (.osl 1001004 none),.lit (.osl 1001005 none),.lit (.osl 1001006 none),.lit (.osl 1001007 none),.lit .nsl,.lit .nsl,.lit .nsl,.i,.bool]
abbrev Rn:List Go.Ab.CS:=[.i,.lit (.osl 1001004 none),.lit .nsl,.lit .nsl,.lit .nsl,.lit .nsl,.lit .nsl,.lit .nsl,.lit .nsl,.i,.bool]
abbrev jX:List Go.Ab.CS:=[.i,.lit .nsl,.lit .nsl,.lit .nsl,.lit .nsl,.lit .nsl,.lit .nsl,.lit .nsl,.lit .nsl,.i,.bool]
abbrev qVt:List Go.Ab.CS:=[.lit (.osl 1001002 none),.lit (.osl 1001003 none),.lit (.osl 1001004 none)]
abbrev tu:List Go.Ab.CS:=[.lit (.osl 1001003 none),.lit (.osl 1001004 none),.lit (.osl 1001005 none),.lit (.osl 1001006 none)]
abbrev yUa:List Go.Ab.CS:=[.lit (.osl 1001004 none),.lit (.osl 1001005 none),.lit (.osl 1001006 none),.lit (.osl 1001007 none)]
abbrev yIq:List Go.Ab.CS:=[.lit (.ptr 1001006 0),.i,.dat true jC,.i,.i,.i,.i,.dat true qS,.dat true (.sl .i),.dat true .i,.dat true (.sl .i),.dat true .i,.dat true (.sl .i),.dat true zG,.dat true .i,.i,.bool,.i,.bool]
abbrev Su:List Go.Ab.CS:=[.lit .nsl,.lit .nsl,.i,.lit .nsl,.lit .nsl,.lit .nsl,.lit .nsl,.lit .nsl,.lit .nsl,.lit .nsl,.lit .nsl,.i,.bool,.bool]
abbrev oJ:List Go.Ab.CS:=[.lit .nsl,.lit .nsl,.lit .nsl,.lit .nsl]
abbrev RH:List Go.Ab.PC:=[.dat false .i,.dat false .i,.dat false (.sl .i)]
abbrev eK:List Go.Ab.PC:=[.dat false qS,.dat false (.sl .i),.dat false .i,.dat false (.sl .i)]
abbrev ll:List Go.Ab.PC:=[.dat true qS,.dat true (.sl .i),.dat true .i,.dat true (.sl .i)]
abbrev My:List Go.Ab.PC:=[.i,.dat false (.int .u8),.i,.dat false (.int .u8),.i,.i,.i,.bool,.bool,.i]
abbrev pM:List Go.Ab.PC:=[.i,.dat false qS,.dat false (.sl .i),.dat false .i,.dat false (.sl .i),.dat false .i,.dat false (.sl .i),.dat false zG,.dat false .i,.i,.bool]
abbrev kp:List Go.Ab.PC:=[.i,.dat false jC,.i,.i,.i]
abbrev qTi:List Go.Ab.PC:=[.i,.dat false jC,.i,.i,.i,.i,.dat false qS,.dat false (.sl .i),.dat false .i,.dat false (.sl .i),.dat false .i,.dat false (.sl .i),.dat false zG,.dat false .i,.i,.bool,.i,.dat false qZ]
abbrev yWv:List Go.Ab.PC:=[.i,.dat false jC,.i,.i,.i,.i,.dat false qS,.dat false (.sl .i),.dat false .i,.dat false (.sl .i),.dat false .i,.dat false (.sl .i),.dat false zG,.dat false .i,.i,.bool,.i,.dat false qZ,.i]
abbrev yx:List Go.Ab.PC:=[.i,.dat true qS,.dat true (.sl .i),.dat true .i,.dat true (.sl .i),.dat true .i,.dat true (.sl .i),.dat true zG,.dat true .i,.i,.bool]
abbrev MK:List Go.Ab.PC:=[.i,.dat true jC,.i,.i,.i]
abbrev oI:List Go.Ab.PC:=[.i,.i,.i]
abbrev MD:List Go.Ab.PC:=[.i,.i,.i,.i,.i,.i]
abbrev vR:List Go.Ab.PC:=[.i,.i,.i,.i,.i,.i,.i]
abbrev CO:List Go.Ab.PC:=[.i,.i,.i,.i,.i,.i,.i,.i]
abbrev nI:List Go.Ab.RC:=[.fro qS,.fro (.sl .i),.fro .i,.fro (.sl .i)]
abbrev yW:List Go.Ab.RC:=[.i]
abbrev yy:List Go.Ab.RC:=[.i,.fro qS,.fro (.sl .i),.fro .i,.fro (.sl .i),.fro .i,.fro (.sl .i),.fro zG,.fro .i,.i,.bool]
abbrev lO:List Go.Ab.RC:=[.i,.fro jC,.i,.i,.i,.i,.fro qS,.fro (.sl .i),.fro .i,.fro (.sl .i),.fro .i,.fro (.sl .i),.fro zG,.fro .i,.i,.bool,.i,.own qZ]
abbrev CU:List Go.Ab.RC:=[.i,.fro jC,.i,.i,.i,.i,.fro qS,.fro (.sl .i),.fro .i,.fro (.sl .i),.fro .i,.fro (.sl .i),.fro zG,.fro .i,.i,.bool,.i,.own qZ,.i]
abbrev pL:List Go.Ab.RC:=[.i,.i,.i,.i,.i,.i,.i]
abbrev qRs:List Go.Ab.RC:=[.i,.i,.i,.i,.i,.i,.i,.i]
abbrev jh:List Go.Ab.RC:=[.i,.own (.int .u8),.i,.own (.int .u8),.i,.i,.i,.bool,.bool,.i]
abbrev qKw:List Go.Ab.RC:=[.i,.own qS,.mat,.own .i,.mat,.own .i,.mat,.own zG,.own .i,.i,.bool]
abbrev yVo:List Go.Ab.RC:=[.i,.own qS,.own (.sl .i),.own .i,.own (.sl .i),.own .i,.own (.sl .i),.own zG,.own .i,.i,.bool]
abbrev R2:List Go.Ab.RC:=[.link 1,.i,.fro jC,.i,.i,.i,.i,.fro qS,.fro (.sl .i),.fro .i,.fro (.sl .i),.fro .i,.fro (.sl .i),.fro zG,.fro .i,.i,.bool,.i,.bool]
abbrev R3:List Go.Ab.RC:=[.link 2,.i,.i,.i,.bool]
abbrev R0:List Go.Ab.XC:=[.link 1,.p .i,.p (.dat true jC),.p .i,.p .i,.p .i,.p .i,.p (.dat true qS),.p (.dat true (.sl .i)),.p (.dat true .i),.p (.dat true (.sl .i)),.p (.dat true .i),.p (.dat true (.sl .i)),.p (.dat true zG),.p (.dat true .i),.p .i,.p .bool,.p .i,.p .bool]
abbrev qX4:List Go.Ab.XC:=[.link 1,.p .i,.p .i,.p .i,.p .bool]
abbrev R1:List Go.Ab.XC:=[.link 2,.p .i,.p .i,.p .i,.p .bool]
abbrev H6:List Go.Ab.XC:=[.p (.dat true (.int .u8)),.p .bool]
abbrev lN:List Go.Ab.XC:=[.p .i,.own (.int .u8),.p .i,.own (.int .u8),.p .i,.p .i,.p .i,.p .bool,.p .bool,.p .i]
abbrev zb:List Go.Ab.XC:=[.p .i,.p (.dat true jC),.p .i,.p .i,.p .i,.p .i,.p (.dat true qS),.p (.dat true (.sl .i)),.p (.dat true .i),.p (.dat true (.sl .i)),.p (.dat true .i),.p (.dat true (.sl .i)),.p (.dat true zG),.p (.dat true .i),.p .i,.p .bool,.p .i,.own qZ]
abbrev yz:List Go.Ab.XC:=[.p .i,.p (.dat true jC),.p .i,.p .i,.p .i,.p .i,.p (.dat true qS),.p (.dat true (.sl .i)),.p (.dat true .i),.p (.dat true (.sl .i)),.p (.dat true .i),.p (.dat true (.sl .i)),.p (.dat true zG),.p (.dat true .i),.p .i,.p .bool,.p .i,.p (.nil)]
abbrev CT:List Go.Ab.XC:=[.p .i,.p (.dat true jC),.p .i,.p .i,.p .i,.p .i,.p (.dat true qS),.p (.dat true (.sl .i)),.p (.dat true .i),.p (.dat true (.sl .i)),.p (.dat true .i),.p (.dat true (.sl .i)),.p (.dat true zG),.p (.dat true .i),.p .i,.p .bool,.p .i,.p (.nil),.p .i]
section
variable {A B C D E F G H I J K L M N O P Q R S U V W X Z a b Aa Ab Ac Ad Ae Af Ag Ah Ai Aj Ak Al Am An Ao Ap Aq Ar As At T Y:Type}
abbrev fq (x:A×B×C×D)(t:T):=(x.1,x.2.1,x.2.2.1,x.2.2.2,t)
abbrev jG (x:A×B×C×D×E)(t:T):=(x.1,fq x.2 t)
abbrev oK (x:A×B×C×D×E×F)(t:T):=(x.1,jG x.2 t)
abbrev gl (x:A×B×C×D×E×F×G)(t:T):=(x.1,oK x.2 t)
abbrev CN (x:A×B×C×D×E×F×G×H)(t:T):=(x.1,gl x.2 t)
abbrev Rw (x:A×B×C×D×E×F×G×H×I)(t:T):=(x.1,CN x.2 t)
abbrev iH (x:A×B×C×D×E×F×G×H×I×J)(t:T):=(x.1,Rw x.2 t)
abbrev vT (x:A×B×C×D×E×F×G×H×I×J×K)(t:T):=(x.1,iH x.2 t)
abbrev Ie (x:A×B×C×D×E×F×G×H×I×J×K×L)(t:T):=(x.1,vT x.2 t)
abbrev vYw (x:A×B×C×D×E×F×G×H×I×J×K×L×M)(t:T):=(x.1,Ie x.2 t)
abbrev RK (x:A×B×C×D×E×F×G×H×I×J×K×L×M×N)(t:T):=(x.1,vYw x.2 t)
abbrev vBj (x:A×B×C×D×E×F×G×H×I×J×K×L×M×N×O)(t:T):=(x.1,RK x.2 t)
abbrev vRx (x:A×B×C×D×E×F×G×H×I×J×K×L×M×N×O×P)(t:T):=(x.1,vBj x.2 t)
abbrev vU (x:A×B×C×D×E×F×G×H×I×J×K×L×M×N×O×P×Q)(t:T):=(x.1,vRx x.2 t)
abbrev jP (x:A×B×C×D×E×F×G×H×I×J×K×L×M×N×O×P×Q×R)(t:T):=(x.1,vU x.2 t)
abbrev zg (x:A×B×C×D×E×F×G×H×I×J×K×L×M×N×O×P×Q×R×S)(t:T):=(x.1,jP x.2 t)
abbrev wS (x:A×B×C×D×E):=(x.1,x.2.1,x.2.2.1,x.2.2.2.1)
abbrev yR (x:A×B×C×D×E×F):=(x.1,wS x.2)
abbrev nJ (x:A×B×C×D×E×F×G):=(x.1,yR x.2)
abbrev vY (x:A×B×C×D×E×F×G×H):=(x.1,nJ x.2)
abbrev lM (x:A×B×C×D×E×F×G×H×I):=(x.1,vY x.2)
abbrev Rx (x:A×B×C×D×E×F×G×H×I×J):=(x.1,lM x.2)
abbrev fU (x:A×B×C×D×E×F×G×H×I×J×K):=(x.1,Rx x.2)
abbrev qQ (x:A×B×C×D×E×F×G×H×I×J×K×L):=(x.1,fU x.2)
abbrev Ig (x:A×B×C×D×E×F×G×H×I×J×K×L×M):=(x.1,qQ x.2)
abbrev adQ (x:A×B×C×D×E×F×G×H×I×J×K×L×M×N):=(x.1,Ig x.2)
abbrev qRv (x:A×B×C×D×E×F×G×H×I×J×K×L×M×N×O):=(x.1,adQ x.2)
abbrev vAj (x:A×B×C×D×E×F×G×H×I×J×K×L×M×N×O×P):=(x.1,qRv x.2)
abbrev vRb (x:A×B×C×D×E×F×G×H×I×J×K×L×M×N×O×P×Q):=(x.1,vAj x.2)
abbrev lP (x:A×B×C×D×E×F×G×H×I×J×K×L×M×N×O×P×Q×R):=(x.1,vRb x.2)
abbrev eJ (x:A×B×C×D×E×F×G×H×I×J×K×L×M×N×O×P×Q×R×S):=(x.1,lP x.2)
abbrev RM (x:A×B×C×D×E×F×G×H×I×J×K×L×M×N×O×P×Q×R×S×U):=(x.1,eJ x.2)
abbrev wB (x:A×B×C×D×E)(t:T):=(x.1,x.2.1,x.2.2.1,x.2.2.2.1,t)
abbrev pO (x:A×B×C×D×E×F)(t:T):=(x.1,wB x.2 t)
abbrev jJ (x:A×B×C×D×E×F×G)(t:T):=(x.1,pO x.2 t)
abbrev kl (x:A×B×C×D×E×F×G×H)(t:T):=(x.1,jJ x.2 t)
abbrev yRo (x:A×B×C×D×E×F×G×H×I)(t:T):=(x.1,kl x.2 t)
abbrev qQc (x:A×B×C×D×E×F×G×H×I×J)(t:T):=(x.1,yRo x.2 t)
abbrev vKw (x:A×B×C×D×E×F×G×H×I×J×K)(t:T):=(x.1,qQc x.2 t)
abbrev ze (x:A×B×C×D×E×F×G×H×I×J×K×L)(t:T):=(x.1,vKw x.2 t)
abbrev ku (x:A×B×C×D×E×F×G×H×I×J×K×L×M)(t:T):=(x.1,ze x.2 t)
abbrev adR (x:A×B×C×D×E×F×G×H×I×J×K×L×M×N)(t:T):=(x.1,ku x.2 t)
abbrev qMn (x:A×B×C×D×E×F×G×H×I×J×K×L×M×N×O)(t:T):=(x.1,adR x.2 t)
abbrev vYs (x:A×B×C×D×E×F×G×H×I×J×K×L×M×N×O×P)(t:T):=(x.1,qMn x.2 t)
abbrev vPk (x:A×B×C×D×E×F×G×H×I×J×K×L×M×N×O×P×Q)(t:T):=(x.1,vYs x.2 t)
abbrev yE (x:A×B×C×D×E×F×G×H×I×J×K×L×M×N×O×P×Q×R)(t:T):=(x.1,vPk x.2 t)
abbrev yFu (x:A×B×C×D×E×F×G×H×I×J×K×L×M×N×O×P×Q×R×S)(t:T):=(x.1,yE x.2 t)
abbrev vK (f:A→B→C→D→Y)(x:A×B×C×D×E):Y:=f x.1 x.2.1 x.2.2.1 x.2.2.2.1
abbrev lQ (f:A→B→C→D→E→Y)(x:A×B×C×D×E×F):Y:=vK (f x.1) x.2
abbrev kt (f:A→B→C→D→E→F→Y)(x:A×B×C×D×E×F×G):Y:=lQ (f x.1) x.2
abbrev mH (f:A→B→C→D→E→F→G→Y)(x:A×B×C×D×E×F×G×H):Y:=kt (f x.1) x.2
abbrev mG (f:A→B→C→D→E→F→G→H→Y)(x:A×B×C×D×E×F×G×H×I):Y:=mH (f x.1) x.2
abbrev RG (f:A→B→C→D→E→F→G→H→I→Y)(x:A×B×C×D×E×F×G×H×I×J):Y:=mG (f x.1) x.2
abbrev vMg (f:A→B→C→D→E→F→G→H→I→J→Y)(x:A×B×C×D×E×F×G×H×I×J×K):Y:=RG (f x.1) x.2
abbrev tt (f:A→B→C→D→E→F→G→H→I→J→K→Y)(x:A×B×C×D×E×F×G×H×I×J×K×L):Y:=vMg (f x.1) x.2
abbrev MJ (f:A→B→C→D→E→F→G→H→I→J→K→L→Y)(x:A×B×C×D×E×F×G×H×I×J×K×L×M):Y:=tt (f x.1) x.2
abbrev qMx (f:A→B→C→D→E→F→G→H→I→J→K→L→M→Y)(x:A×B×C×D×E×F×G×H×I×J×K×L×M×N):Y:=MJ (f x.1) x.2
abbrev H8 (f:A→B→C→D→E→F→G→H→I→J→K→L→M→N→Y)(x:A×B×C×D×E×F×G×H×I×J×K×L×M×N×O):Y:=qMx (f x.1) x.2
abbrev adS (f:A→B→C→D→E→F→G→H→I→J→K→L→M→N→O→Y)(x:A×B×C×D×E×F×G×H×I×J×K×L×M×N×O×P):Y:=H8 (f x.1) x.2
abbrev yUu (f:A→B→C→D→E→F→G→H→I→J→K→L→M→N→O→P→Y)(x:A×B×C×D×E×F×G×H×I×J×K×L×M×N×O×P×Q):Y:=adS (f x.1) x.2
abbrev vLd (f:A→B→C→D→E→F→G→H→I→J→K→L→M→N→O→P→Q→Y)(x:A×B×C×D×E×F×G×H×I×J×K×L×M×N×O×P×Q×R):Y:=yUu (f x.1) x.2
abbrev adT (f:A→B→C→D→E→F→G→H→I→J→K→L→M→N→O→P→Q→R→Y)(x:A×B×C×D×E×F×G×H×I×J×K×L×M×N×O×P×Q×R×S):Y:=vLd (f x.1) x.2
abbrev vGr (f:A→B→C→D→E→F→G→H→I→J→K→L→M→N→O→P→Q→R→S→Y)(x:A×B×C×D×E×F×G×H×I×J×K×L×M×N×O×P×Q×R×S×U):Y:=adT (f x.1) x.2
abbrev qQl (x:A×B×C×D×E×F×G×H×I×J×K×L×M×N×O×P×Q)(t:T):=fq x.2.2.2.2.2.2.2.2.2.2.2.2.2 t
abbrev Cb (x:A×B×C×D×E×F)(t:T):=fq x.2.2 t
abbrev vXo (x:A×B×C×D×E×F×G)(t:T):=fq x.2.2.2 t
abbrev vDa (x:A×B×C×D×E×F×G×H)(t:T):=fq x.2.2.2.2 t
abbrev acu (x:A×B×C×D×E×F×G×H×I)(t:T):=fq x.2.2.2.2.2 t
abbrev vZ1 (x:A×B×C×D×E×F×G×H×I×J×K×L)(t:T):=fq x.2.2.2.2.2.2.2.2 t
abbrev yI5 (x:A×B×C×D×E×F×G×H×I×J×K×L×M×N×O×P×Q)(t:T):=jG x.2.2.2.2.2.2.2.2.2.2.2.2 t
abbrev YY (x:A×B×C×D×E×F×G×H×I×J×K×L×M×N×O×P×Q)(t:T):=oK x.2.2.2.2.2.2.2.2.2.2.2 t
abbrev yIu (x:A×B×C×D×E×F×G×H)(t:T):=oK x.2.2 t
abbrev qNv (x:A×B×C×D×E×F×G×H×I×J×K×L×M×N×O×P×Q)(t:T):=gl x.2.2.2.2.2.2.2.2.2.2 t
abbrev yJs (x:A×B×C×D×E×F×G×H)(t:T):=gl x.2 t
abbrev MI (x:A×B×C×D×E×F×G×H×I×J×K)(t:T):=gl x.2.2.2.2 t
abbrev vDk (x:A×B×C×D×E×F×G×H×I×J×K×L×M×N)(t:T):=gl x.2.2.2.2.2.2.2 t
abbrev yNw (x:A×B×C×D×E×F×G×H×I×J×K×L×M×N×O)(t:T):=gl x.2.2.2.2.2.2.2.2 t
abbrev adU (x:A×B×C×D×E×F×G×H×I×J×K×L)(t:T):=vT x.2 t
abbrev Iq (x:A×B×C×D×E×F×G×H×I×J×K×L×M×N×O×P×Q×R)(t:T):=vT x.2.2.2.2.2.2.2 t
abbrev adt (x:A×B×C×D×E×F×G×H×I×J×K×L×M×N×O)(t:T):=RK x.2 t
abbrev qSt (x:A×B×C×D×E×F×G×H×I×J×K×L×M×N×O×P×Q×R×S)(t:T):=jP x.2 t
abbrev aaA (x:A×B×C×D×E×F×G×H×I×J×K×L×M×N×O×P×Q×R×S×U):=wS x.2.2.2.2.2.2.2.2.2.2.2.2.2.2.2
abbrev Ii (x:A×B×C×D×E×F):=wS x.2
abbrev R4 (x:A×B×C×D×E×F×G×H×I×J×K×L×M×N×O×P×Q×R×S×U×V×W×X×Z×a):=wS x.2.2.2.2.2.2.2.2.2.2.2.2.2.2.2.2.2.2.2.2
abbrev qSs (x:A×B×C×D×E×F×G×H×I×J×K×L×M×N×O×P×Q×R×S×U×V×W×X×Z×a×b):=wS x.2.2.2.2.2.2.2.2.2.2.2.2.2.2.2.2.2.2.2.2.2
abbrev qZo (x:A×B×C×D×E×F×G):=wS x.2.2
abbrev ac7 (x:A×B×C×D×E×F×G×H×I×J×K×L×M×N×O×P×Q×R×S×U×V×W×X×Z×a×b×Aa×Ab×Ac×Ad×Ae×Af×Ag×Ah×Ai×Aj):=wS x.2.2.2.2.2.2.2.2.2.2.2.2.2.2.2.2.2.2.2.2.2.2.2.2.2.2.2.2.2.2.2
abbrev vZk (x:A×B×C×D×E×F×G×H×I×J×K×L×M×N×O×P×Q×R×S×U×V×W×X×Z×a×b×Aa×Ab×Ac×Ad×Ae×Af×Ag×Ah×Ai×Aj×Ak):=wS x.2.2.2.2.2.2.2.2.2.2.2.2.2.2.2.2.2.2.2.2.2.2.2.2.2.2.2.2.2.2.2.2
abbrev yDs (x:A×B×C×D×E×F×G×H×I×J×K×L×M×N×O×P×Q×R×S×U×V×W×X×Z×a):=nJ x.2.2.2.2.2.2.2.2.2.2.2.2.2.2.2.2.2.2
abbrev vX9 (x:A×B×C×D×E×F×G×H×I×J×K×L×M×N×O×P×Q×R×S×U×V×W×X×Z×a×b):=nJ x.2.2.2.2.2.2.2.2.2.2.2.2.2.2.2.2.2.2.2
abbrev yGh (x:A×B×C×D×E×F×G×H×I×J×K×L×M×N×O×P×Q×R×S×U×V×W×X×Z×a×b×Aa):=nJ x.2.2.2.2.2.2.2.2.2.2.2.2.2.2.2.2.2.2.2.2
abbrev Ia (x:A×B×C×D×E×F×G×H×I×J×K×L×M×N×O×P×Q×R×S×U×V×W×X×Z×a×b):=vY x.2.2.2.2.2.2.2.2.2.2.2.2.2.2.2.2.2.2
abbrev ac5 (x:A×B×C×D×E×F×G×H×I×J×K×L×M×N×O×P×Q×R×S×U×V×W×X×Z×a×b×Aa):=vY x.2.2.2.2.2.2.2.2.2.2.2.2.2.2.2.2.2.2.2
abbrev Ru (x:A×B×C×D×E×F×G×H×I):=vY x.2
abbrev qV7 (x:A×B×C×D×E×F×G×H×I×J×K×L×M×N):=vY x.2.2.2.2.2.2
abbrev qY9 (x:A×B×C×D×E×F×G×H×I×J×K×L×M×N×O):=vY x.2.2.2.2.2.2.2
abbrev qZu (x:A×B×C×D×E×F×G×H×I×J×K×L×M×N×O×P×Q×R×S×U×V×W×X×Z×a):=lM x.2.2.2.2.2.2.2.2.2.2.2.2.2.2.2.2
abbrev vO3 (x:A×B×C×D×E×F×G×H×I×J×K×L×M×N):=lM x.2.2.2.2.2
abbrev H5 (x:A×B×C×D×E×F×G×H×I×J×K×L):=fU x.2
abbrev R5 (x:A×B×C×D×E×F×G×H×I×J×K×L×M×N×O×P×Q×R×S×U×V×W×X×Z×a×b×Aa×Ab×Ac×Ad×Ae×Af×Ag×Ah×Ai):=fU x.2.2.2.2.2.2.2.2.2.2.2.2.2.2.2.2.2.2.2.2.2.2.2.2
abbrev qM3 (x:A×B×C×D×E×F×G×H×I×J×K×L×M×N×O×P×Q×R×S×U×V×W×X×Z×a×b×Aa×Ab×Ac×Ad×Ae×Af×Ag×Ah×Ai×Aj):=fU x.2.2.2.2.2.2.2.2.2.2.2.2.2.2.2.2.2.2.2.2.2.2.2.2.2
abbrev yH9 (x:A×B×C×D×E×F×G×H×I×J×K×L×M):=fU x.2.2
abbrev ac8 (x:A×B×C×D×E×F×G×H×I×J×K×L×M×N×O×P×Q×R×S×U×V×W×X×Z×a×b×Aa×Ab×Ac×Ad×Ae×Af×Ag×Ah×Ai×Aj×Ak×Al×Am×An×Ao×Ap×Aq×Ar×As×At):=fU x.2.2.2.2.2.2.2.2.2.2.2.2.2.2.2.2.2.2.2.2.2.2.2.2.2.2.2.2.2.2.2.2.2.2.2
abbrev yW3 (x:A×B×C×D×E×F×G×H×I×J×K×L×M×N×O):=fU x.2.2.2.2
abbrev RT (x:A×B×C×D×E×F×G×H×I×J×K×L×M×N×O×P):=fU x.2.2.2.2.2
abbrev yA4 (x:A×B×C×D×E×F×G×H×I×J×K×L×M×N×O×P×Q):=fU x.2.2.2.2.2.2
abbrev ac9 (x:A×B×C×D×E×F×G×H×I×J×K×L×M×N×O×P×Q×R×S×U×V×W×X):=qQ x.2.2.2.2.2.2.2.2.2.2.2
abbrev rz (x:A×B×C×D×E×F×G×H×I×J×K×L×M×N×O×P×Q):=qQ x.2.2.2.2.2
abbrev ab8 (x:A×B×C×D×E×F×G×H×I×J×K×L×M×N×O×P×Q×R×S):=qQ x.2.2.2.2.2.2.2
abbrev ac6 (x:A×B×C×D×E×F×G×H×I×J×K×L×M×N×O×P×Q×R×S×U×V×W×X×Z×a×b×Aa×Ab×Ac×Ad×Ae):=eJ x.2.2.2.2.2.2.2.2.2.2.2.2
abbrev vVv (x:A×B×C×D×E×F×G×H×I×J×K×L×M×N×O×P×Q×R×S×U×V×W×X×Z×a×b×Aa×Ab×Ac×Ad×Ae×Af):=eJ x.2.2.2.2.2.2.2.2.2.2.2.2.2
abbrev kq (x:A×B×C×D×E×F×G×H×I×J×K×L×M×N×O×P×Q×R×S×U):=eJ x.2
abbrev qP3 (x:A×B×C×D×E×F×G×H×I×J×K×L×M×N×O×P×Q×R×S×U×V):=eJ x.2.2
abbrev CV (x:A×B×C×D×E×F×G×H×I×J×K×L×M×N×O×P×Q×R×S×U×V):=RM x.2
abbrev Im (x:A×B×C×D×E×F×G×H×I×J×K×L×M×N×O)(t:T):=wB x.2.2.2.2.2.2.2.2.2.2 t
abbrev Sy (x:A×B×C×D×E×F×G×H×I×J×K×L×M×N×O×P×Q×R)(t:T):=wB x.2.2.2.2.2.2.2.2.2.2.2.2.2 t
abbrev iJ (x:A×B×C×D×E×F)(t:T):=wB x.2 t
abbrev Rr (x:A×B×C×D×E×F×G)(t:T):=wB x.2.2 t
abbrev vZv (x:A×B×C×D×E×F×G×H×I×J)(t:T):=wB x.2.2.2.2.2 t
abbrev yZc (x:A×B×C×D×E×F×G×H×I×J×K×L×M×N×O×P×Q×R)(t:T):=pO x.2.2.2.2.2.2.2.2.2.2.2.2 t
abbrev vCr (x:A×B×C×D×E×F×G×H×I×J×K×L×M×N×O×P×Q×R)(t:T):=jJ x.2.2.2.2.2.2.2.2.2.2.2 t
abbrev Io (x:A×B×C×D×E×F×G×H×I×J×K)(t:T):=jJ x.2.2.2.2 t
abbrev qK0 (x:A×B×C×D×E×F×G×H×I×J×K×L×M×N×O×P×Q×R)(t:T):=kl x.2.2.2.2.2.2.2.2.2.2 t
abbrev vIk (x:A×B×C×D×E×F×G×H×I×J×K×L×M×N×O×P×Q×R×S×U)(t:T):=kl x.2.2.2.2.2.2.2.2.2.2.2.2 t
abbrev qUy (x:A×B×C×D×E×F×G×H×I)(t:T):=kl x.2 t
abbrev acz (x:A×B×C×D×E×F×G×H×I×J×K×L×M)(t:T):=kl x.2.2.2.2.2 t
abbrev adB (x:A×B×C×D×E×F×G×H×I×J×K×L×M)(t:T):=yRo x.2.2.2.2 t
abbrev vHv (x:A×B×C×D×E×F×G×H×I×J×K×L×M×N×O×P×Q)(t:T):=ze x.2.2.2.2.2 t
abbrev abQ (x:A×B×C×D×E×F×G×H×I×J×K×L×M×N×O×P×Q×R×S×U×V)(t:T):=qMn x.2.2.2.2.2.2 t
abbrev Hv (x:A×B×C×D×E×F×G×H×I×J×K×L×M×N×O×P×Q×R×S)(t:T):=yE x.2 t
end
abbrev qS6:Type:=(List oL)×Int
abbrev qS2:Type:=List oL→Int→Int→Option qS6
def HZ (k:Nat)(rec:qS2)(s0:List oL)(s3 s4:Int):Option qS6:=
 bif decide (s4 < (s0.length : Int)) then (bif decide (s4 < 200) then (bif zB s4 s0.length then(rec s0 (zA (s3+((s0.getD s4.toNat (0,0,[],0,0)).2.2.1.length:Int))) (zA (s4+1))) else none) else some (s0,s3)) else some (s0,s3)
def HY (k:Nat):Nat→qS2:=yD (fun _ _ _=>none) (HZ k)
def Q8 (k:Nat)(a0:List oL):Option Bool:=
 (HY k k a0 0 0).bind fun z=>bif decide ((z.1.length:Int)>100) then some true else some (decide (z.2>8000))
def Mt (k:Nat)(a0:Int):Option vF:=
 bif decide ((yM .i64 a0 3)=1) then some (4,[(100,1000),(7,0)],12,20,100) else bif decide ((yM .i64 a0 3)=2) then some (3,[],20,20,4) else bif decide ((yM .i64 a0 3)=3) then some (3,[(100,1000),(7,0)],0,6,1) else some (3,[(100,1000),(7,0)],12,20,4)
def Q5 (k:Nat)(a0:Int):Option vX:=
 bif decide (a0<0) then none else bif decide (a0>200000) then none else some (a0,[],0,[],0,0,0,false,false,0)
def tq (k:Nat)(a0 a1 a2:Int):Option Bool:=
 bif decide (a0≥a1) then some (decide (a0≤a2)) else some false
def vCn (k:Nat)(a0:wD):Option Bool:=
 (tq k a0.1 0 1048576).bind fun x0=>bif !x0 then some true
 else(tq k a0.2 0 10000).bind fun x1=>some (!x1)
abbrev qV5:Type:=List wD→Int→Int→Option (Unit⊕Int)
def yS5 (k:Nat)(rec:qV5)(s0:List wD)(s7 s8:Int):Option (Unit⊕Int):=
 bif decide (s8 < s7) then (bif zB s8 s0.length then ((vCn k (s0.getD s8.toNat (0,0))).bind fun x0=>bif x0 then some (.inr s8) else rec s0 s7 (zA (s8+1))) else none) else some (.inl ())
def qMf (k:Nat):Nat→qV5:=yD (fun _ _ _=>none) (yS5 k)
def vDr (k:Nat)(a0:List wD):Option Int:=
 (qMf k k a0 (a0.length:Int) 0).bind fun z=>match z with
 |.inl z1=>some (-1)
 |.inr z2=>some z2
def yEm (k:Nat)(a0:List wD):Option Bool:=
 (vDr k a0).bind fun x0=>some (decide (x0≥0))
def nG (k:Nat)(a0:vF):Option Bool:=
 (tq k a0.1 1 6).bind fun x0=>bif x0 then ((tq k a0.2.2.2.1 1 1048576).bind fun x1=>bif x1 then ((tq k a0.2.2.1 0 a0.2.2.2.1).bind fun x2=>bif x2 then ((tq k a0.2.2.2.2 1 1048576).bind fun x3=>bif decide ((a0.2.1.length : Int) ≤ 3) then (bif x3 then ((yEm k a0.2.1).bind fun x4=>some (!x4)) else some false) else some false) else bif decide ((a0.2.1.length:Int)≤3) then some false else some false) else bif decide ((a0.2.1.length:Int)≤3) then some false else some false)
 else(tq k a0.2.2.2.1 1 1048576).bind fun x5=>bif x5 then ((tq k a0.2.2.1 0 a0.2.2.2.1).bind fun x6=>bif x6 then ((tq k a0.2.2.2.2 1 1048576).bind fun x7=>some false) else some false) else some false
def Rc (k:Nat)(a0:Int):Option Bool:=
 bif decide (a0≥0) then some (decide (a0<2)) else some false
def CA (k:Nat)(a0:AC):Option AC:=
 bif zL (0+a0.length) 1 then some a0 else none
def ZS (k:Nat)(a0:vX)(a1:Int):Option AC:=
 (Rc k a1).bind fun x0=>bif !x0 then some [] else bif decide (a1 = 0) then ((CA k a0.2.1).bind fun x1=>some x1) else bif decide (a1 = 1) then ((CA k a0.2.2.2.1).bind fun x2=>some x2) else none
abbrev qOf:Type:=AC×EQ
abbrev qXn:Type:=AC→EQ→Option qOf
def EG (k:Nat)(rec:qXn)(s0:AC)(r0:EQ):Option qOf:=
 bif decide ((s0.length : Int) ≥ 2) then (bif zB 0 s0.length then (bif zB 1 s0.length then (bif decide ((wG .i64 (shl .i64 (zA ((s0.getD 0 0))) 8) (zA ((s0.getD 1 0))))>60000) then some (s0,r0) else bif decide ((wG .i64 (shl .i64 (zA ((s0.getD 0 0))) 8) (zA ((s0.getD 1 0))))>(zA ((s0.length:Int)-2))) then some (s0,r0) else bif (decide (2 ≤ (zA (2 + (wG .i64 (shl .i64 (zA ((s0.getD 0 0))) 8) (zA ((s0.getD 1 0)))))))) && (decide ((zA (2 + (wG .i64 (shl .i64 (zA ((s0.getD 0 0))) 8) (zA ((s0.getD 1 0)))))) ≤ (s0.length : Int))) then (bif zL (0 + (qR s0 2 ((zA (2 + (wG .i64 (shl .i64 (zA ((s0.getD 0 0))) 8) (zA ((s0.getD 1 0)))))).toNat - 2)).length) 1 then (let y0:AC:=(qR s0 2 ((zA (2+(wG .i64 (shl .i64 (zA ((s0.getD 0 0))) 8) (zA ((s0.getD 1 0)))))).toNat-2))
      bif zL (r0.length + 1) 24 then (bif (decide (0≤(zA (2+(wG .i64 (shl .i64 (zA ((s0.getD 0 0))) 8) (zA ((s0.getD 1 0))))))))&&(decide ((zA (2+(wG .i64 (shl .i64 (zA ((s0.getD 0 0))) 8) (zA ((s0.getD 1 0))))))≤(s0.length:Int))) then(rec (List.drop (zA (2+(wG .i64 (shl .i64 (zA ((s0.getD 0 0))) 8) (zA ((s0.getD 1 0)))))).toNat s0) (r0++[y0])) else none) else none) else none) else none) else none) else none) else some (s0,r0)
def EF (k:Nat):Nat→qXn:=yD (fun _ _=>none) (EG k)
def ON (k:Nat)(a0:AC):Option (EQ×Int):=
 (EF k k a0 []).bind fun z=>some (z.2,(z.1.length:Int))
abbrev qL0:Type:=AC×Int×AC
abbrev qKu:Type:=AC→Int→AC→Int→Int→AC→Option qL0
def OA (k:Nat)(rec:qKu)(s0:AC)(s5:Int)(cd:AC)(bo lv:Int)(r0:AC):Option qL0:=
 bif decide (lv < bo) then (bif zB lv cd.length then(rec s0 (wG .u64 (shl .u64 s5 8) (IntKind.wrap .u64 ((cd.getD lv.toNat 0)))) cd bo (zA (lv+1)) r0) else none) else some (s0,s5,r0)
def Et (k:Nat):Nat→qKu:=yD (fun _ _ _ _ _ _=>none) (OA k)
def Ev (k:Nat)(rec:AC→AC→Option AC)(s0 r0:AC):Option AC:=
 bif decide ((s0.length : Int) > 0) then (bif decide (8 ≤ (s0.length : Int)) then ((Et k k s0 0 (List.take 8 s0) ((List.take 8 s0).length:Int) 0 r0).bind fun z=>bif zL (z.2.2.length + 1) 8 then (bif decide (8≤(z.1.length:Int)) then(rec (List.drop 8 z.1) (z.2.2++[(zA (z.2.1))])) else none) else none) else none) else some r0
def Eu (k:Nat):Nat→AC→AC→Option AC:=yD (fun _ _=>none) (Ev k)
def sU (k:Nat)(a0:AC):Option (AC×Int):=
 bif !(decide ((Int.tmod (a0.length:Int) 8)=0)) then some ([],2)
 else(Eu k k a0 []).bind fun z1=>some (z1,0)
def yo (k:Nat)(a0:vX)(a1:Int):Option (Int×AC×EQ):=
 (ZS k a0 a1).bind fun x0=>(ON k x0).bind fun x1=>bif decide ((x1.1.length:Int)=0) then some (0,[],[]) else bif zB 0 x1.1.length then (bif decide (((x1.1.getD 0 []).length:Int)<8) then some (0,[],[]) else bif zB 0 x1.1.length then (bif decide (8 ≤ ((x1.1.getD 0 []).length : Int)) then ((sU k (List.take 8 (x1.1.getD 0 []))).bind fun x2=>bif zB 0 x2.1.length then (bif decide ((x2.1.getD 0 0)<1) then some (0,[],[]) else bif zB 0 x2.1.length then (bif decide ((x2.1.getD 0 0)>4611686018427387904) then some (0,[],[]) else bif zB 0 x2.1.length then (bif zB 0 x1.1.length then (bif decide (8 ≤ ((x1.1.getD 0 []).length : Int)) then (bif decide (1≤(x1.1.length:Int)) then some ((x2.1.getD 0 0),(List.drop 8 (x1.1.getD 0 [])),(qR x1.1 1 (x1.1.length-1))) else none) else none) else none) else none) else none) else none) else none) else none) else none
def Mh (k:Nat)(a0:vX):Option (Int×Int×AC×EQ×Bool):=
 (yo k a0 0).bind fun x0=>bif decide (x0.1 > 0) then ((yo k a0 1).bind fun x1=>bif decide (x1.1>x0.1) then some (x1.1,1,x1.2.1,x1.2.2,true) else some (x0.1,0,x0.2.1,x0.2.2,true))
 else(yo k a0 1).bind fun x2=>bif decide (x2.1>0) then some (x2.1,1,x2.2.1,x2.2.2,true) else some (0,0,[],[],false)
def Ks (k:Nat)(a0:Int):Option Bool:=
 bif decide (a0≥0) then some (decide (a0≤6)) else some false
abbrev qNw:Type:=Int→Int→Int→AC→Option AC
def Fm (k:Nat)(rec:qNw)(s1 bC bH:Int)(r0:AC):Option AC:=
 bif decide (bH < bC) then (bif zB bH r0.length then(rec s1 bC (zA (bH+1)) (r0.set bH.toNat s1)) else none) else some r0
def Kt (k:Nat):Nat→qNw
 |0,_,_,_,_=>none
 |n+1,s1,bC,bH,r0=>Fm k (Kt k n) s1 bC bH r0
def BE (k:Nat)(a0 a1:Int):Option AC:=
 (Ks k a0).bind fun x0=>bif !x0 then some [] else bif qe a0 a0 8 then ((Kt k k a1 ((List.replicate a0.toNat (0:Int)).length:Int) 0 (List.replicate a0.toNat (0:Int))).bind fun z=>some z) else none
abbrev qT0:Type:=Int→Int→Int→Int→EQ→Option EQ
def Fp (k:Nat)(rec:qT0)(s0 s1 bC bH:Int)(m0:EQ):Option EQ:=
 bif decide (bH < bC) then ((BE k s0 s1).bind fun x1=>bif zB bH m0.length then(rec s0 s1 bC (zA (bH+1)) (m0.set bH.toNat x1)) else none) else some m0
def Ku (k:Nat):Nat→qT0
 |0,_,_,_,_,_=>none
 |n+1,s0,s1,bC,bH,m0=>Fp k (Ku k n) s0 s1 bC bH m0
def Fo (k:Nat)(a0 a1:Int):Option EQ:=
 (Ks k a0).bind fun x0=>bif !x0 then some [] else bif qe a0 a0 24 then ((Ku k k a0 a1 ((List.replicate a0.toNat ([]:AC)).length:Int) 0 (List.replicate a0.toNat ([]:AC))).bind fun z=>some z) else none
abbrev qO2:Type:=Int×vF×yK×yK×(List zJ)×EQ×AC×EQ×AC
abbrev qSj:Type:=Int→List wD→Int→Int→vF→yK→yK→List zJ→EQ→AC→EQ→AC→Option qO2
def vF8 (k:Nat)(rec:qSj)(s3:Int)(cO:List wD)(s21 SK:Int)(b0:vF)(b1 b2:yK)(r3:List zJ)(m4:EQ)(r5:AC)(m6:EQ)(r7:AC):Option qO2:=
 bif decide (SK < s21) then (bif zB SK cO.length then (bif zL (r7.length+1) 8 then(rec s3 cO s21 (zA (SK+1)) b0 b1 b2 r3 m4 r5 m6 (r7++[(cO.getD SK.toNat (0,0)).1])) else none) else none) else some (s3,b0,b1,b2,r3,m4,r5,m6,r7)
def qLm (k:Nat):Nat→qSj:=yD (fun _ _ _ _ _ _ _ _ _ _ _ _=>none) (vF8 k)
abbrev yAl:Type:=yK×yK×(List zJ)×EQ×AC×EQ×AC×EQ
abbrev qQg:Type:=Int→Int→vF→yK→yK→List zJ→EQ→AC→EQ→AC→EQ→Option yAl
def yFa (k:Nat)(rec:qQg)(C6 tz:Int)(b0:vF)(b1 b2:yK)(r3:List zJ)(m4:EQ)(r5:AC)(m6:EQ)(r7:AC)(m8:EQ):Option yAl:=
 bif decide (tz < C6) then (bif qe (b0.2.1.length : Int) (b0.2.1.length : Int) 8 then (bif zL (m8.length+1) 24 then(rec C6 (zA (tz+1)) b0 b1 b2 r3 m4 r5 m6 r7 (m8++[(List.replicate b0.2.1.length (0:Int))])) else none) else none) else some (b1,b2,r3,m4,r5,m6,r7,m8)
def qPy (k:Nat):Nat→qQg:=yD (fun _ _ _ _ _ _ _ _ _ _ _=>none) (yFa k)
def ru (k:Nat)(a0:vF):Option yG:=
 bif qe a0.1 a0.1 24 then ((Fo k a0.1 (-1)).bind fun x0=>(BE k a0.1 (-1)).bind fun x1=>(Fo k a0.1 0).bind fun x2=>(qLm k k a0.1 a0.2.1 (a0.2.1.length:Int) 0 a0 (0,0,false) (0,0,false) (List.replicate a0.1.toNat ((0,0,0):Int×Int×Int)) x0 x1 x2 []).bind fun z=>(qPy k k z.1 0 z.2.1 z.2.2.1 z.2.2.2.1 z.2.2.2.2.1 z.2.2.2.2.2.1 z.2.2.2.2.2.2.1 z.2.2.2.2.2.2.2.1 z.2.2.2.2.2.2.2.2 []).bind fun z1=>some (z1.2.1.1,(yIu z1 ([],[],z1.2.1.2)))) else none
def OK (k:Nat)(a0:Bool):Option Int:=
 bif a0 then some 1 else some 0
abbrev qQf:Type:=AC×Int×Int×AC
abbrev qQo:Type:=Int→Int→AC→Int→Int→AC→Option qQf
def OG (k:Nat)(rec:qQo)(s5 s6:Int)(aR:AC)(bB bC:Int)(r0:AC):Option qQf:=
 bif decide (s6 ≥ 0) then (bif !(decide ((zA (8 * s6)) < 0)) then (bif zL (r0.length+1) 1 then(rec s5 (zA (s6-1)) aR bB bC (r0++[(IntKind.wrap .u8 ((shr .i64 s5 (zA (8*s6)))))])) else none) else none) else some (aR,bB,bC,r0)
def xw (k:Nat):Nat→qQo:=yD (fun _ _ _ _ _ _=>none) (OG k)
abbrev yCc:Type:=AC→Int→Int→AC→Option AC
def Ez (k:Nat)(rec:yCc)(aR:AC)(bB bC:Int)(r0:AC):Option AC:=
 bif decide (bC < bB) then (bif zB bC aR.length then ((xw k k (aR.getD bC.toNat 0) 7 aR bB bC r0).bind fun z=>rec z.1 z.2.1 (zA (z.2.2.1+1)) z.2.2.2) else none) else some r0
def Bv (k:Nat):Nat→yCc:=yD (fun _ _ _ _=>none) (Ez k)
def xx (k:Nat)(a0:AC):Option AC:=
 bif qe 0 (zA (8 * (a0.length : Int))) 1 then ((Bv k k a0 (a0.length:Int) 0 []).bind fun z1=>some z1) else none
def OH (k:Nat)(a0:AC):Option AC:=
 (xx k [(a0.length:Int)]).bind fun x0=>(xx k a0).bind fun x1=>bif zL (x0.length+x1.length) 1 then some (x0++x1) else none
abbrev qK1:Type:=EQ→Int→Int→AC→Option AC
def EC (k:Nat)(rec:qK1)(s6:EQ)(s7 s8:Int)(r0:AC):Option AC:=
 bif decide (s8 < s7) then (bif zB s8 s6.length then ((OH k (s6.getD s8.toNat [])).bind fun x0=>bif zL (r0.length+x0.length) 1 then(rec s6 s7 (zA (s8+1)) (r0++x0)) else none) else none) else some r0
def EB (k:Nat):Nat→qK1:=yD (fun _ _ _ _=>none) (EC k)
def JU (k:Nat)(a0:EQ):Option AC:=
 (EB k k a0 (a0.length:Int) 0 []).bind fun z=>some z
abbrev qYk:Type:=yG×zk×EQ
abbrev qZj:Type:=List zJ→Int→Int→yG→zk→EQ→Option qYk
def ED (k:Nat)(rec:qZj)(lS:List zJ)(gQ jq:Int)(b0:yG)(b1:zk)(r2:EQ):Option qYk:=
 bif decide (jq < gQ) then (bif zB jq lS.length then (bif zL (r2.length + 1) 24 then (let y0:EQ:=(r2++[[(lS.getD jq.toNat (0,0,0)).1,(lS.getD jq.toNat (0,0,0)).2.1,(lS.getD jq.toNat (0,0,0)).2.2]])
    rec lS gQ (zA (jq+1)) b0 b1 y0) else none) else none) else some (b0,b1,r2)
def Bw (k:Nat):Nat→qZj:=yD (fun _ _ _ _ _ _=>none) (ED k)
abbrev qUh:Type:=yG×EQ
abbrev qKi:Type:=List zC→Int→Int→yG→EQ→Option qUh
def EE (k:Nat)(rec:qKi)(vv:List zC)(s80 tA:Int)(b0:yG)(r1:EQ):Option qUh:=
 bif decide (tA < s80) then (bif zB tA vv.length then (bif zL (r1.length + 1) 24 then (let y3:EQ:=(r1++[[(vv.getD tA.toNat (0,0,0,0,0,0,0)).1,(vv.getD tA.toNat (0,0,0,0,0,0,0)).2.1,(vv.getD tA.toNat (0,0,0,0,0,0,0)).2.2.1,(vv.getD tA.toNat (0,0,0,0,0,0,0)).2.2.2.1,(vv.getD tA.toNat (0,0,0,0,0,0,0)).2.2.2.2.1,(vv.getD tA.toNat (0,0,0,0,0,0,0)).2.2.2.2.2.1,(vv.getD tA.toNat (0,0,0,0,0,0,0)).2.2.2.2.2.2]])
    rec vv s80 (zA (tA+1)) b0 y3) else none) else none) else some (b0,r1)
def Bx (k:Nat):Nat→qKi:=yD (fun _ _ _ _ _=>none) (EE k)
def mr (k:Nat)(a0:yG):Option AC:=
 (OK k a0.2.2.2.2.2.2.2.2.2.2).bind fun x0=>(Bw k k a0.2.1 (a0.2.1.length:Int) 0 a0 (Ii a0) [[a0.1,a0.2.2.2.2.2.2.2.2.2.1,x0,(a0.2.1.length:Int),(a0.2.2.1.length:Int),(a0.2.2.2.1.length:Int),(a0.2.2.2.2.1.length:Int),(a0.2.2.2.2.2.2.1.length:Int),(a0.2.2.2.2.2.2.2.1.length:Int)]]).bind fun z=>bif zL (z.2.2.length + z.2.1.2.1.length) 24 then (bif zL ((z.2.2 ++ z.2.1.2.1).length + 1) 24 then (let y1:EQ:=((z.2.2++z.2.1.2.1)++[z.2.1.2.2.1])
   bif zL (y1.length + z.2.1.2.2.2.length) 24 then (bif zL ((y1 ++ z.2.1.2.2.2).length + 1) 24 then (let y2:EQ:=((y1++z.2.1.2.2.2)++[z.1.2.2.2.2.2.1])
     bif zL (y2.length + z.1.2.2.2.2.2.2.1.length) 24 then ((Bx k k z.1.2.2.2.2.2.2.2.1 (z.1.2.2.2.2.2.2.2.1.length:Int) 0 z.1 (y2++z.1.2.2.2.2.2.2.1)).bind fun z1=>bif zL (z1.2.length + 1) 24 then (let y4:EQ:=(z1.2++[z1.1.2.2.2.2.2.2.2.2.1])
       (JU k y4).bind fun x1=>some x1) else none) else none) else none) else none) else none) else none
def JS (k:Nat)(a0:AC):Option jF:=
 bif decide ((a0.length:Int)>60000) then some ([],false) else bif zL (2+a0.length) 1 then some (([(IntKind.wrap .u8 ((shr .i64 (a0.length:Int) 8))),(IntKind.wrap .u8 ((a0.length:Int)))]++a0),true) else none
def ZQ (k:Nat)(a0:vX):Option Int:=
 some a0.1
def Rm (k:Nat)(a0:vX):Option Bool:=
 some a0.2.2.2.2.2.2.2.2.1
def lg (k:Nat)(a0:vX):Option (Bool×vX):=
 bif !a0.2.2.2.2.2.2.2.1 then some (false,(qQc a0 (zA (a0.2.2.2.2.2.2.2.2.2+1)))) else bif decide (a0.2.2.2.2.2.2.2.2.2<a0.2.2.2.2.2.1) then some (false,(qQc a0 (zA (a0.2.2.2.2.2.2.2.2.2+1)))) else bif (decide (0 ≤ (zA (a0.2.2.1 + (wR true (wR false a0.2.2.2.2.2.2.1 0) (zA ((a0.2.1.length : Int) - a0.2.2.1))))))) && (decide ((zA (a0.2.2.1 + (wR true (wR false a0.2.2.2.2.2.2.1 0) (zA ((a0.2.1.length : Int) - a0.2.2.1))))) ≤ (a0.2.1.length : Int))) then (bif (decide (0≤(zA (a0.2.2.2.2.1+(wR true (zA ((wR false a0.2.2.2.2.2.2.1 0)-(wR true (wR false a0.2.2.2.2.2.2.1 0) (zA ((a0.2.1.length:Int)-a0.2.2.1))))) (zA ((a0.2.2.2.1.length:Int)-a0.2.2.2.2.1)))))))&&(decide ((zA (a0.2.2.2.2.1+(wR true (zA ((wR false a0.2.2.2.2.2.2.1 0)-(wR true (wR false a0.2.2.2.2.2.2.1 0) (zA ((a0.2.1.length:Int)-a0.2.2.1))))) (zA ((a0.2.2.2.1.length:Int)-a0.2.2.2.2.1)))))≤(a0.2.2.2.1.length:Int))) then some (true,a0.1,(List.take ((zA (a0.2.2.1+(wR true (wR false a0.2.2.2.2.2.2.1 0) (zA ((a0.2.1.length:Int)-a0.2.2.1))))).toNat-0) a0.2.1),(zA (a0.2.2.1+(wR true (wR false a0.2.2.2.2.2.2.1 0) (zA ((a0.2.1.length:Int)-a0.2.2.1))))),(List.take ((zA (a0.2.2.2.2.1+(wR true (zA ((wR false a0.2.2.2.2.2.2.1 0)-(wR true (wR false a0.2.2.2.2.2.2.1 0) (zA ((a0.2.1.length:Int)-a0.2.2.1))))) (zA ((a0.2.2.2.1.length:Int)-a0.2.2.2.2.1))))).toNat-0) a0.2.2.2.1),(zA (a0.2.2.2.2.1+(wR true (zA ((wR false a0.2.2.2.2.2.2.1 0)-(wR true (wR false a0.2.2.2.2.2.2.1 0) (zA ((a0.2.1.length:Int)-a0.2.2.1))))) (zA ((a0.2.2.2.1.length:Int)-a0.2.2.2.2.1))))),a0.2.2.2.2.2.1,a0.2.2.2.2.2.2.1,a0.2.2.2.2.2.2.2.1,true,a0.2.2.2.2.2.2.2.2.2) else none) else none
def QV (k:Nat)(a0:vX)(a1:Int):Option (Int×vX):=
 (Rm k a0).bind fun x0=>bif x0 then some (11,a0)
 else(Rc k a1).bind fun x1=>bif !x1 then some (1,a0)
 else(lg k a0).bind fun x2=>bif x2.1 then some (11,x2.2) else bif decide (a1 = 0) then (bif decide (a1=0) then some (0,x2.2.1,[],0,x2.2.2.2.2) else bif decide (a1=1) then some (0,x2.2.1,[],x2.2.2.2.1,x2.2.2.2.2.1,0,x2.2.2.2.2.2.2) else none) else bif decide (a1 = 1) then (bif decide (a1=0) then some (0,x2.2.1,x2.2.2.1,0,[],x2.2.2.2.2.2) else bif decide (a1=1) then some (0,x2.2.1,x2.2.2.1,x2.2.2.2.1,[],0,x2.2.2.2.2.2.2) else none) else none
def yn (k:Nat)(a0:vX)(a1:Int)(a2:AC):Option (Int×vX):=
 (Rm k a0).bind fun x0=>bif x0 then some (11,a0)
 else(Rc k a1).bind fun x1=>bif !x1 then some (1,a0) else bif decide (a1 = 0) then (bif decide ((a2.length:Int)>(zA (a0.1-(a0.2.1.length:Int)))) then some (3,a0)
  else(lg k a0).bind fun x2=>bif x2.1 then some (11,x2.2) else bif decide (a1 = 0) then (bif zL (x2.2.2.1.length+a2.length) 1 then some (0,x2.2.1,(x2.2.2.1++a2),x2.2.2.2) else none) else bif decide (a1 = 1) then (bif zL (x2.2.2.2.2.1.length+a2.length) 1 then some (0,x2.2.1,x2.2.2.1,x2.2.2.2.1,(x2.2.2.2.2.1++a2),x2.2.2.2.2.2) else none) else none) else bif decide (a1 = 1) then (bif decide ((a2.length:Int)>(zA (a0.1-(a0.2.2.2.1.length:Int)))) then some (3,a0)
  else(lg k a0).bind fun x3=>bif x3.1 then some (11,x3.2) else bif decide (a1 = 0) then (bif zL (x3.2.2.1.length+a2.length) 1 then some (0,x3.2.1,(x3.2.2.1++a2),x3.2.2.2) else none) else bif decide (a1 = 1) then (bif zL (x3.2.2.2.2.1.length+a2.length) 1 then some (0,x3.2.1,x3.2.2.1,x3.2.2.2.1,(x3.2.2.2.2.1++a2),x3.2.2.2.2.2) else none) else none) else none
def vj (k:Nat)(a0:vX):Option (Int×vX):=
 (Rm k a0).bind fun x0=>bif x0 then some (11,a0)
 else(lg k a0).bind fun x1=>bif x1.1 then some (11,x1.2) else some (0,x1.2.1,x1.2.2.1,(x1.2.2.1.length:Int),x1.2.2.2.2.1,(x1.2.2.2.2.1.length:Int),x1.2.2.2.2.2.2)
def Ma (k:Nat)(a0:vX)(a1 a2:Int)(a3:AC):Option (Int×vX):=
 (xx k [a2]).bind fun x0=>bif zL (x0.length + a3.length) 1 then ((JS k (x0++a3)).bind fun x1=>bif !x1.2 then some (10,a0) else bif decide (a2>4611686018427387904) then some (10,a0)
  else(ZQ k a0).bind fun x2=>bif decide ((x1.1.length:Int)>x2) then some (10,a0)
  else(QV k a0 a1).bind fun x3=>bif !(decide (x3.1=0)) then some (x3.1,x3.2)
  else(yn k x3.2 a1 x1.1).bind fun x4=>bif !(decide (x4.1=0)) then some (x4.1,x4.2)
  else(vj k x4.2).bind fun x5=>some (x5.1,x5.2)) else none
def QW (k:Nat)(a0:vX)(a1:AC):Option ((AC×EQ×Int×vX×fV)⊕(AC×EQ×Int×vX)):=
 (Mh k a0).bind fun x0=>bif x0.2.2.2.2 then some (.inl (x0.2.2.1,x0.2.2.2.1,0,a0,x0.2.1,x0.1,(x0.2.2.2.1.length:Int),true))
 else(Ma k a0 0 1 a1).bind fun x1=>bif !(decide (x1.1=0)) then some (.inr ([],[],x1.1,x1.2)) else bif zL (0+a1.length) 1 then some (.inl (a1,[],0,x1.2,0,1,0,false)) else none
def OM (k:Nat)(a0:AC):Option (AC×AC×Bool):=
 bif decide ((a0.length:Int)<8) then some ([],[],false) else bif decide (8 ≤ (a0.length : Int)) then ((sU k (List.take 8 a0)).bind fun x0=>bif decide (8 ≤ (a0.length : Int)) then (bif zB 0 x0.1.length then (bif decide ((x0.1.getD 0 0)<0) then some ([],[],false) else bif zB 0 x0.1.length then (bif decide ((x0.1.getD 0 0)>(zA (Int.tdiv ((List.drop 8 a0).length:Int) 8))) then some ([],[],false) else bif zB 0 x0.1.length then (bif (decide (0 ≤ (zA (8 * (x0.1.getD 0 0))))) && (decide ((zA (8 * (x0.1.getD 0 0))) ≤ ((List.drop 8 a0).length : Int))) then ((sU k (List.take (zA (8*(x0.1.getD 0 0))).toNat (List.drop 8 a0))).bind fun x1=>bif (decide (0≤(zA (8*(x0.1.getD 0 0)))))&&(decide ((zA (8*(x0.1.getD 0 0)))≤((List.drop 8 a0).length:Int))) then some (x1.1,(List.drop (zA (8*(x0.1.getD 0 0))).toNat (List.drop 8 a0)),true) else none) else none) else none) else none) else none) else none) else none
def yp (k:Nat)(a0:jF):Option (AC×jF):=
 (OM k a0.1).bind fun x0=>bif a0.2 then some (x0.1,x0.2.1,true) else some (x0.1,x0.2.1,(!x0.2.2))
def HH (k:Nat)(a0:jF)(a1:Int):Option (AC×jF):=
 (yp k a0).bind fun x0=>bif !(decide ((x0.1.length : Int) = a1)) then (bif qe a1 a1 8 then some ((List.replicate a1.toNat (0:Int)),x0.2.1,true) else none) else some (x0.1,x0.2)
abbrev qRf:Type:=jF×EQ
abbrev yCl:Type:=Int→jF→EQ→Option qRf
def QX (k:Nat)(rec:yCl)(s1:Int)(b0:jF)(r1:EQ):Option qRf:=
 bif decide (s1 > 0) then (bif !b0.2 then ((yp k b0).bind fun x0=>bif zL (r1.length+1) 24 then(rec (zA (s1-1)) x0.2 (r1++[x0.1])) else none) else some (b0,r1)) else some (b0,r1)
def Mj (k:Nat):Nat→yCl:=yD (fun _ _ _=>none) (QX k)
def HI (k:Nat)(a0:jF)(a1:Int):Option (EQ×jF):=
 (Mj k k a1 a0 []).bind fun z=>some (z.2,z.1)
def ZY (k:Nat)(a0 a1:AC):Option Bool:=
 some (rU a0 a1)
abbrev qXr:Type:=AC×yK×jF×AC×yK×(List zJ)
abbrev qXp:Type:=AC→Int→yK→jF→AC→yK→List zJ→Option qXr
def QY (k:Nat)(rec:qXp)(s0:AC)(s7:Int)(b0:yK)(b1:jF)(r2:AC)(b3:yK)(r4:List zJ):Option qXr:=
 bif decide (s7 > 0) then (bif !b1.2 then ((HH k b1 3).bind fun x1=>bif zB 0 x1.1.length then (bif zB 1 x1.1.length then (bif zB 2 x1.1.length then (bif zL (r4.length + 1) 24 then (let y0:List zJ:=(r4++[((x1.1.getD 0 0),(x1.1.getD 1 0),(x1.1.getD 2 0))])
       rec s0 (zA (s7-1)) b0 x1.2 r2 b3 y0) else none) else none) else none) else none) else some (s0,b0,b1,r2,b3,r4)) else some (s0,b0,b1,r2,b3,r4)
def HJ (k:Nat):Nat→qXp:=yD (fun _ _ _ _ _ _ _=>none) (QY k)
abbrev qJd:Type:=AC×yK×jF×yK×(List zJ)×EQ×AC×EQ×AC×EQ×(List zC)
abbrev qZv:Type:=AC→Int→yK→jF→yK→List zJ→EQ→AC→EQ→AC→EQ→List zC→Option qJd
def QZ (k:Nat)(rec:qZv)(s0:AC)(s9:Int)(b0:yK)(b1:jF)(b2:yK)(r3:List zJ)(r4:EQ)(r5:AC)(r6:EQ)(r7:AC)(r8:EQ)(r9:List zC):Option qJd:=
 bif decide (s9 > 0) then (bif !b1.2 then ((HH k b1 7).bind fun x7=>bif zB 0 x7.1.length then (bif zB 1 x7.1.length then (bif zB 2 x7.1.length then (bif zB 3 x7.1.length then (bif zB 4 x7.1.length then (bif zB 5 x7.1.length then (bif zB 6 x7.1.length then (bif zL (r9.length + 1) 56 then (let y1:List zC:=(r9++[((x7.1.getD 0 0),(x7.1.getD 1 0),(x7.1.getD 2 0),(x7.1.getD 3 0),(x7.1.getD 4 0),(x7.1.getD 5 0),(x7.1.getD 6 0))])
           rec s0 (zA (s9-1)) b0 x7.2 b2 r3 r4 r5 r6 r7 r8 y1) else none) else none) else none) else none) else none) else none) else none) else none) else some (s0,b0,b1,b2,r3,r4,r5,r6,r7,r8,r9)) else some (s0,b0,b1,b2,r3,r4,r5,r6,r7,r8,r9)
def HK (k:Nat):Nat→qZv:=yD (fun _ _ _ _ _ _ _ _ _ _ _ _=>none) (QZ k)
def Mk (k:Nat)(a0:AC):Option (yG×Bool):=
 (HH k (a0,false) 9).bind fun x0=>bif zB 0 x0.1.length then (bif zB 1 x0.1.length then (bif zB 2 x0.1.length then (bif zB 3 x0.1.length then ((HJ k k a0 (x0.1.getD 3 0) (0,0,false) x0.2 x0.1 ((x0.1.getD 0 0),(x0.1.getD 1 0),(decide ((x0.1.getD 2 0)=1))) []).bind fun z=>bif zB 4 z.2.2.2.1.length then ((HI k z.2.2.1 (z.2.2.2.1.getD 4 0)).bind fun x2=>(yp k x2.2).bind fun x3=>bif zB 6 z.2.2.2.1.length then ((HI k x3.2 (z.2.2.2.1.getD 6 0)).bind fun x4=>(yp k x4.2).bind fun x5=>bif zB 7 z.2.2.2.1.length then ((HI k x5.2 (z.2.2.2.1.getD 7 0)).bind fun x6=>bif zB 8 z.2.2.2.1.length then ((HK k k z.1 (z.2.2.2.1.getD 8 0) z.2.1 x6.2 z.2.2.2.2.1 z.2.2.2.2.2 x2.1 x3.1 x4.1 x5.1 x6.1 []).bind fun z1=>(yp k z1.2.2.1).bind fun x8=>bif x8.2.2 then some ((0,[],[],[],[],[],[],[],[],0,false),false)
         else(mr k (z1.2.2.2.1.1,(MI z1 (x8.1,z1.2.2.2.1.2)))).bind fun x9=>(ZY k x9 z1.1).bind fun bZ=>bif !bZ then some ((0,[],[],[],[],[],[],[],[],0,false),false) else some ((z1.2.2.2.1.1,(MI z1 (x8.1,z1.2.2.2.1.2))),true)) else none) else none) else none) else none) else none) else none) else none) else none
def ux (k:Nat)(a0:Int):Option Int:=
 bif decide (a0=9) then some 0 else bif decide (a0=13) then some 0 else bif decide (a0=14) then some 0 else bif decide (a0=15) then some 0 else bif decide (a0=2) then some 1 else bif decide (a0=6) then some 1 else bif decide (a0=7) then some 1 else bif decide (a0=16) then some 1 else bif decide (a0=19) then some 1 else bif decide (a0=20) then some 1 else bif decide (a0=21) then some 1 else bif decide (a0=22) then some 1 else bif decide (a0=23) then some 1 else bif decide (a0=3) then some 2 else bif decide (a0=4) then some 2 else bif decide (a0=5) then some 2 else bif decide (a0=8) then some 2 else bif decide (a0=10) then some 2 else bif decide (a0=11) then some 2 else bif decide (a0=12) then some 2 else bif decide (a0=18) then some 4 else bif decide (a0=17) then some 5 else bif decide (a0=1) then some 6 else some (-1)
def uy (k:Nat)(a0:AC):Option (zC×Int):=
 bif decide ((a0.length:Int)=0) then some ((0,0,0,0,0,0,0),2) else bif decide (1 ≤ (a0.length : Int)) then ((sU k (List.drop 1 a0)).bind fun x0=>bif !(decide (x0.2=0)) then some ((0,0,0,0,0,0,0),2) else bif zB 0 a0.length then ((ux k (zA ((a0.getD 0 0)))).bind fun x1=>bif !(decide ((x0.1.length:Int)=x1)) then some ((0,0,0,0,0,0,0),2) else bif zB 0 a0.length then some (((zA ((a0.getD 0 0))),(bif (Nat.blt 0 x0.1.length) then(x0.1.getD 0 0) else 0),(bif (Nat.blt 1 x0.1.length) then(x0.1.getD 1 0) else 0),(bif (Nat.blt 2 x0.1.length) then(x0.1.getD 2 0) else 0),(bif (Nat.blt 3 x0.1.length) then(x0.1.getD 3 0) else 0),(bif (Nat.blt 4 x0.1.length) then(x0.1.getD 4 0) else 0),(bif (Nat.blt 5 x0.1.length) then(x0.1.getD 5 0) else 0)),0) else none) else none) else none
def tg (k:Nat)(a0:AC):Option (qE×Int):=
 bif decide ((a0.length:Int)<8) then some ((0,0,0,0,0,0,0,0),2) else bif decide (8 ≤ (a0.length : Int)) then ((sU k (List.take 8 a0)).bind fun x0=>bif decide (8 ≤ (a0.length : Int)) then ((uy k (List.drop 8 a0)).bind fun x1=>bif !(decide (x1.2=0)) then some ((0,0,0,0,0,0,0,0),2) else bif zB 0 x0.1.length then some (((x0.1.getD 0 0),x1.1),0) else none) else none) else none
def Qc (k:Nat)(a0:Int):Option Bool:=
 bif decide (a0≥10) then some (decide (a0≤14)) else some false
def Lj (k:Nat)(a0:Int):Option Bool:=
 bif decide (a0≥1) then some (decide (a0≤14)) else some false
abbrev qS1:Type:=AC→Int→Int→Option (Unit⊕Bool)
def lI (k:Nat)(rec:qS1)(bC:AC)(bH bb:Int):Option (Unit⊕Bool):=
 bif decide (bb < bH) then (bif zB bb bC.length then (bif !(decide ((bC.getD bb.toNat 0)=0)) then some (.inr false) else rec bC bH (zA (bb+1))) else none) else some (.inl ())
def mA (k:Nat):Nat→qS1:=yD (fun _ _ _=>none) (lI k)
def lJ (k:Nat)(a0:zC):Option Bool:=
 (ux k a0.1).bind fun x0=>bif decide (x0<0) then some false else bif (decide (0 ≤ x0)) && (decide (x0 ≤ 6)) then ((mA k k (qR [a0.2.1,a0.2.2.1,a0.2.2.2.1,a0.2.2.2.2.1,a0.2.2.2.2.2.1,a0.2.2.2.2.2.2] x0.toNat (6-x0.toNat)) ((qR [a0.2.1,a0.2.2.1,a0.2.2.2.1,a0.2.2.2.2.1,a0.2.2.2.2.2.1,a0.2.2.2.2.2.2] x0.toNat (6-x0.toNat)).length:Int) 0).bind fun z=>match z with
  |.inl z1=>some true
  |.inr z2=>some z2) else none
def uV (k:Nat)(a0:vF)(a1:yG)(a2:qE):Option Int:=
 (Qc k a2.2.1).bind fun x0=>bif decide (a2.1 ≥ 0) then ((Lj k a2.2.1).bind fun x1=>bif !x1 then some 5
  else(lJ k a2.2).bind fun x2=>bif !x2 then some 5 else bif x0 then (bif !(decide (a2.1=(-1))) then some 5 else bif !x0 then (bif !(decide (a2.1<a0.1)) then some 5 else bif a1.2.2.2.2.2.2.2.2.2.2 then (bif !(decide (a2.2.1=9)) then some 7 else some 0) else some 0) else bif a1.2.2.2.2.2.2.2.2.2.2 then (bif !(decide (a2.2.1=9)) then some 7 else some 0) else some 0) else bif !x0 then (bif !(decide (a2.1<a0.1)) then some 5 else bif a1.2.2.2.2.2.2.2.2.2.2 then (bif !(decide (a2.2.1=9)) then some 7 else some 0) else some 0) else bif a1.2.2.2.2.2.2.2.2.2.2 then (bif !(decide (a2.2.1=9)) then some 7 else some 0) else some 0)
 else(Lj k a2.2.1).bind fun x3=>bif !x3 then some 5
 else(lJ k a2.2).bind fun x4=>bif !x4 then some 5 else bif x0 then (bif !(decide (a2.1=(-1))) then some 5 else bif !x0 then some 5 else bif a1.2.2.2.2.2.2.2.2.2.2 then (bif !(decide (a2.2.1=9)) then some 7 else some 0) else some 0) else bif !x0 then some 5 else bif a1.2.2.2.2.2.2.2.2.2.2 then (bif !(decide (a2.2.1=9)) then some 7 else some 0) else some 0
def Yh (k:Nat)(cm bh bE cz bT cg bW a1:Int):Option Bool:=
 some (decide (bh=a1))
abbrev yCb:Type:=List zC
abbrev qMq:Type:=List zC→Int→Int→Int→List zC→Option yCb
def Gn (k:Nat)(rec:qMq)(s8:List zC)(s9 ax af:Int)(r1:List zC):Option yCb:=
 bif decide (ax < s9) then (bif zB ax s8.length then ((Yh k (s8.getD ax.toNat (0,0,0,0,0,0,0)).1 (s8.getD ax.toNat (0,0,0,0,0,0,0)).2.1 (s8.getD ax.toNat (0,0,0,0,0,0,0)).2.2.1 (s8.getD ax.toNat (0,0,0,0,0,0,0)).2.2.2.1 (s8.getD ax.toNat (0,0,0,0,0,0,0)).2.2.2.2.1 (s8.getD ax.toNat (0,0,0,0,0,0,0)).2.2.2.2.2.1 (s8.getD ax.toNat (0,0,0,0,0,0,0)).2.2.2.2.2.2 af).bind fun x0=>bif x0 then (bif zL (r1.length + 1) 56 then (let y0:List zC:=(r1++[(s8.getD ax.toNat (0,0,0,0,0,0,0))])
     rec s8 s9 (zA (ax+1)) af y0) else none) else rec s8 s9 (zA (ax+1)) af r1) else none) else some r1
def K7 (k:Nat):Nat→qMq
 |0,_,_,_,_,_=>none
 |n+1,s8,s9,ax,af,r1=>Gn k (K7 k n) s8 s9 ax af r1
def Yg (k:Nat)(a0:List zC)(cZ:Int):Option (List zC):=
 (K7 k k a0 (a0.length:Int) 0 cZ []).bind fun z=>some z
def K6 (k:Nat)(a0:List zC)(a1:Int):Option (List zC):=
 (Yg k a0 a1).bind fun x0=>some x0
def yQh (k:Nat)(a0:(Int×Int×Int×Int×Int×Int×Bool×Int))(a1:Int)(a2:AC):Option jU:=
 some (a0.1,[],(iJ a0 ([],[],[],[],[],[],[],[],a0.2.2.2.2.2.1,a0.2.2.2.2.2.2.1,a0.2.2.2.2.2.2.2,[(a0.2.2.2.2.2.2.2,a1,(bif (Nat.blt 0 a2.length) then(a2.getD 0 0) else 0),(bif (Nat.blt 1 a2.length) then(a2.getD 1 0) else 0),(bif (Nat.blt 2 a2.length) then(a2.getD 2 0) else 0),(bif (Nat.blt 3 a2.length) then(a2.getD 3 0) else 0),(bif (Nat.blt 4 a2.length) then(a2.getD 4 0) else 0),(bif (Nat.blt 5 a2.length) then(a2.getD 5 0) else 0))])))
def Cp (k:Nat)(a0:yG)(a1:Int):Option (List qE):=
 bif zB a1 a0.2.1.length then ((K6 k a0.2.2.2.2.2.2.2.1 a1).bind fun x0=>(yQh k (0,0,0,0,0,0,false,a1) 17 [(a0.2.1.getD a1.toNat (0,0,0)).1,(a0.2.1.getD a1.toNat (0,0,0)).2.1,(a0.2.1.getD a1.toNat (0,0,0)).2.2,(x0.length:Int),a0.1]).bind fun x1=>some x1.2.2.2.2.2.2.2.2.2.2.2.2.2.2.2.2.2) else none
def LS (k:Nat)(a0:lR)(a1:Int)(a2:AC):Option jU:=
 some (vU a0 [(a0.2.2.2.2.2.2.2.2.2.2.2.2.2.2.2.2,a1,(bif (Nat.blt 0 a2.length) then(a2.getD 0 0) else 0),(bif (Nat.blt 1 a2.length) then(a2.getD 1 0) else 0),(bif (Nat.blt 2 a2.length) then(a2.getD 2 0) else 0),(bif (Nat.blt 3 a2.length) then(a2.getD 3 0) else 0),(bif (Nat.blt 4 a2.length) then(a2.getD 4 0) else 0),(bif (Nat.blt 5 a2.length) then(a2.getD 5 0) else 0))])
def vN (k:Nat)(a0 a1 a2:Int):Option Bool:=
 bif decide (a0≥a1) then some (decide (a0≤a2)) else some false
def Lf (k:Nat)(a0:vF)(a1:Int):Option Bool:=
 bif decide (a1≥0) then some (decide (a1<a0.1)) else some false
def P8 (k:Nat)(a0:vF)(a1:Int)(a2:zC):Option Bool:=
 (Lf k a0 a2.2.1).bind fun x0=>bif x0 then ((Lf k a0 a2.2.2.1).bind fun x1=>bif x1 then (bif decide (a2.1 ≥ 1) then (bif decide (a2.2.2.2.1 ≥ 1) then (bif decide (a2.2.2.2.1 ≤ 1099511627776) then (bif decide (a2.2.2.2.2.1 ≥ 1) then (bif !(decide (a2.2.1 = a2.2.2.1)) then (bif decide (a2.2.2.2.2.1 ≤ 3) then (bif decide (a2.2.2.2.2.2.1 ≥ 0) then (bif decide (a2.2.2.2.2.2.1 ≤ a2.2.2.2.2.2.2) then (bif decide (a2.2.2.2.2.2.2≥a1) then some (decide (a2.2.2.2.2.2.2≤1048576)) else some false) else some false) else some false) else some false) else some false) else bif !(decide (a2.2.1=a2.2.2.1)) then some false else some false) else bif !(decide (a2.2.1=a2.2.2.1)) then some false else some false) else bif !(decide (a2.2.1=a2.2.2.1)) then some false else some false) else bif !(decide (a2.2.1=a2.2.2.1)) then some false else some false) else bif decide (a2.1 ≥ 1) then (bif decide (a2.2.2.2.1 ≥ 1) then (bif decide (a2.2.2.2.1 ≤ 1099511627776) then (bif decide (a2.2.2.2.2.1≥1) then some false else some false) else some false) else some false) else some false) else bif decide (a2.1 ≥ 1) then (bif decide (a2.2.2.2.1 ≥ 1) then (bif decide (a2.2.2.2.1 ≤ 1099511627776) then (bif decide (a2.2.2.2.2.1≥1) then some false else some false) else some false) else some false) else some false
def B3 (k:Nat)(a0:vF)(a1 a2:Int):Option Int:=
 bif decide (a1≥a0.2.2.2.1) then some 7 else bif decide (a2 = 3) then (bif decide (a1≥a0.2.2.1) then some 7 else some 0) else some 0
def GH (k:Nat)(a0:vF)(a1:Int)(a2:zC):Option Int:=
 (P8 k a0 a1 a2).bind fun x0=>bif !x0 then some 1
 else(B3 k a0 a1 a2.2.2.2.2.1).bind fun x1=>some x1
def PG (k:Nat)(a0:Int):Option Bool:=
 some (!(decide (a0=a0)))
def PF (k:Nat)(a0 a1:Int):Option Bool:=
 (PG k a0).bind fun x0=>bif x0 then ((PG k a1).bind fun x1=>bif !x1 then some true else some (decide (a0<a1))) else some (decide (a0<a1))
def PI (k:Nat)(a0:Int):Option Bool:=
 some (!(decide (a0=a0)))
abbrev qRu:Type:=AC×Int×Int×Int
abbrev qYx:Type:=AC→Int→Int→Int→Int→Option qRu
def PH (k:Nat)(rec:qYx)(s0:AC)(s1 s6 s7 s8:Int):Option qRu:=
 bif decide (s7 < s8) then (bif zB (zA ((shr .u64 (IntKind.wrap .u64 ((zA (s7 + s8)))) 1))) s0.length then ((PF k (s0.getD (zA ((shr .u64 (IntKind.wrap .u64 ((zA (s7+s8)))) 1))).toNat 0) s1).bind fun x0=>bif x0 then(rec s0 s1 s6 (zA ((zA ((shr .u64 (IntKind.wrap .u64 ((zA (s7+s8)))) 1)))+1)) s8) else rec s0 s1 s6 s7 (zA ((shr .u64 (IntKind.wrap .u64 ((zA (s7+s8)))) 1)))) else none) else some (s0,s1,s6,s7)
def KT (k:Nat):Nat→qYx:=yD (fun _ _ _ _ _=>none) (PH k)
def FY (k:Nat)(a0:AC)(a1:Int):Option fD:=
 (KT k k a0 a1 (a0.length:Int) 0 (a0.length:Int)).bind fun z=>bif decide (z.2.2.2 < z.2.2.1) then (bif zB z.2.2.2 z.1.length then (bif decide ((z.1.getD z.2.2.2.toNat 0)=z.2.1) then some (z.2.2.2,true) else bif zB z.2.2.2 z.1.length then ((PI k (z.1.getD z.2.2.2.toNat 0)).bind fun x1=>bif x1 then ((PI k z.2.1).bind fun x2=>some (z.2.2.2,x2)) else some (z.2.2.2,false)) else none) else none) else some (z.2.2.2,false)
def qt (k:Nat)(a0:AC):Option AC:=
 bif zL (0+a0.length) 8 then some a0 else none
abbrev yNe (k:Nat)(a0:AC)(a1:Int)(a2:AC):Option AC:=ins 8 a0 a1 a2
def FZ (k:Nat)(a0:AC)(a1:Int):Option (AC×Int):=
 (FY k a0 a1).bind fun x0=>bif x0.2 then some (a0,6) else bif decide ((a0.length:Int)≥200) then some (a0,3)
 else(qt k a0).bind fun x1=>(yNe k x1 x0.1 [a1]).bind fun x2=>some (x2,0)
def XF (k:Nat)(cm bh bE cz bT cg bW a1:Int):Option Bool:=
 some (decide (cm=a1))
abbrev qM1:Type:=List zC→Int→Int→Int→Option (Unit⊕Int)
def FO (k:Nat)(rec:qM1)(s0:List zC)(s7 s8 af:Int):Option (Unit⊕Int):=
 bif decide (s8 < s7) then (bif zB s8 s0.length then ((XF k (s0.getD s8.toNat (0,0,0,0,0,0,0)).1 (s0.getD s8.toNat (0,0,0,0,0,0,0)).2.1 (s0.getD s8.toNat (0,0,0,0,0,0,0)).2.2.1 (s0.getD s8.toNat (0,0,0,0,0,0,0)).2.2.2.1 (s0.getD s8.toNat (0,0,0,0,0,0,0)).2.2.2.2.1 (s0.getD s8.toNat (0,0,0,0,0,0,0)).2.2.2.2.2.1 (s0.getD s8.toNat (0,0,0,0,0,0,0)).2.2.2.2.2.2 af).bind fun x0=>bif x0 then some (.inr s8) else rec s0 s7 (zA (s8+1)) af) else none) else some (.inl ())
def FN (k:Nat):Nat→qM1
 |0,_,_,_,_=>none
 |n+1,s0,s7,s8,af=>FO k (FN k n) s0 s7 s8 af
def XG (k:Nat)(a0:List zC)(cZ:Int):Option Int:=
 (FN k k a0 (a0.length:Int) 0 cZ).bind fun z=>match z with
 |.inl z1=>some (-1)
 |.inr z2=>some z2
def oz (k:Nat)(a0:List zC)(a1:Int):Option Int:=
 (XG k a0 a1).bind fun x0=>some x0
def PD (k:Nat)(a0:Int):Option Bool:=
 some (!(decide (a0=a0)))
def KM (k:Nat)(a0 a1:Int):Option Int:=
 (PD k a0).bind fun x0=>(PD k a1).bind fun x1=>bif x0 then (bif x1 then some 0 else some (-1)) else bif x1 then some 1 else bif decide (a0<a1) then some (-1) else bif decide (a0>a1) then some 1 else some 0
abbrev qJt:Type:=Int→AC→Int→Int→Option (Int⊕Int)
def yFp (k:Nat)(rec:qJt)(s3:Int)(s6:AC)(s7 s8:Int):Option (Int⊕Int):=
 bif decide (s8 < s7) then (bif zB s8 s6.length then (bif !(decide ((s6.getD s8.toNat 0)=s3)) then some (.inr (s6.getD s8.toNat 0)) else rec s3 s6 s7 (zA (s8+1))) else none) else some (.inl s3)
def KL (k:Nat):Nat→qJt
 |0,_,_,_,_=>none
 |n+1,s3,s6,s7,s8=>yFp k (KL k n) s3 s6 s7 s8
def PB (k:Nat)(a0:AC):Option Int:=
 (KL k k 0 a0 (a0.length:Int) 0).bind fun z=>match z with
 |.inl z1=>some z1
 |.inr z2=>some z2
def FP (k:Nat)(cm bh bE cz bT cg bW ik cB dz eL dA jk jl:Int):Option Int:=
 (KM k bh cB).bind fun x0=>(KM k bT dA).bind fun x1=>(PB k [x0,x1]).bind fun x2=>some x2
def xG (k:Nat)(a0:List zC):Option (List zC):=
 bif zL (0+a0.length) 56 then some a0 else none
abbrev PE (k:Nat)(a0:List zC)(a1:Int)(a2:List zC):Option (List zC):=ins 56 a0 a1 a2
abbrev qLi:Type:=(List zC)×Int×zC
abbrev yAy:Type:=List zC→Int→zC→Option qLi
def FT (k:Nat)(rec:yAy)(s0:List zC)(s6:Int)(b0:zC):Option qLi:=
 bif decide (s6 < (s0.length : Int)) then (bif zB s6 s0.length then ((FP k (s0.getD s6.toNat (0,0,0,0,0,0,0)).1 (s0.getD s6.toNat (0,0,0,0,0,0,0)).2.1 (s0.getD s6.toNat (0,0,0,0,0,0,0)).2.2.1 (s0.getD s6.toNat (0,0,0,0,0,0,0)).2.2.2.1 (s0.getD s6.toNat (0,0,0,0,0,0,0)).2.2.2.2.1 (s0.getD s6.toNat (0,0,0,0,0,0,0)).2.2.2.2.2.1 (s0.getD s6.toNat (0,0,0,0,0,0,0)).2.2.2.2.2.2 b0.1 b0.2.1 b0.2.2.1 b0.2.2.2.1 b0.2.2.2.2.1 b0.2.2.2.2.2.1 b0.2.2.2.2.2.2).bind fun x1=>bif decide (x1≤0) then(rec s0 (zA (s6+1)) b0) else some (s0,s6,b0)) else none) else some (s0,s6,b0)
def KP (k:Nat):Nat→yAy:=yD (fun _ _ _=>none) (FT k)
def xH (k:Nat)(a0:List zC)(a1:zC):Option ((List zC)×Int):=
 (oz k a0 a1.1).bind fun x0=>bif decide (x0≥0) then some (a0,6) else bif decide ((a0.length:Int)≥40) then some (a0,3)
 else(KP k k a0 0 a1).bind fun z=>(xG k z.1).bind fun x2=>(PE k x2 z.2.1 [z.2.2]).bind fun x3=>some (x3,0)
def P9 (k:Nat)(a0:jU)(a1:MZ):Option (Int×jU):=
 (vN k a1.2.1 0 (zA (a0.1-1))).bind fun x0=>bif !x0 then some (1,a0)
 else(vN k a1.2.2.2.1 1 3).bind fun x1=>bif !x1 then some (1,a0)
 else(GH k (yR a0) a0.2.2.2.2.2.1 (a1.1,a0.2.2.2.2.2.2.2.2.2.2.2.2.2.2.2.2.1,a1.2)).bind fun x2=>bif !(decide (x2=0)) then some (x2,a0)
 else(FZ k a0.2.2.2.2.2.2.2.2.2.2.2.2.2.1 a1.1).bind fun x3=>bif !(decide (x3.2=0)) then some (x3.2,a0)
 else(xH k a0.2.2.2.2.2.2.2.2.2.2.2.2.1 (a1.1,a0.2.2.2.2.2.2.2.2.2.2.2.2.2.2.2.2.1,a1.2)).bind fun x4=>bif !(decide (x4.2=0)) then some (x4.2,a0) else some (0,(ku a0 (x4.1,x3.1,a0.2.2.2.2.2.2.2.2.2.2.2.2.2.2)))
def qZm (k:Nat)(a0:jU)(a1:Int):Option (zC×Int):=
 (oz k a0.2.2.2.2.2.2.2.2.2.2.2.2.1 a1).bind fun x0=>bif decide (x0<0) then some ((0,0,0,0,0,0,0),4) else bif zB x0 a0.2.2.2.2.2.2.2.2.2.2.2.2.1.length then (bif !(decide ((a0.2.2.2.2.2.2.2.2.2.2.2.2.1.getD x0.toNat (0,0,0,0,0,0,0)).2.1=a0.2.2.2.2.2.2.2.2.2.2.2.2.2.2.2.2.1)) then some ((0,0,0,0,0,0,0),4) else bif zB x0 a0.2.2.2.2.2.2.2.2.2.2.2.2.1.length then some ((a0.2.2.2.2.2.2.2.2.2.2.2.2.1.getD x0.toNat (0,0,0,0,0,0,0)),0) else none) else none
def KK (k:Nat)(a0:List zC)(a1 a2:Int):Option (List zC):=
 bif ((((decide (0 ≤ a1)) && (decide (a1 ≤ a2))) && (decide (a2 ≤ (a0.length : Int)))) && (decide (((a2.toNat : Nat) : Int) ≤ (a0.length : Int)))) && (decide ((a0.length : Int) ≤ (a0.length : Int))) then (bif decide (a1=a2) then some a0 else bif (decide (0 ≤ a1)) && (decide (a1 ≤ (a0.length : Int))) then (bif (decide (0 ≤ a2)) && (decide (a2 ≤ (a0.length : Int))) then (bif Nat.ble (a1.toNat - 0) (0 + a2.toNat) then (let y0:List zC:=(((List.take (a1.toNat-0) a0)++(qR a0 (0+a2.toNat) (a0.length-a2.toNat)))++(List.drop ((a1.toNat-0)+(a0.length-a2.toNat)) a0))
     bif ((decide (0 ≤ ((qR y0 0 ((a1.toNat - 0) + (a0.length - a2.toNat))).length : Int))) && (decide (((qR y0 0 ((a1.toNat - 0) + (a0.length - a2.toNat))).length : Int) ≤ (a0.length : Int)))) && (decide ((a0.length : Int) ≤ (((y0.length - 0) : Nat) : Int))) then (let y1:List zC:=(((List.take (0+(qR y0 0 ((a1.toNat-0)+(a0.length-a2.toNat))).length) y0)++(List.replicate (a0.length-(qR y0 0 ((a1.toNat-0)+(a0.length-a2.toNat))).length) ((0,0,0,0,0,0,0):Int×Int×Int×Int×Int×Int×Int)))++(List.drop ((0+(qR y0 0 ((a1.toNat-0)+(a0.length-a2.toNat))).length)+(a0.length-(qR y0 0 ((a1.toNat-0)+(a0.length-a2.toNat))).length)) y0))
      some (List.take ((a1.toNat-0)+(a0.length-a2.toNat)) y1)) else none) else none) else none) else none) else none
def qy (k:Nat)(a0:List zC)(a1:Int):Option qZb:=
 (oz k a0 a1).bind fun x0=>bif decide (x0<0) then some (a0,0,0,0,0,0,0,0,4)
 else(xG k a0).bind fun x1=>(KK k x1 x0 (zA (x0+1))).bind fun x2=>bif zB x0 a0.length then some (x2,(gl (a0.getD x0.toNat (0,0,0,0,0,0,0)) 0)) else none
def uU (k:Nat)(a0:jU)(a1:Int)(a2:AC):Option jU:=
 bif zL (a0.2.2.2.2.2.2.2.2.2.2.2.2.2.2.2.2.2.length + 1) 64 then (let y0:List qE:=(a0.2.2.2.2.2.2.2.2.2.2.2.2.2.2.2.2.2++[(a0.2.2.2.2.2.2.2.2.2.2.2.2.2.2.2.2.1,a1,(bif (Nat.blt 0 a2.length) then(a2.getD 0 0) else 0),(bif (Nat.blt 1 a2.length) then(a2.getD 1 0) else 0),(bif (Nat.blt 2 a2.length) then(a2.getD 2 0) else 0),(bif (Nat.blt 3 a2.length) then(a2.getD 3 0) else 0),(bif (Nat.blt 4 a2.length) then(a2.getD 4 0) else 0),(bif (Nat.blt 5 a2.length) then(a2.getD 5 0) else 0))])
  some (yE a0 y0)) else none
def FU (k:Nat)(a0:List zC)(a1 a2:Int):Option ((List zC)×Int):=
 (qy k a0 a1).bind fun x0=>bif !(decide (x0.2.2.2.2.2.2.2.2=0)) then some (a0,x0.2.2.2.2.2.2.2.2)
 else(xH k x0.1 (iJ x0 (a2,x0.2.2.2.2.2.2.1,x0.2.2.2.2.2.2.2.1))).bind fun x1=>some (x1.1,x1.2)
def XP (k:Nat)(a0:List zC)(a1:Int):Option qZb:=
 (oz k a0 a1).bind fun x0=>bif decide (x0<0) then none
 else(xG k a0).bind fun x1=>(KK k x1 x0 (zA (x0+1))).bind fun x2=>bif zB x0 a0.length then some (x2,(gl (a0.getD x0.toNat (0,0,0,0,0,0,0)) 0)) else none
abbrev qKt:Type:=Int×(List zC)×zC
abbrev qLr:Type:=Int→List zC→zC→Option qKt
def FW (k:Nat)(rec:qLr)(s9:Int)(r0:List zC)(b1:zC):Option qKt:=
 bif decide (s9 < (r0.length : Int)) then (bif zB s9 r0.length then ((FP k (r0.getD s9.toNat (0,0,0,0,0,0,0)).1 (r0.getD s9.toNat (0,0,0,0,0,0,0)).2.1 (r0.getD s9.toNat (0,0,0,0,0,0,0)).2.2.1 (r0.getD s9.toNat (0,0,0,0,0,0,0)).2.2.2.1 (r0.getD s9.toNat (0,0,0,0,0,0,0)).2.2.2.2.1 (r0.getD s9.toNat (0,0,0,0,0,0,0)).2.2.2.2.2.1 (r0.getD s9.toNat (0,0,0,0,0,0,0)).2.2.2.2.2.2 b1.1 b1.2.1 b1.2.2.1 b1.2.2.2.1 b1.2.2.2.2.1 b1.2.2.2.2.2.1 b1.2.2.2.2.2.2).bind fun x1=>bif decide (x1<0) then(rec (zA (s9+1)) r0 b1) else some (s9,r0,b1)) else none) else some (s9,r0,b1)
def KS (k:Nat):Nat→qLr:=yD (fun _ _ _=>none) (FW k)
def FX (k:Nat)(a0:List zC)(a1:Int):Option ((List zC)×Int):=
 (XP k a0 a1).bind fun x0=>bif !(decide (x0.2.2.2.2.2.2.2.2=0)) then some (a0,x0.2.2.2.2.2.2.2.2)
 else(KS k k 0 x0.1 (Ru x0)).bind fun z=>(PE k z.2.1 z.1 [z.2.2]).bind fun x2=>some (x2,0)
def FV (k:Nat)(a0:List zC)(a1:Int):Option ((List zC)×Int):=
 (qy k a0 a1).bind fun x0=>bif !(decide (x0.2.2.2.2.2.2.2.2=0)) then some (a0,x0.2.2.2.2.2.2.2.2)
 else(xH k x0.1 (Ru x0)).bind fun x1=>some (x1.1,x1.2)
def xV (k:Nat)(a0:jU)(a1:zC):Option (Int×jU):=
 (qZm k a0 a1.2.1).bind fun x0=>bif !(decide (x0.2=0)) then some (x0.2,a0) else bif decide (a1.1 = 2) then ((qy k a0.2.2.2.2.2.2.2.2.2.2.2.2.1 a1.2.1).bind fun x1=>(uU k (ku a0 (x1.1,a0.2.2.2.2.2.2.2.2.2.2.2.2.2)) 20 [a1.2.1]).bind fun x2=>some (x1.2.2.2.2.2.2.2.2,x2)) else bif decide (a1.1 = 4) then ((vN k a1.2.2.1 1 3).bind fun x3=>bif !x3 then some (1,a0)
  else(B3 k (yR a0) a0.2.2.2.2.2.1 a1.2.2.1).bind fun x4=>bif !(decide (x4=0)) then some (x4,a0)
  else(FU k a0.2.2.2.2.2.2.2.2.2.2.2.2.1 a1.2.1 a1.2.2.1).bind fun x5=>some (x5.2,(ku a0 (x5.1,a0.2.2.2.2.2.2.2.2.2.2.2.2.2)))) else bif decide (a1.2.2.1 = 0) then ((FX k a0.2.2.2.2.2.2.2.2.2.2.2.2.1 a1.2.1).bind fun x6=>some (x6.2,(ku a0 (x6.1,a0.2.2.2.2.2.2.2.2.2.2.2.2.2)))) else bif decide (a1.2.2.1 = 1) then ((FV k a0.2.2.2.2.2.2.2.2.2.2.2.2.1 a1.2.1).bind fun x7=>some (x7.2,(ku a0 (x7.1,a0.2.2.2.2.2.2.2.2.2.2.2.2.2)))) else some (1,a0)
def WS (k:Nat)(a0:List zJ):Option (List zJ):=
 bif zL (0+a0.length) 24 then some a0 else none
def WR (k:Nat)(a0:EQ):Option Nat:=
 bif zL (0+a0.length) 24 then some a0.length else none
abbrev qKd:Type:=EQ→Int→Int→EQ→Nat→Option (EQ×Nat)
def EW (k:Nat)(rec:qKd)(s8:EQ)(s9 ax:Int)(m0:EQ)(n0:Nat):Option (EQ×Nat):=
 bif decide (ax < s9) then (bif zB ax s8.length then ((qt k (s8.getD ax.toNat [])).bind fun x1=>bif zB ax n0 then (bif Nat.beq ax.toNat m0.length then(rec s8 s9 (zA (ax+1)) (m0++[x1]) n0) else none) else none) else none) else some (m0,n0)
def J9 (k:Nat):Nat→qKd
 |0,_,_,_,_,_=>none
 |n+1,s8,s9,ax,m0,n0=>EW k (J9 k n) s8 s9 ax m0 n0
def Ka (k:Nat)(a0:EQ):Option EQ:=
 (WR k a0).bind fun x0=>(J9 k k a0 (a0.length:Int) 0 [] x0).bind fun z=>Vz z.1 z.2
def gI (k:Nat)(av:List zJ)(aA:EQ)(az:AC)(ay:EQ):Option zk:=
 (WS k av).bind fun x0=>(Ka k aA).bind fun x1=>(qt k az).bind fun x2=>(Ka k ay).bind fun x3=>some (x0,x1,x2,x3)
def qPl (k:Nat)(a0:jU)(a1:Int):Option Bool:=
 (vN k a1 0 (zA (a0.1-1))).bind fun x0=>bif x0 then some (!(decide (a1=a0.2.2.2.2.2.2.2.2.2.2.2.2.2.2.2.2.1))) else some false
def xW (k:Nat)(a0:jU)(a1:zC):Option (Int×jU):=
 (gI k a0.2.2.2.2.2.2.1 a0.2.2.2.2.2.2.2.1 a0.2.2.2.2.2.2.2.2.1 a0.2.2.2.2.2.2.2.2.2.1).bind fun x0=>bif decide (a1.1 = 5) then ((qPl k a0 a1.2.1).bind fun x1=>bif !x1 then some (1,a0)
  else(vN k a1.2.2.1 (-1) 1152921504606846976).bind fun x2=>bif !x2 then some (1,a0) else bif zB a0.2.2.2.2.2.2.2.2.2.2.2.2.2.2.2.2.1 x0.2.1.length then (bif zB a1.2.1 (x0.2.1.getD a0.2.2.2.2.2.2.2.2.2.2.2.2.2.2.2.2.1.toNat []).length then (let y0:EQ:=(x0.2.1.set a0.2.2.2.2.2.2.2.2.2.2.2.2.2.2.2.2.1.toNat ((x0.2.1.getD a0.2.2.2.2.2.2.2.2.2.2.2.2.2.2.2.2.1.toNat []).set a1.2.1.toNat a1.2.2.1))
    some (0,(jJ a0 (x0.1,y0,x0.2.2.1,x0.2.2.2,a0.2.2.2.2.2.2.2.2.2.2)))) else none) else none) else bif decide (a1.1 = 6) then ((vN k a1.2.1 (-1) 1152921504606846976).bind fun x3=>bif !x3 then some (1,a0) else bif zB a0.2.2.2.2.2.2.2.2.2.2.2.2.2.2.2.2.1 x0.2.2.1.length then (let y1:AC:=(x0.2.2.1.set a0.2.2.2.2.2.2.2.2.2.2.2.2.2.2.2.2.1.toNat a1.2.1)
   some (0,(jJ a0 (x0.1,x0.2.1,y1,x0.2.2.2,a0.2.2.2.2.2.2.2.2.2.2)))) else none)
 else(vN k a1.2.1 0 1152921504606846976).bind fun x4=>bif !x4 then some (1,a0) else bif zB a0.2.2.2.2.2.2.2.2.2.2.2.2.2.2.2.2.1 x0.1.length then (let y2:List zJ:=(x0.1.set a0.2.2.2.2.2.2.2.2.2.2.2.2.2.2.2.2.1.toNat ((x0.1.getD a0.2.2.2.2.2.2.2.2.2.2.2.2.2.2.2.2.1.toNat (0,0,0)).1,(x0.1.getD a0.2.2.2.2.2.2.2.2.2.2.2.2.2.2.2.2.1.toNat (0,0,0)).2.1,a1.2.1))
  some (0,(jJ a0 (y2,x0.2.1,x0.2.2.1,x0.2.2.2,a0.2.2.2.2.2.2.2.2.2.2)))) else none
def ME (k:Nat)(a0:jU)(a1:Int):Option Bool:=
 (vN k a1 0 (zA ((a0.2.1.length:Int)-1))).bind fun x0=>some x0
def GI (k:Nat)(a0:EQ):Option EQ:=
 bif zL (0+a0.length) 24 then some a0 else none
def rf (k:Nat)(a0:AC)(a1 a2:Int):Option AC:=
 (qt k a0).bind fun x0=>bif decide (a1 ≥ 0) then (bif decide (a1 < (x0.length : Int)) then (bif zB a1 x0.length then some (x0.set a1.toNat a2) else none) else some x0) else some x0
def XU (k:Nat)(a0:Int):Option Bool:=
 bif decide (a0≥0) then some (decide (a0≤10000)) else some false
def KU (k:Nat)(a0 a1:Int):Option wD:=
 some ((IntKind.wrap .u64 ((IntKind.wrap .u64 ((IntKind.wrap .u64 ((shr .u64 a0 32)*(shr .u64 a1 32)))+(shr .u64 (IntKind.wrap .u64 ((IntKind.wrap .u64 ((shr .u64 a0 32)*(yM .u64 a1 4294967295)))+(shr .u64 (IntKind.wrap .u64 ((yM .u64 a0 4294967295)*(yM .u64 a1 4294967295))) 32))) 32)))+(shr .u64 (IntKind.wrap .u64 ((yM .u64 (IntKind.wrap .u64 ((IntKind.wrap .u64 ((shr .u64 a0 32)*(yM .u64 a1 4294967295)))+(shr .u64 (IntKind.wrap .u64 ((yM .u64 a0 4294967295)*(yM .u64 a1 4294967295))) 32))) 4294967295)+(IntKind.wrap .u64 ((yM .u64 a0 4294967295)*(shr .u64 a1 32))))) 32))),(IntKind.wrap .u64 (a0*a1)))
def yQv (k:Nat)(a0:Int):Option Int:=
 bif decide (a0 ≥ 4294967296) then (bif decide ((shr .u64 a0 32) ≥ 65536) then (bif decide ((shr .u64 (shr .u64 a0 32) 16)≥256) then none else none) else bif decide ((shr .u64 a0 32)≥256) then none else none) else bif decide (a0 ≥ 65536) then (bif decide ((shr .u64 a0 16)≥256) then none else none) else bif decide (a0≥256) then none else none
def yOn (k:Nat)(a0:Int):Option Int:=
 (yQv k a0).bind fun x0=>some (zA (64-x0))
abbrev yBh:Type:=Int→Int→Int→Int→Int→Int→Int→Int→Int→Option qE
def yE6 (k:Nat)(rec:yBh)(s2 s8 s9 ax aR bC bH bb cd:Int):Option qE:=
 bif decide (bb ≥ 4294967296) then (bif decide ((IntKind.wrap .u64 (cd+s9))≥4294967296) then some (s2,s8,s9,ax,aR,bC,bH,(IntKind.wrap .u64 (bb-1))) else rec s2 s8 s9 ax aR bC bH (IntKind.wrap .u64 (bb-1)) (IntKind.wrap .u64 (cd+s9))) else bif decide ((IntKind.wrap .u64 (bb * ax)) > (IntKind.wrap .u64 ((IntKind.wrap .u64 (4294967296 * cd)) + bC))) then (bif decide ((IntKind.wrap .u64 (cd+s9))≥4294967296) then some (s2,s8,s9,ax,aR,bC,bH,(IntKind.wrap .u64 (bb-1))) else rec s2 s8 s9 ax aR bC bH (IntKind.wrap .u64 (bb-1)) (IntKind.wrap .u64 (cd+s9))) else some (s2,s8,s9,ax,aR,bC,bH,bb)
def qYu (k:Nat):Nat→yBh:=yD (fun _ _ _ _ _ _ _ _ _=>none) (yE6 k)
abbrev qN3:Type:=Int→Int→Int→Int→Int→Int→Int→Int→Int→Option MZ
def yVl (k:Nat)(rec:qN3)(s2 s8 s9 ax bH bb cd bo lv:Int):Option MZ:=
 bif decide (lv ≥ 4294967296) then (bif decide ((IntKind.wrap .u64 (cd+s9))≥4294967296) then some (s2,s8,bH,bb,bo,(IntKind.wrap .u64 (lv-1))) else rec s2 s8 s9 ax bH bb (IntKind.wrap .u64 (cd+s9)) bo (IntKind.wrap .u64 (lv-1))) else bif decide ((IntKind.wrap .u64 (lv * ax)) > (IntKind.wrap .u64 ((IntKind.wrap .u64 (4294967296 * cd)) + bH))) then (bif decide ((IntKind.wrap .u64 (cd+s9))≥4294967296) then some (s2,s8,bH,bb,bo,(IntKind.wrap .u64 (lv-1))) else rec s2 s8 s9 ax bH bb (IntKind.wrap .u64 (cd+s9)) bo (IntKind.wrap .u64 (lv-1))) else some (s2,s8,bH,bb,bo,lv)
def qNs (k:Nat):Nat→qN3:=yD (fun _ _ _ _ _ _ _ _ _=>none) (yVl k)
def PK (k:Nat)(a0 a1 a2:Int):Option wD:=
 bif decide (a2=0) then none else bif decide (a2≤a0) then none else bif decide (a0 = 0) then (bif !(decide (a2 = 0)) then (bif !(decide (a2=0)) then some ((IntKind.wrap .u64 (Int.tdiv a1 a2)),(Int.tmod a1 a2)) else none) else none)
 else(yOn k a2).bind fun x0=>bif !(decide ((IntKind.wrap .u64 (x0)) < 0)) then (bif !(decide ((IntKind.wrap .u64 (x0)) < 0)) then (bif !(decide ((IntKind.wrap .u64 (64 - (IntKind.wrap .u64 (x0)))) < 0)) then (bif !(decide ((IntKind.wrap .u64 (x0)) < 0)) then (bif !(decide ((shr .u64 (shl .u64 a2 (IntKind.wrap .u64 (x0))) 32) = 0)) then ((qYu k k (shl .u64 a2 (IntKind.wrap .u64 (x0))) (IntKind.wrap .u64 (x0)) (shr .u64 (shl .u64 a2 (IntKind.wrap .u64 (x0))) 32) (yM .u64 (shl .u64 a2 (IntKind.wrap .u64 (x0))) 4294967295) (wG .u64 (shl .u64 a0 (IntKind.wrap .u64 (x0))) (shr .u64 a1 (IntKind.wrap .u64 (64-(IntKind.wrap .u64 (x0)))))) (shr .u64 (shl .u64 a1 (IntKind.wrap .u64 (x0))) 32) (yM .u64 (shl .u64 a1 (IntKind.wrap .u64 (x0))) 4294967295) (IntKind.wrap .u64 (Int.tdiv (wG .u64 (shl .u64 a0 (IntKind.wrap .u64 (x0))) (shr .u64 a1 (IntKind.wrap .u64 (64-(IntKind.wrap .u64 (x0)))))) (shr .u64 (shl .u64 a2 (IntKind.wrap .u64 (x0))) 32))) (IntKind.wrap .u64 ((wG .u64 (shl .u64 a0 (IntKind.wrap .u64 (x0))) (shr .u64 a1 (IntKind.wrap .u64 (64-(IntKind.wrap .u64 (x0))))))-(IntKind.wrap .u64 ((IntKind.wrap .u64 (Int.tdiv (wG .u64 (shl .u64 a0 (IntKind.wrap .u64 (x0))) (shr .u64 a1 (IntKind.wrap .u64 (64-(IntKind.wrap .u64 (x0)))))) (shr .u64 (shl .u64 a2 (IntKind.wrap .u64 (x0))) 32)))*(shr .u64 (shl .u64 a2 (IntKind.wrap .u64 (x0))) 32)))))).bind fun z=>bif !(decide (z.2.2.1 = 0)) then ((qNs k k z.1 z.2.1 z.2.2.1 z.2.2.2.1 z.2.2.2.2.2.2.1 z.2.2.2.2.2.2.2 (IntKind.wrap .u64 ((IntKind.wrap .u64 ((IntKind.wrap .u64 ((IntKind.wrap .u64 (z.2.2.2.2.1*4294967296))+z.2.2.2.2.2.1))-(IntKind.wrap .u64 (z.2.2.2.2.2.2.2*z.1))))-(IntKind.wrap .u64 ((IntKind.wrap .u64 (Int.tdiv (IntKind.wrap .u64 ((IntKind.wrap .u64 ((IntKind.wrap .u64 (z.2.2.2.2.1*4294967296))+z.2.2.2.2.2.1))-(IntKind.wrap .u64 (z.2.2.2.2.2.2.2*z.1)))) z.2.2.1))*z.2.2.1)))) (IntKind.wrap .u64 ((IntKind.wrap .u64 ((IntKind.wrap .u64 (z.2.2.2.2.1*4294967296))+z.2.2.2.2.2.1))-(IntKind.wrap .u64 (z.2.2.2.2.2.2.2*z.1)))) (IntKind.wrap .u64 (Int.tdiv (IntKind.wrap .u64 ((IntKind.wrap .u64 ((IntKind.wrap .u64 (z.2.2.2.2.1*4294967296))+z.2.2.2.2.2.1))-(IntKind.wrap .u64 (z.2.2.2.2.2.2.2*z.1)))) z.2.2.1))).bind fun z1=>bif !(decide (z1.2.1<0)) then some ((IntKind.wrap .u64 ((IntKind.wrap .u64 (z1.2.2.2.1*4294967296))+z1.2.2.2.2.2)),(shr .u64 (IntKind.wrap .u64 ((IntKind.wrap .u64 ((IntKind.wrap .u64 (z1.2.2.2.2.1*4294967296))+z1.2.2.1))-(IntKind.wrap .u64 (z1.2.2.2.2.2*z1.1)))) z1.2.1)) else none) else none) else none) else none) else none) else none) else none
def PM (k:Nat)(a0 a1 a2:Int):Option fD:=
 bif decide (a0<0) then some (0,false) else bif decide (a1<0) then some (0,false)
 else(XU k a2).bind fun x0=>bif !x0 then some (0,false)
 else(KU k (IntKind.wrap .u64 (a0)) (IntKind.wrap .u64 (a1))).bind fun x1=>(PK k (Int.tmod x1.1 10000) x1.2 10000).bind fun x2=>(KU k x2.1 (IntKind.wrap .u64 ((zA (10000-a2))))).bind fun x3=>(En k x3.2 (IntKind.wrap .u64 (Int.tdiv (IntKind.wrap .u64 (x2.2*(IntKind.wrap .u64 ((zA (10000-a2)))))) 10000)) 0).bind fun x4=>bif decide ((IntKind.wrap .u64 (Int.tdiv x1.1 10000)) > 0) then (bif decide ((IntKind.wrap .u64 ((zA (10000-a2))))>0) then some (0,false) else bif decide ((IntKind.wrap .u64 (x3.1+x4.2))>0) then some (0,false) else bif decide (x4.1>9223372036854775807) then some (0,false) else some ((zA (x4.1)),true)) else bif decide ((IntKind.wrap .u64 (x3.1+x4.2))>0) then some (0,false) else bif decide (x4.1>9223372036854775807) then some (0,false) else some ((zA (x4.1)),true)
abbrev qQt:Type:=Int→Int→AC→Int→Int→Option wD
def F2 (k:Nat)(rec:qQt)(s4 s5:Int)(s9:AC)(ax aR:Int):Option wD:=
 bif decide (aR < ax) then (bif zB aR s9.length then ((En k s5 (IntKind.wrap .u64 ((s9.getD aR.toNat 0))) 0).bind fun x0=>rec (zA (s4+(zA ((shr .i64 (s9.getD aR.toNat 0) 63)+(zA (x0.2)))))) x0.1 s9 ax (zA (aR+1))) else none) else some (s4,s5)
def F1 (k:Nat):Nat→qQt
 |0,_,_,_,_,_=>none
 |n+1,s4,s5,s9,ax,aR=>F2 k (F1 k n) s4 s5 s9 ax aR
def F0 (k:Nat)(a0:AC):Option fD:=
 (F1 k k 0 0 a0 (a0.length:Int) 0).bind fun z=>bif !(decide (z.1=(shr .i64 (zA (z.2)) 63))) then some (0,false) else some ((zA (z.2)),true)
abbrev qL1:Type:=AC→AC→List wD→Int→Int→AC→Option (AC⊕fD)
def F5 (k:Nat)(rec:qL1)(s1 s2:AC)(kx:List wD)(aW fW:Int)(r0:AC):Option (AC⊕fD):=
 bif decide (fW < aW) then (bif zB fW kx.length then (bif zB fW s1.length then (bif zB fW s2.length then ((PM k (s1.getD fW.toNat 0) (s2.getD fW.toNat 0) (kx.getD fW.toNat (0,0)).2).bind fun x0=>bif !x0.2 then some (.inr (0,false)) else bif zL (r0.length+1) 8 then(rec s1 s2 kx aW (zA (fW+1)) (r0++[x0.1])) else none) else none) else none) else none) else some (.inl r0)
def F4 (k:Nat):Nat→qL1:=yD (fun _ _ _ _ _ _=>none) (F5 k)
def sZ (k:Nat)(a0:List wD)(a1 a2:AC):Option fD:=
 bif !(decide ((a1.length:Int)=(a0.length:Int))) then some (0,false) else bif !(decide ((a2.length:Int)=(a0.length:Int))) then some (0,false)
 else(F4 k k a1 a2 a0 (a0.length:Int) 0 []).bind fun z=>match z with
 |.inl z1=>(F0 k z1).bind fun x1=>some (x1.1,x1.2)
 |.inr z2=>some (z2.1,z2.2)
def Qa (k:Nat)(a0:jU)(a1 a2:Int):Option (Int×jU):=
 (ME k a0 a1).bind fun x0=>bif !x0 then some (1,a0)
 else(vN k a2 0 1099511627776).bind fun x1=>bif !x1 then some (1,a0)
 else(GI k a0.2.2.2.2.2.2.2.2.2.2.2.1).bind fun x2=>bif zB a0.2.2.2.2.2.2.2.2.2.2.2.2.2.2.2.2.1 x2.length then ((rf k (x2.getD a0.2.2.2.2.2.2.2.2.2.2.2.2.2.2.2.2.1.toNat []) a1 a2).bind fun x3=>bif zB a0.2.2.2.2.2.2.2.2.2.2.2.2.2.2.2.2.1 x2.length then (let y0:EQ:=(x2.set a0.2.2.2.2.2.2.2.2.2.2.2.2.2.2.2.2.1.toNat x3)
   bif zB a0.2.2.2.2.2.2.2.2.2.2.2.2.2.2.2.2.1 y0.length then ((sZ k a0.2.1 a0.2.2.2.2.2.2.2.2.2.2.1 (y0.getD a0.2.2.2.2.2.2.2.2.2.2.2.2.2.2.2.2.1.toNat [])).bind fun x4=>bif zB a0.2.2.2.2.2.2.2.2.2.2.2.2.2.2.2.2.1 a0.2.2.2.2.2.2.1.length then (bif !x4.2 then some (8,a0) else bif decide (x4.1>1152921504606846976) then some (8,a0) else bif decide (x4.1 < (a0.2.2.2.2.2.2.1.getD a0.2.2.2.2.2.2.2.2.2.2.2.2.2.2.2.2.1.toNat (0, 0, 0)).2.1) then (bif decide ((zA ((a0.2.2.2.2.2.2.1.getD a0.2.2.2.2.2.2.2.2.2.2.2.2.2.2.2.2.1.toNat (0,0,0)).1+x4.1))<0) then some (9,a0)
      else(gI k a0.2.2.2.2.2.2.1 a0.2.2.2.2.2.2.2.1 a0.2.2.2.2.2.2.2.2.1 a0.2.2.2.2.2.2.2.2.2.1).bind fun x5=>bif zB a0.2.2.2.2.2.2.2.2.2.2.2.2.2.2.2.2.1 x5.1.length then (let y1:List zJ:=(x5.1.set a0.2.2.2.2.2.2.2.2.2.2.2.2.2.2.2.2.1.toNat ((x5.1.getD a0.2.2.2.2.2.2.2.2.2.2.2.2.2.2.2.2.1.toNat (0,0,0)).1,x4.1,(x5.1.getD a0.2.2.2.2.2.2.2.2.2.2.2.2.2.2.2.2.1.toNat (0,0,0)).2.2))
       some (0,(jJ a0 (y1,x5.2.1,x5.2.2.1,x5.2.2.2,a0.2.2.2.2.2.2.2.2.2.2.1,y0,a0.2.2.2.2.2.2.2.2.2.2.2.2)))) else none)
     else(gI k a0.2.2.2.2.2.2.1 a0.2.2.2.2.2.2.2.1 a0.2.2.2.2.2.2.2.2.1 a0.2.2.2.2.2.2.2.2.2.1).bind fun x6=>bif zB a0.2.2.2.2.2.2.2.2.2.2.2.2.2.2.2.2.1 x6.1.length then (let y2:List zJ:=(x6.1.set a0.2.2.2.2.2.2.2.2.2.2.2.2.2.2.2.2.1.toNat ((x6.1.getD a0.2.2.2.2.2.2.2.2.2.2.2.2.2.2.2.2.1.toNat (0,0,0)).1,x4.1,(x6.1.getD a0.2.2.2.2.2.2.2.2.2.2.2.2.2.2.2.2.1.toNat (0,0,0)).2.2))
      some (0,(jJ a0 (y2,x6.2.1,x6.2.2.1,x6.2.2.2,a0.2.2.2.2.2.2.2.2.2.2.1,y0,a0.2.2.2.2.2.2.2.2.2.2.2.2)))) else none) else none) else none) else none) else none
def Qb (k:Nat)(a0 a1:Int):Option fD:=
 bif decide (a1 > 0) then (bif decide (a0>(zA (9223372036854775807-a1))) then some (0,false) else bif decide (a1 < 0) then (bif decide (a0<(zA ((-9223372036854775808)-a1))) then some (0,false) else some ((zA (a0+a1)),true)) else some ((zA (a0+a1)),true)) else bif decide (a1 < 0) then (bif decide (a0<(zA ((-9223372036854775808)-a1))) then some (0,false) else some ((zA (a0+a1)),true)) else some ((zA (a0+a1)),true)
def OO (k:Nat)(bz bI aU:Int):Option Bool:=
 bif decide (bz > (-4611686018427387904)) then (bif decide (bz < 4611686018427387904) then (bif decide (bI ≥ 0) then (bif decide (bI ≤ 2305843009213693952) then (bif decide (aU≥0) then some (decide (aU≤2305843009213693952)) else some false) else some false) else some false) else some false) else some false
def Lh (k:Nat)(a0:zJ)(a1:Int):Option (zJ×Int):=
 (Qb k a0.1 a1).bind fun x0=>bif !x0.2 then some (a0,8)
 else(OO k x0.1 a0.2.1 a0.2.2).bind fun x1=>bif !x1 then some (a0,8) else some ((x0.1,a0.2),0)
def GZ (k:Nat)(a0:zJ)(a1:Int):Option (zJ×Int):=
 (Lh k a0 a1).bind fun x0=>some (x0.1,x0.2)
def xB (k:Nat)(bz bI aU a1:Int):Option Int:=
 some (wR false (zA (aU-a1)) 0)
def G0 (k:Nat)(a0:zJ)(a1 a2:Int):Option (zJ×Int):=
 (Lh k a0 (zA (0-a1))).bind fun x0=>bif decide (x0.2 = 0) then (bif decide (a2 = 1) then ((xB k a0.1 a0.2.1 a0.2.2 a1).bind fun x1=>some ((x0.1.1,x0.1.2.1,x1),x0.2)) else bif decide (a2 = 2) then ((xB k a0.1 a0.2.1 a0.2.2 a1).bind fun x2=>some ((x0.1.1,x0.1.2.1,x2),x0.2)) else some (x0.1,x0.2)) else some (x0.1,x0.2)
def G1 (k:Nat)(a0:zJ)(a1:Int):Option Int:=
 bif decide (a1=3) then some (zA ((zA (a0.1+a0.2.1))-a0.2.2)) else some (zA (a0.1+a0.2.1))
def qZ4 (k:Nat)(a0:jU)(a1 a2 a3:Int):Option (Int×jU):=
 (vN k a2 0 (zA (a0.1-1))).bind fun x0=>bif !x0 then some (1,a0)
 else(vN k a3 1 1099511627776).bind fun x1=>bif !x1 then some (1,a0) else bif zB a2 a0.2.2.2.2.2.2.1.length then ((GZ k (a0.2.2.2.2.2.2.1.getD a2.toNat (0,0,0)) a3).bind fun x2=>bif decide (a1 = 11) then ((G0 k (a0.2.2.2.2.2.2.1.getD a2.toNat (0,0,0)) a3 3).bind fun x3=>(G1 k (a0.2.2.2.2.2.2.1.getD a2.toNat (0,0,0)) 3).bind fun x4=>bif decide (x4<a3) then some (9,a0) else bif decide ((zA (a0.2.2.2.2.2.2.2.2.2.2.2.2.2.2.1-a3))<0) then some (9,a0) else bif !(decide (x3.2=0)) then some (x3.2,a0) else bif decide ((zA (a0.2.2.2.2.2.2.2.2.2.2.2.2.2.2.1-a3))>1152921504606846976) then some (8,a0)
   else(gI k a0.2.2.2.2.2.2.1 a0.2.2.2.2.2.2.2.1 a0.2.2.2.2.2.2.2.2.1 a0.2.2.2.2.2.2.2.2.2.1).bind fun x5=>bif zB a2 x5.1.length then some (0,(jJ a0 ((x5.1.set a2.toNat x3.1),x5.2.1,x5.2.2.1,x5.2.2.2,(Im a0 ((zA (a0.2.2.2.2.2.2.2.2.2.2.2.2.2.2.1-a3)),a0.2.2.2.2.2.2.2.2.2.2.2.2.2.2.2))))) else none) else bif !(decide (x2.2=0)) then some (x2.2,a0) else bif decide ((zA (a0.2.2.2.2.2.2.2.2.2.2.2.2.2.2.1+a3))>1152921504606846976) then some (8,a0)
  else(gI k a0.2.2.2.2.2.2.1 a0.2.2.2.2.2.2.2.1 a0.2.2.2.2.2.2.2.2.1 a0.2.2.2.2.2.2.2.2.2.1).bind fun x6=>bif zB a2 x6.1.length then some (0,(jJ a0 ((x6.1.set a2.toNat x2.1),x6.2.1,x6.2.2.1,x6.2.2.2,(Im a0 ((zA (a0.2.2.2.2.2.2.2.2.2.2.2.2.2.2.1+a3)),a0.2.2.2.2.2.2.2.2.2.2.2.2.2.2.2))))) else none) else none
abbrev qM9:Type:=(lR×(List qE)×AC×(List zJ)×EQ×AC×EQ)⊕(Int×lR×(List qE))
abbrev qMu:Type:=EQ→Int→Int→lR→List qE→AC→List zJ→EQ→AC→EQ→Option qM9
def yM6 (k:Nat)(rec:qMu)(gQ:EQ)(jq lz:Int)(b0:lR)(r1:List qE)(r2:AC)(r4:List zJ)(m5:EQ)(r6:AC)(m7:EQ):Option qM9:=
 bif decide (lz < jq) then (bif zB lz gQ.length then ((sZ k b0.2.1 r2 (gQ.getD lz.toNat [])).bind fun x4=>bif !x4.2 then some (.inr (8,b0,r1)) else bif decide (x4.1>1152921504606846976) then some (.inr (8,b0,r1)) else bif zB lz r4.length then (let y0:List zJ:=(r4.set lz.toNat ((r4.getD lz.toNat (0,0,0)).1,x4.1,(r4.getD lz.toNat (0,0,0)).2.2))
    rec gQ jq (zA (lz+1)) b0 r1 r2 y0 m5 r6 m7) else none) else none) else some (.inl (b0,r1,r2,r4,m5,r6,m7))
def qK7 (k:Nat):Nat→qMu:=yD (fun _ _ _ _ _ _ _ _ _ _=>none) (yM6 k)
def yR2 (k:Nat)(a0:jU)(a1 a2:Int):Option (Int×jU):=
 (ME k a0 a1).bind fun x0=>bif !x0 then some (1,a0)
 else(vN k a2 0 1048576).bind fun x1=>bif !x1 then some (1,a0)
 else(rf k a0.2.2.2.2.2.2.2.2.2.2.1 a1 a2).bind fun x2=>(gI k a0.2.2.2.2.2.2.1 a0.2.2.2.2.2.2.2.1 a0.2.2.2.2.2.2.2.2.1 a0.2.2.2.2.2.2.2.2.2.1).bind fun x3=>(qK7 k k a0.2.2.2.2.2.2.2.2.2.2.2.1 (a0.2.2.2.2.2.2.2.2.2.2.2.1.length:Int) 0 (lP a0) a0.2.2.2.2.2.2.2.2.2.2.2.2.2.2.2.2.2 x2 x3.1 x3.2.1 x3.2.2.1 x3.2.2.2).bind fun z=>match z with
 |.inl z1=>some (0,(jJ z1.1 (vXo z1 (z1.2.2.1,(YY z1.1 z1.2.1)))))
 |.inr z2=>some (z2.1,(vU z2.2.1 z2.2.2))
def Hu (k:Nat)(a0:jU)(a1:zC):Option (Int×jU):=
 bif decide (a1.1 = 1) then ((P9 k a0 a1.2).bind fun x0=>some (x0.1,x0.2)) else bif decide (a1.1 = 2) then ((xV k a0 a1).bind fun x1=>some (x1.1,x1.2)) else bif decide (a1.1 = 3) then ((xV k a0 a1).bind fun x2=>some (x2.1,x2.2)) else bif decide (a1.1 = 4) then ((xV k a0 a1).bind fun x3=>some (x3.1,x3.2)) else bif decide (a1.1 = 5) then ((xW k a0 a1).bind fun x4=>some (x4.1,x4.2)) else bif decide (a1.1 = 6) then ((xW k a0 a1).bind fun x5=>some (x5.1,x5.2)) else bif decide (a1.1 = 7) then ((xW k a0 a1).bind fun x6=>some (x6.1,x6.2)) else bif decide (a1.1 = 8) then ((Qa k a0 a1.2.1 a1.2.2.1).bind fun x7=>some (x7.1,x7.2)) else bif decide (a1.1 = 10) then ((qZ4 k a0 a1.1 a1.2.1 a1.2.2.1).bind fun x8=>some (x8.1,x8.2)) else bif decide (a1.1 = 11) then ((qZ4 k a0 a1.1 a1.2.1 a1.2.2.1).bind fun x9=>some (x9.1,x9.2)) else bif decide (a1.1 = 12) then ((yR2 k a0 a1.2.1 a1.2.2.1).bind fun bZ=>some (bZ.1,bZ.2)) else some (0,a0)
def B2 (k:Nat)(dm:Int)(dV:List wD)(dW dp cn a1:Int):Option Bool:=
 some (decide (a1=dp))
def rp (k:Nat)(a0 a1:Int)(a2:AC):Option qE:=
 some (a0,a1,(bif (Nat.blt 0 a2.length) then(a2.getD 0 0) else 0),(bif (Nat.blt 1 a2.length) then(a2.getD 1 0) else 0),(bif (Nat.blt 2 a2.length) then(a2.getD 2 0) else 0),(bif (Nat.blt 3 a2.length) then(a2.getD 3 0) else 0),(bif (Nat.blt 4 a2.length) then(a2.getD 4 0) else 0),(bif (Nat.blt 5 a2.length) then(a2.getD 5 0) else 0))
abbrev qLk:Type:=Int×(List zJ)×EQ×AC×EQ×AC×EQ×(List zC)×AC×Int×Bool×Int×Int×Bool×(List qE)
abbrev qQh:Type:=List zC→Int→Int→Int→List zJ→EQ→AC→EQ→AC→EQ→List zC→AC→Int→Bool→Int→Int→Bool→List qE→Option qLk
def Gz (k:Nat)(rec:qQh)(ax:List zC)(aR bB af:Int)(ai:List zJ)(aj:EQ)(ah:AC)(aY:EQ)(bq:AC)(bx:EQ)(dX:List zC)(dY:AC)(dZ:Int)(cf:Bool)(aw bJ:Int)(aV:Bool)(r2:List qE):Option qLk:=
 bif decide (bB < aR) then (bif zB bB ax.length then ((rp k (ax.getD bB.toNat (0,0,0,0,0,0,0)).2.1 22 [(ax.getD bB.toNat (0,0,0,0,0,0,0)).1]).bind fun x0=>bif zL (r2.length+1) 64 then(rec ax aR (zA (bB+1)) af ai aj ah aY bq bx dX dY dZ cf aw bJ aV (r2++[x0])) else none) else none) else some (af,ai,aj,ah,aY,bq,bx,dX,dY,dZ,cf,aw,bJ,aV,r2)
def Gy (k:Nat):Nat→qQh
 |0,_,_,_,_,_,_,_,_,_,_,_,_,_,_,_,_,_,_=>none
 |n+1,ax,aR,bB,af,ai,aj,ah,aY,bq,bx,dX,dY,dZ,cf,aw,bJ,aV,r2=>Gz k (Gy k n) ax aR bB af ai aj ah aY bq bx dX dY dZ cf aw bJ aV r2
abbrev yBe:Type:=List zJ→Int→Int→Int→List zJ→EQ→AC→EQ→AC→EQ→List zC→AC→Int→Bool→Int→Int→Bool→List qE→Option qLk
def GB (k:Nat)(rec:yBe)(lT:List zJ)(fY mN af:Int)(ai:List zJ)(aj:EQ)(ah:AC)(aY:EQ)(bq:AC)(bx:EQ)(dX:List zC)(dY:AC)(dZ:Int)(cf:Bool)(aw bJ:Int)(aV:Bool)(r2:List qE):Option qLk:=
 bif decide (mN < fY) then (bif zB mN lT.length then ((rp k mN 23 [(lT.getD mN.toNat (0,0,0)).1]).bind fun x1=>bif zL (r2.length+1) 64 then(rec lT fY (zA (mN+1)) af ai aj ah aY bq bx dX dY dZ cf aw bJ aV (r2++[x1])) else none) else none) else some (af,ai,aj,ah,aY,bq,bx,dX,dY,dZ,cf,aw,bJ,aV,r2)
def Ld (k:Nat):Nat→yBe
 |0,_,_,_,_,_,_,_,_,_,_,_,_,_,_,_,_,_,_=>none
 |n+1,lT,fY,mN,af,ai,aj,ah,aY,bq,bx,dX,dY,dZ,cf,aw,bJ,aV,r2=>GB k (Ld k n) lT fY mN af ai aj ah aY bq bx dX dY dZ cf aw bJ aV r2
def P7 (k:Nat)(mJ:Int)(rD:List zJ)(rE:EQ)(rF:AC)(rG:EQ)(rH:AC)(rI:EQ)(mK:List zC)(rJ:AC)(rK:Int)(rL:Bool):Option Sx:=
 (Gy k k mK (mK.length:Int) 0 mJ rD rE rF rG rH rI mK rJ rK rL 0 0 false []).bind fun z=>(Ld k k z.2.1 (z.2.1.length:Int) 0 z.1 z.2.1 z.2.2.1 z.2.2.2.1 z.2.2.2.2.1 z.2.2.2.2.2.1 z.2.2.2.2.2.2.1 z.2.2.2.2.2.2.2.1 z.2.2.2.2.2.2.2.2.1 z.2.2.2.2.2.2.2.2.2.1 z.2.2.2.2.2.2.2.2.2.2.1 z.2.2.2.2.2.2.2.2.2.2.2.1 z.2.2.2.2.2.2.2.2.2.2.2.2.1 z.2.2.2.2.2.2.2.2.2.2.2.2.2.1 z.2.2.2.2.2.2.2.2.2.2.2.2.2.2).bind fun z1=>some (kl z1 ([],z1.2.2.2.2.2.2.2.2.1,z1.2.2.2.2.2.2.2.2.2.1,true,z1.2.2.2.2.2.2.2.2.2.2.2.2.2.2))
def Yp (k:Nat)(cm bh bE cz bT cg bW a1:Int):Option Bool:=
 some (decide (a1>bW))
def GG (k:Nat)(dm:Int)(dV:List wD)(dW dp cn a1:Int):Option Bool:=
 bif decide (a1 > 0) then (bif decide (a1 < dp) then (bif !(decide (cn=0)) then some (decide ((Int.tmod a1 cn)=0)) else none) else some false) else some false
def Xr (k:Nat)(cm bh bE cz bT cg bW a1:Int):Option Bool:=
 bif decide (a1≥cg) then some (decide (a1≤bW)) else some false
def Xq (k:Nat)(cm bh bE cz bT cg bW a1:Int):Option Bool:=
 (Xr k cm bh bE cz bT cg bW a1).bind fun x0=>some x0
def FB (k:Nat)(rec:qMq)(s8:List zC)(s9 ax af:Int)(r1:List zC):Option yCb:=
 bif decide (ax < s9) then (bif zB ax s8.length then ((Xq k (s8.getD ax.toNat (0,0,0,0,0,0,0)).1 (s8.getD ax.toNat (0,0,0,0,0,0,0)).2.1 (s8.getD ax.toNat (0,0,0,0,0,0,0)).2.2.1 (s8.getD ax.toNat (0,0,0,0,0,0,0)).2.2.2.1 (s8.getD ax.toNat (0,0,0,0,0,0,0)).2.2.2.2.1 (s8.getD ax.toNat (0,0,0,0,0,0,0)).2.2.2.2.2.1 (s8.getD ax.toNat (0,0,0,0,0,0,0)).2.2.2.2.2.2 af).bind fun x0=>bif x0 then (bif zL (r1.length + 1) 56 then (let y0:List zC:=(r1++[(s8.getD ax.toNat (0,0,0,0,0,0,0))])
     rec s8 s9 (zA (ax+1)) af y0) else none) else rec s8 s9 (zA (ax+1)) af r1) else none) else some r1
def KD (k:Nat):Nat→qMq
 |0,_,_,_,_,_=>none
 |n+1,s8,s9,ax,af,r1=>FB k (KD k n) s8 s9 ax af r1
def Xp (k:Nat)(a0:List zC)(cZ:Int):Option (List zC):=
 (KD k k a0 (a0.length:Int) 0 cZ []).bind fun z=>some z
def FA (k:Nat)(a0:List zC)(a1:Int):Option (List zC):=
 (Xp k a0 a1).bind fun x0=>some x0
def Xw (k:Nat)(cm bh bE cz bT cg bW ik cB dz eL dA jk jl:Int):Option Bool:=
 bif decide (bh=cB) then some (!(decide (bT=3))) else some false
abbrev qXu:Type:=List zC→Int→Int→Int→Int→Int→Int→Int→Int→Int→Option (Unit⊕Int)
def FI (k:Nat)(rec:qXu)(s0:List zC)(s7 s8 af ai aj ah aY bq bx:Int):Option (Unit⊕Int):=
 bif decide (s8 < s7) then (bif zB s8 s0.length then ((Xw k (s0.getD s8.toNat (0,0,0,0,0,0,0)).1 (s0.getD s8.toNat (0,0,0,0,0,0,0)).2.1 (s0.getD s8.toNat (0,0,0,0,0,0,0)).2.2.1 (s0.getD s8.toNat (0,0,0,0,0,0,0)).2.2.2.1 (s0.getD s8.toNat (0,0,0,0,0,0,0)).2.2.2.2.1 (s0.getD s8.toNat (0,0,0,0,0,0,0)).2.2.2.2.2.1 (s0.getD s8.toNat (0,0,0,0,0,0,0)).2.2.2.2.2.2 af ai aj ah aY bq bx).bind fun x0=>bif x0 then some (.inr s8) else rec s0 s7 (zA (s8+1)) af ai aj ah aY bq bx) else none) else some (.inl ())
def KI (k:Nat):Nat→qXu
 |0,_,_,_,_,_,_,_,_,_,_=>none
 |n+1,s0,s7,s8,af,ai,aj,ah,aY,bq,bx=>FI k (KI k n) s0 s7 s8 af ai aj ah aY bq bx
def Xx (k:Nat)(a0:List zC)(mO gm mP dC eM eN gn:Int):Option Int:=
 (KI k k a0 (a0.length:Int) 0 mO gm mP dC eM eN gn).bind fun z=>match z with
 |.inl z1=>some (-1)
 |.inr z2=>some z2
def Pw (k:Nat)(a0:List zC)(mO gm mP dC eM eN gn:Int):Option Bool:=
 (Xx k a0 mO gm mP dC eM eN gn).bind fun x0=>some (decide (x0≥0))
def XA (k:Nat)(cm bh bE cz bT cg bW:Int)(a1:List fD)(a2:List zC):Option (Bool×(List fD)):=
 bif !(Option.getD (List.lookup bh a1) false) then some (true,((bh,true)::a1)) else bif decide (bT = 3) then ((Pw k a2 cm bh bE cz bT cg bW).bind fun x0=>some ((!x0),((bh,true)::a1))) else some (false,((bh,true)::a1))
abbrev qJg:Type:=(List fD)×(List zC)×(List zC)
abbrev qT8:Type:=List zC→Int→Int→List fD→List zC→List zC→Option qJg
def FK (k:Nat)(rec:qT8)(s8:List zC)(s9 ax:Int)(p1:List fD)(ba r3:List zC):Option qJg:=
 bif decide (ax < s9) then (bif zB ax s8.length then ((XA k (s8.getD ax.toNat (0,0,0,0,0,0,0)).1 (s8.getD ax.toNat (0,0,0,0,0,0,0)).2.1 (s8.getD ax.toNat (0,0,0,0,0,0,0)).2.2.1 (s8.getD ax.toNat (0,0,0,0,0,0,0)).2.2.2.1 (s8.getD ax.toNat (0,0,0,0,0,0,0)).2.2.2.2.1 (s8.getD ax.toNat (0,0,0,0,0,0,0)).2.2.2.2.2.1 (s8.getD ax.toNat (0,0,0,0,0,0,0)).2.2.2.2.2.2 p1 ba).bind fun x0=>bif x0.1 then (bif zL (r3.length + 1) 56 then (let y0:List zC:=(r3++[(s8.getD ax.toNat (0,0,0,0,0,0,0))])
     rec s8 s9 (zA (ax+1)) x0.2 ba y0) else none) else rec s8 s9 (zA (ax+1)) x0.2 ba r3) else none) else some (p1,ba,r3)
def FJ (k:Nat):Nat→qT8
 |0,_,_,_,_,_,_=>none
 |n+1,s8,s9,ax,p1,ba,r3=>FK k (FJ k n) s8 s9 ax p1 ba r3
def Xz (k:Nat)(a0:List zC)(cZ:List fD)(adV:List zC):Option ((List zC)×(List fD)):=
 (FJ k k a0 (a0.length:Int) 0 cZ adV []).bind fun z=>some (z.2.2,z.1)
def KJ (k:Nat)(a0:List zC)(a1:Int):Option (List zC):=
 (FA k a0 a1).bind fun x0=>(Xz k x0 [] x0).bind fun x1=>some x1.1
def E2 (k:Nat)(av:List zJ)(aA:EQ)(az:AC)(ay:EQ)(ik cB dz eL dA jk jl:Int):Option Bool:=
 bif decide (cB ≥ 0) then (bif decide (cB < (av.length : Int)) then (bif decide (dz ≥ 0) then (bif decide (dz < (av.length : Int)) then (bif !(decide (cB = dz)) then (bif decide (eL ≥ 1) then (bif decide (eL ≤ 1099511627776) then (bif decide (dA≥1) then some (decide (dA≤3)) else some false) else some false) else some false) else some false) else some false) else some false) else some false) else some false
def Xm (k:Nat)(cm bh bE cz bT cg bW:Int)(cY:List zJ)(jm:EQ)(jn:AC)(jo:EQ):Option Bool:=
 (E2 k cY jm jn jo cm bh bE cz bT cg bW).bind fun x0=>some (!x0)
abbrev yCt:Type:=List zC→Int→Int→List zJ→EQ→AC→EQ→Option (Unit⊕Int)
def Fz (k:Nat)(rec:yCt)(s0:List zC)(s7 s8:Int)(af:List zJ)(ai:EQ)(aj:AC)(ah:EQ):Option (Unit⊕Int):=
 bif decide (s8 < s7) then (bif zB s8 s0.length then ((Xm k (s0.getD s8.toNat (0,0,0,0,0,0,0)).1 (s0.getD s8.toNat (0,0,0,0,0,0,0)).2.1 (s0.getD s8.toNat (0,0,0,0,0,0,0)).2.2.1 (s0.getD s8.toNat (0,0,0,0,0,0,0)).2.2.2.1 (s0.getD s8.toNat (0,0,0,0,0,0,0)).2.2.2.2.1 (s0.getD s8.toNat (0,0,0,0,0,0,0)).2.2.2.2.2.1 (s0.getD s8.toNat (0,0,0,0,0,0,0)).2.2.2.2.2.2 af ai aj ah).bind fun x0=>bif x0 then some (.inr s8) else rec s0 s7 (zA (s8+1)) af ai aj ah) else none) else some (.inl ())
def KB (k:Nat):Nat→yCt
 |0,_,_,_,_,_,_,_=>none
 |n+1,s0,s7,s8,af,ai,aj,ah=>Fz k (KB k n) s0 s7 s8 af ai aj ah
def Xn (k:Nat)(a0:List zC)(bN:List zJ)(cC:EQ)(cD:AC)(cE:EQ):Option Int:=
 (KB k k a0 (a0.length:Int) 0 bN cC cD cE).bind fun z=>match z with
 |.inl z1=>some (-1)
 |.inr z2=>some z2
def Ps (k:Nat)(a0:List zC)(bN:List zJ)(cC:EQ)(cD:AC)(cE:EQ):Option Bool:=
 (Xn k a0 bN cC cD cE).bind fun x0=>some (decide (x0≥0))
abbrev qYz:Type:=AC×AC×EQ
abbrev qNq:Type:=List zC→Int→Int→AC→AC→EQ→Option qYz
def Fq (k:Nat)(rec:qNq)(bb:List zC)(cd bo:Int)(r2 r3:AC)(m4:EQ):Option qYz:=
 bif decide (bo < cd) then (bif zB bo bb.length then (bif zB (bb.getD bo.toNat (0, 0, 0, 0, 0, 0, 0)).2.1 r2.length then (bif zB (bb.getD bo.toNat (0, 0, 0, 0, 0, 0, 0)).2.1 r2.length then (let y0:AC:=(r2.set (bb.getD bo.toNat (0,0,0,0,0,0,0)).2.1.toNat (zA ((r2.getD (bb.getD bo.toNat (0,0,0,0,0,0,0)).2.1.toNat 0)-(bb.getD bo.toNat (0,0,0,0,0,0,0)).2.2.2.1)))
     bif zB (bb.getD bo.toNat (0, 0, 0, 0, 0, 0, 0)).2.2.1 y0.length then (bif zB (bb.getD bo.toNat (0, 0, 0, 0, 0, 0, 0)).2.2.1 y0.length then (let y1:AC:=(y0.set (bb.getD bo.toNat (0,0,0,0,0,0,0)).2.2.1.toNat (zA ((y0.getD (bb.getD bo.toNat (0,0,0,0,0,0,0)).2.2.1.toNat 0)+(bb.getD bo.toNat (0,0,0,0,0,0,0)).2.2.2.1)))
       bif zB (bb.getD bo.toNat (0, 0, 0, 0, 0, 0, 0)).2.1 m4.length then (bif zB (bb.getD bo.toNat (0, 0, 0, 0, 0, 0, 0)).2.2.1 (m4.getD (bb.getD bo.toNat (0, 0, 0, 0, 0, 0, 0)).2.1.toNat []).length then (bif zB (bb.getD bo.toNat (0, 0, 0, 0, 0, 0, 0)).2.2.1 (m4.getD (bb.getD bo.toNat (0, 0, 0, 0, 0, 0, 0)).2.1.toNat []).length then (let y2:EQ:=(m4.set (bb.getD bo.toNat (0,0,0,0,0,0,0)).2.1.toNat ((m4.getD (bb.getD bo.toNat (0,0,0,0,0,0,0)).2.1.toNat []).set (bb.getD bo.toNat (0,0,0,0,0,0,0)).2.2.1.toNat (zA (((m4.getD (bb.getD bo.toNat (0,0,0,0,0,0,0)).2.1.toNat []).getD (bb.getD bo.toNat (0,0,0,0,0,0,0)).2.2.1.toNat 0)+(bb.getD bo.toNat (0,0,0,0,0,0,0)).2.2.2.1))))
          bif zB (bb.getD bo.toNat (0, 0, 0, 0, 0, 0, 0)).2.2.1 y2.length then (bif zB (bb.getD bo.toNat (0, 0, 0, 0, 0, 0, 0)).2.1 (y2.getD (bb.getD bo.toNat (0, 0, 0, 0, 0, 0, 0)).2.2.1.toNat []).length then (bif zB (bb.getD bo.toNat (0, 0, 0, 0, 0, 0, 0)).2.1 (y2.getD (bb.getD bo.toNat (0, 0, 0, 0, 0, 0, 0)).2.2.1.toNat []).length then (let y3:EQ:=(y2.set (bb.getD bo.toNat (0,0,0,0,0,0,0)).2.2.1.toNat ((y2.getD (bb.getD bo.toNat (0,0,0,0,0,0,0)).2.2.1.toNat []).set (bb.getD bo.toNat (0,0,0,0,0,0,0)).2.1.toNat (zA (((y2.getD (bb.getD bo.toNat (0,0,0,0,0,0,0)).2.2.1.toNat []).getD (bb.getD bo.toNat (0,0,0,0,0,0,0)).2.1.toNat 0)-(bb.getD bo.toNat (0,0,0,0,0,0,0)).2.2.2.1))))
             bif !(decide ((bb.getD bo.toNat (0, 0, 0, 0, 0, 0, 0)).2.2.2.2.1 = 3)) then (bif zB (bb.getD bo.toNat (0, 0, 0, 0, 0, 0, 0)).2.1 r3.length then (bif zB (bb.getD bo.toNat (0, 0, 0, 0, 0, 0, 0)).2.1 r3.length then (let y4:AC:=(r3.set (bb.getD bo.toNat (0,0,0,0,0,0,0)).2.1.toNat (zA ((r3.getD (bb.getD bo.toNat (0,0,0,0,0,0,0)).2.1.toNat 0)+(bb.getD bo.toNat (0,0,0,0,0,0,0)).2.2.2.1)))
                rec bb cd (zA (bo+1)) y1 y4 y3) else none) else none) else rec bb cd (zA (bo+1)) y1 r3 y3) else none) else none) else none) else none) else none) else none) else none) else none) else none) else none) else none) else some (r2,r3,m4)
def Kx (k:Nat):Nat→qNq
 |0,_,_,_,_,_,_=>none
 |n+1,bb,cd,bo,r2,r3,m4=>Fq k (Kx k n) bb cd bo r2 r3 m4
def Pn (k:Nat)(a0:Int)(a1:List zC):Option (AC×AC×EQ):=
 (BE k a0 0).bind fun x0=>(BE k a0 0).bind fun x1=>(Fo k a0 0).bind fun x2=>(Kx k k a1 (a1.length:Int) 0 x0 x1 x2).bind fun z=>some (z.1,z.2.1,z.2.2)
def Xe (k:Nat)(cm bh bE cz bT cg bW a1:Int):Option Bool:=
 some (decide (bh=a1))
def Fs (k:Nat)(rec:qM1)(s0:List zC)(s7 s8 af:Int):Option (Unit⊕Int):=
 bif decide (s8 < s7) then (bif zB s8 s0.length then ((Xe k (s0.getD s8.toNat (0,0,0,0,0,0,0)).1 (s0.getD s8.toNat (0,0,0,0,0,0,0)).2.1 (s0.getD s8.toNat (0,0,0,0,0,0,0)).2.2.1 (s0.getD s8.toNat (0,0,0,0,0,0,0)).2.2.2.1 (s0.getD s8.toNat (0,0,0,0,0,0,0)).2.2.2.2.1 (s0.getD s8.toNat (0,0,0,0,0,0,0)).2.2.2.2.2.1 (s0.getD s8.toNat (0,0,0,0,0,0,0)).2.2.2.2.2.2 af).bind fun x0=>bif x0 then some (.inr s8) else rec s0 s7 (zA (s8+1)) af) else none) else some (.inl ())
def Ky (k:Nat):Nat→qM1
 |0,_,_,_,_=>none
 |n+1,s0,s7,s8,af=>Fs k (Ky k n) s0 s7 s8 af
def Xf (k:Nat)(a0:List zC)(cZ:Int):Option Int:=
 (Ky k k a0 (a0.length:Int) 0 cZ).bind fun z=>match z with
 |.inl z1=>some (-1)
 |.inr z2=>some z2
def Po (k:Nat)(a0:List zC)(cZ:Int):Option Bool:=
 (Xf k a0 cZ).bind fun x0=>some (decide (x0≥0))
def Fl (k:Nat)(rec:Int→AC→Int→Int→Option Int)(s5:Int)(bB:AC)(bC bH:Int):Option Int:=
 bif decide (bH < bC) then (bif zB bH bB.length then(rec (zA (s5+(bB.getD bH.toNat 0))) bB bC (zA (bH+1))) else none) else some s5
def Fk (k:Nat):Nat→Int→AC→Int→Int→Option Int
 |0,_,_,_,_=>none
 |n+1,s5,bB,bC,bH=>Fl k (Fk k n) s5 bB bC bH
def Pk (k:Nat)(av:List zJ)(aA:EQ)(az:AC)(ay:EQ)(a1:Int):Option Int:=
 bif zB a1 ay.length then ((Fk k k 0 (ay.getD a1.toNat []) ((ay.getD a1.toNat []).length:Int) 0).bind fun z=>some z) else none
def Fu (k:Nat)(a0 a1:Int):Option Bool:=
 bif !(decide (a1=(-1))) then some (decide (a0>a1)) else some false
def Xh (k:Nat)(cm bh bE cz bT cg bW a1 oM rO oN:Int)(adW nL:AC)(eO:EQ)(a4:Int)(SM:List zJ)(iK:EQ)(ad9:AC)(iL:EQ):Option Bool:=
 bif !(decide (bh=a1)) then some false else bif zB a1 nL.length then ((xB k oM rO oN (nL.getD a1.toNat 0)).bind fun x0=>bif decide (bT = 3) then (bif decide (a4<x0) then some true else bif zB a1 iL.length then (bif zB bE (iL.getD a1.toNat []).length then (bif zB a1 eO.length then (bif zB bE (eO.getD a1.toNat []).length then (bif zB a1 iK.length then (bif zB bE (iK.getD a1.toNat []).length then ((Fu k (zA (((iL.getD a1.toNat []).getD bE.toNat 0)+((eO.getD a1.toNat []).getD bE.toNat 0))) ((iK.getD a1.toNat []).getD bE.toNat 0)).bind fun x1=>some x1) else none) else none) else none) else none) else none) else none) else bif zB a1 iL.length then (bif zB bE (iL.getD a1.toNat []).length then (bif zB a1 eO.length then (bif zB bE (eO.getD a1.toNat []).length then (bif zB a1 iK.length then (bif zB bE (iK.getD a1.toNat []).length then ((Fu k (zA (((iL.getD a1.toNat []).getD bE.toNat 0)+((eO.getD a1.toNat []).getD bE.toNat 0))) ((iK.getD a1.toNat []).getD bE.toNat 0)).bind fun x2=>some x2) else none) else none) else none) else none) else none) else none) else none
abbrev qX0:Type:=List zC→Int→Int→Int→Int→Int→Int→AC→AC→EQ→Int→List zJ→EQ→AC→EQ→Option (Unit⊕Int)
def Fv (k:Nat)(rec:qX0)(s0:List zC)(s7 s8 af aw aC aD:Int)(ba ca:AC)(cc:EQ)(cp:Int)(jt:List zJ)(vw:EQ)(vx:AC)(vy:EQ):Option (Unit⊕Int):=
 bif decide (s8 < s7) then (bif zB s8 s0.length then ((Xh k (s0.getD s8.toNat (0,0,0,0,0,0,0)).1 (s0.getD s8.toNat (0,0,0,0,0,0,0)).2.1 (s0.getD s8.toNat (0,0,0,0,0,0,0)).2.2.1 (s0.getD s8.toNat (0,0,0,0,0,0,0)).2.2.2.1 (s0.getD s8.toNat (0,0,0,0,0,0,0)).2.2.2.2.1 (s0.getD s8.toNat (0,0,0,0,0,0,0)).2.2.2.2.2.1 (s0.getD s8.toNat (0,0,0,0,0,0,0)).2.2.2.2.2.2 af aw aC aD ba ca cc cp jt vw vx vy).bind fun x0=>bif x0 then some (.inr s8) else rec s0 s7 (zA (s8+1)) af aw aC aD ba ca cc cp jt vw vx vy) else none) else some (.inl ())
def KA (k:Nat):Nat→qX0
 |0,_,_,_,_,_,_,_,_,_,_,_,_,_,_,_=>none
 |n+1,s0,s7,s8,af,aw,aC,aD,ba,ca,cc,cp,jt,vw,vx,vy=>Fv k (KA k n) s0 s7 s8 af aw aC aD ba ca cc cp jt vw vx vy
def Xi (k:Nat)(a0:List zC)(cZ de dD df:Int)(gp eP:AC)(gq:EQ)(C7:Int)(eQ:List zJ)(ju:EQ)(jv:AC)(jw:EQ):Option Int:=
 (KA k k a0 (a0.length:Int) 0 cZ de dD df gp eP gq C7 eQ ju jv jw).bind fun z=>match z with
 |.inl z1=>some (-1)
 |.inr z2=>some z2
def Pp (k:Nat)(a0:List zC)(cZ de dD df:Int)(gp eP:AC)(gq:EQ)(C7:Int)(eQ:List zJ)(ju:EQ)(jv:AC)(jw:EQ):Option Bool:=
 (Xi k a0 cZ de dD df gp eP gq C7 eQ ju jv jw).bind fun x0=>some (decide (x0≥0))
abbrev qYp:Type:=(List zC)×Int×AC×AC×EQ×(List zJ)×EQ×AC×EQ×Int×Int×Int×Int×Int
abbrev yBl:Type:=List zC→Int→AC→Int→Int→AC→AC→EQ→List zJ→EQ→AC→EQ→Int→Int→Int→Int→Int→Option qYp
def Fw (k:Nat)(rec:yBl)(s3:List zC)(aR:Int)(lS:AC)(gQ jq:Int)(af ai:AC)(aj:EQ)(aw:List zJ)(aC:EQ)(aD:AC)(aF:EQ)(ba cp dh dq jt:Int):Option qYp:=
 bif decide (jq < gQ) then (bif zB jq lS.length then(rec s3 (zA (aR+(lS.getD jq.toNat 0))) lS gQ (zA (jq+1)) af ai aj aw aC aD aF ba cp dh dq jt) else none) else some (s3,aR,af,ai,aj,aw,aC,aD,aF,ba,cp,dh,dq,jt)
def BG (k:Nat):Nat→yBl
 |0,_,_,_,_,_,_,_,_,_,_,_,_,_,_,_,_,_=>none
 |n+1,s3,aR,lS,gQ,jq,af,ai,aj,aw,aC,aD,aF,ba,cp,dh,dq,jt=>Fw k (BG k n) s3 aR lS gQ jq af ai aj aw aC aD aF ba cp dh dq jt
def Pr (k:Nat)(jx vz:AC)(jy:EQ)(cY:List zJ)(jm:EQ)(jn:AC)(jo:EQ)(a2:Int)(a3:List zC):Option Bool:=
 bif zB a2 cY.length then (bif zB a2 jx.length then (bif decide ((zA ((zA ((cY.getD a2.toNat (0,0,0)).1+(cY.getD a2.toNat (0,0,0)).2.1))+(jx.getD a2.toNat 0)))<0) then some true
   else(Pk k cY jm jn jo a2).bind fun x0=>bif zB a2 jy.length then ((BG k k a3 x0 (jy.getD a2.toNat []) ((jy.getD a2.toNat []).length:Int) 0 jx vz jy cY jm jn jo a2 (cY.getD a2.toNat (0,0,0)).1 (cY.getD a2.toNat (0,0,0)).2.1 (cY.getD a2.toNat (0,0,0)).2.2 (zA ((zA ((cY.getD a2.toNat (0,0,0)).1+(cY.getD a2.toNat (0,0,0)).2.1))+(jx.getD a2.toNat 0)))).bind fun z=>bif zB z.2.2.2.2.2.2.2.2.2.1 z.2.2.2.2.2.2.2.1.length then ((Fu k z.2.1 (z.2.2.2.2.2.2.2.1.getD z.2.2.2.2.2.2.2.2.2.1.toNat 0)).bind fun x1=>bif x1 then some true
     else(Pp k z.1 z.2.2.2.2.2.2.2.2.2.1 z.2.2.2.2.2.2.2.2.2.2.1 z.2.2.2.2.2.2.2.2.2.2.2.1 z.2.2.2.2.2.2.2.2.2.2.2.2.1 z.2.2.1 z.2.2.2.1 z.2.2.2.2.1 z.2.2.2.2.2.2.2.2.2.2.2.2.2 z.2.2.2.2.2.1 z.2.2.2.2.2.2.1 z.2.2.2.2.2.2.2.1 z.2.2.2.2.2.2.2.2.1).bind fun x2=>some x2) else none) else none) else none) else none
abbrev qWn:Type:=List zC→Int→Int→List zJ→EQ→AC→EQ→AC→AC→EQ→AC→Option AC
def Fy (k:Nat)(rec:qWn)(s1:List zC)(cd bo:Int)(af:List zJ)(ai:EQ)(aj:AC)(ah:EQ)(r2 r3:AC)(m4:EQ)(r5:AC):Option AC:=
 bif decide (bo < cd) then ((Po k s1 bo).bind fun x1=>bif x1 then ((Pr k r2 r3 m4 af ai aj ah bo s1).bind fun x2=>bif x2 then (bif zL (r5.length+1) 8 then(rec s1 cd (zA (bo+1)) af ai aj ah r2 r3 m4 (r5++[bo])) else none) else rec s1 cd (zA (bo+1)) af ai aj ah r2 r3 m4 r5) else rec s1 cd (zA (bo+1)) af ai aj ah r2 r3 m4 r5) else some r5
def Fx (k:Nat):Nat→qWn
 |0,_,_,_,_,_,_,_,_,_,_,_=>none
 |n+1,s1,cd,bo,af,ai,aj,ah,r2,r3,m4,r5=>Fy k (Fx k n) s1 cd bo af ai aj ah r2 r3 m4 r5
def BH (k:Nat)(av:List zJ)(aA:EQ)(az:AC)(ay:EQ)(a1:List zC):Option AC:=
 (Pn k (av.length:Int) a1).bind fun x0=>(Fx k k a1 (av.length:Int) 0 av aA az ay x0.1 x0.2.1 x0.2.2 []).bind fun z=>some z
def BI (k:Nat)(av:List zJ)(aA:EQ)(az:AC)(ay:EQ)(a1:List zC):Option Bool:=
 bif decide ((a1.length : Int) ≤ 64) then ((Ps k a1 av aA az ay).bind fun x0=>bif !x0 then ((BH k av aA az ay a1).bind fun x1=>some (decide ((x1.length:Int)=0))) else some false) else some false
def WW (k:Nat)(cm bh bE cz bT cg bW:Int)(cY:List zJ)(jm:EQ)(jn:AC)(jo:EQ):Option Bool:=
 (E2 k cY jm jn jo cm bh bE cz bT cg bW).bind fun x0=>some (!x0)
def E3 (k:Nat)(rec:yCt)(s0:List zC)(s7 s8:Int)(af:List zJ)(ai:EQ)(aj:AC)(ah:EQ):Option (Unit⊕Int):=
 bif decide (s8 < s7) then (bif zB s8 s0.length then ((WW k (s0.getD s8.toNat (0,0,0,0,0,0,0)).1 (s0.getD s8.toNat (0,0,0,0,0,0,0)).2.1 (s0.getD s8.toNat (0,0,0,0,0,0,0)).2.2.1 (s0.getD s8.toNat (0,0,0,0,0,0,0)).2.2.2.1 (s0.getD s8.toNat (0,0,0,0,0,0,0)).2.2.2.2.1 (s0.getD s8.toNat (0,0,0,0,0,0,0)).2.2.2.2.2.1 (s0.getD s8.toNat (0,0,0,0,0,0,0)).2.2.2.2.2.2 af ai aj ah).bind fun x0=>bif x0 then some (.inr s8) else rec s0 s7 (zA (s8+1)) af ai aj ah) else none) else some (.inl ())
def Kj (k:Nat):Nat→yCt
 |0,_,_,_,_,_,_,_=>none
 |n+1,s0,s7,s8,af,ai,aj,ah=>E3 k (Kj k n) s0 s7 s8 af ai aj ah
def WX (k:Nat)(a0:List zC)(bN:List zJ)(cC:EQ)(cD:AC)(cE:EQ):Option Int:=
 (Kj k k a0 (a0.length:Int) 0 bN cC cD cE).bind fun z=>match z with
 |.inl z1=>some (-1)
 |.inr z2=>some z2
def O3 (k:Nat)(a0:List zC)(bN:List zJ)(cC:EQ)(cD:AC)(cE:EQ):Option Bool:=
 (WX k a0 bN cC cD cE).bind fun x0=>some (decide (x0≥0))
def WG (k:Nat)(bz bI aU:Int):Option Bool:=
 (OO k bz bI aU).bind fun x0=>some (!x0)
abbrev qSx:Type:=List zJ→Int→Int→Option (Unit⊕Int)
def EM (k:Nat)(rec:qSx)(s0:List zJ)(s7 s8:Int):Option (Unit⊕Int):=
 bif decide (s8 < s7) then (bif zB s8 s0.length then ((WG k (s0.getD s8.toNat (0,0,0)).1 (s0.getD s8.toNat (0,0,0)).2.1 (s0.getD s8.toNat (0,0,0)).2.2).bind fun x0=>bif x0 then some (.inr s8) else rec s0 s7 (zA (s8+1))) else none) else some (.inl ())
def J0 (k:Nat):Nat→qSx
 |0,_,_,_=>none
 |n+1,s0,s7,s8=>EM k (J0 k n) s0 s7 s8
def WH (k:Nat)(a0:List zJ):Option Int:=
 (J0 k k a0 (a0.length:Int) 0).bind fun z=>match z with
 |.inl z1=>some (-1)
 |.inr z2=>some z2
def OR (k:Nat)(a0:List zJ):Option Bool:=
 (WH k a0).bind fun x0=>some (decide (x0≥0))
def WA (k:Nat)(a0:Int):Option Bool:=
 bif decide (a0≥(-1)) then some (decide (a0≤2305843009213693952)) else some false
def WJ (k:Nat)(a0:Int):Option Bool:=
 (WA k a0).bind fun x0=>some (!x0)
abbrev qY7:Type:=AC→Int→Int→Option (Unit⊕Int)
def EN (k:Nat)(rec:qY7)(s0:AC)(s7 s8:Int):Option (Unit⊕Int):=
 bif decide (s8 < s7) then (bif zB s8 s0.length then ((WJ k (s0.getD s8.toNat 0)).bind fun x0=>bif x0 then some (.inr s8) else rec s0 s7 (zA (s8+1))) else none) else some (.inl ())
def J1 (k:Nat):Nat→qY7
 |0,_,_,_=>none
 |n+1,s0,s7,s8=>EN k (J1 k n) s0 s7 s8
def WK (k:Nat)(a0:AC):Option Int:=
 (J1 k k a0 (a0.length:Int) 0).bind fun z=>match z with
 |.inl z1=>some (-1)
 |.inr z2=>some z2
def OT (k:Nat)(a0:AC):Option Bool:=
 (WK k a0).bind fun x0=>some (decide (x0≥0))
def J3 (k:Nat)(a0:AC)(a1:Int):Option Bool:=
 bif decide ((a0.length : Int) = a1) then ((OT k a0).bind fun x0=>some (!x0)) else some false
abbrev qO1:Type:=Int→EQ→Int→Int→Option (Unit⊕Bool)
def EP (k:Nat)(rec:qO1)(s1:Int)(bC:EQ)(bH bb:Int):Option (Unit⊕Bool):=
 bif decide (bb < bH) then (bif zB bb bC.length then ((J3 k (bC.getD bb.toNat []) s1).bind fun x0=>bif !x0 then some (.inr false) else rec s1 bC bH (zA (bb+1))) else none) else some (.inl ())
def J4 (k:Nat):Nat→qO1
 |0,_,_,_,_=>none
 |n+1,s1,bC,bH,bb=>EP k (J4 k n) s1 bC bH bb
def OW (k:Nat)(a0:EQ)(a1:Int):Option Bool:=
 bif !(decide ((a0.length:Int)=a1)) then some false
 else(J4 k k a1 a0 (a0.length:Int) 0).bind fun z=>match z with
 |.inl z1=>some true
 |.inr z2=>some z2
def OP (k:Nat)(a0:Int):Option Bool:=
 bif decide (a0>(-72057594037927936)) then some (decide (a0<72057594037927936)) else some false
def WM (k:Nat)(a0:Int):Option Bool:=
 (OP k a0).bind fun x0=>some (!x0)
def EO (k:Nat)(rec:qY7)(s0:AC)(s7 s8:Int):Option (Unit⊕Int):=
 bif decide (s8 < s7) then (bif zB s8 s0.length then ((WM k (s0.getD s8.toNat 0)).bind fun x0=>bif x0 then some (.inr s8) else rec s0 s7 (zA (s8+1))) else none) else some (.inl ())
def J2 (k:Nat):Nat→qY7
 |0,_,_,_=>none
 |n+1,s0,s7,s8=>EO k (J2 k n) s0 s7 s8
def WN (k:Nat)(a0:AC):Option Int:=
 (J2 k k a0 (a0.length:Int) 0).bind fun z=>match z with
 |.inl z1=>some (-1)
 |.inr z2=>some z2
def OU (k:Nat)(a0:AC):Option Bool:=
 (WN k a0).bind fun x0=>some (decide (x0≥0))
def OV (k:Nat)(a0:AC)(a1:Int):Option Bool:=
 bif decide ((a0.length : Int) = a1) then ((OU k a0).bind fun x0=>some (!x0)) else some false
def ER (k:Nat)(rec:qO1)(s1:Int)(bC:EQ)(bH bb:Int):Option (Unit⊕Bool):=
 bif decide (bb < bH) then (bif zB bb bC.length then ((OV k (bC.getD bb.toNat []) s1).bind fun x0=>bif !x0 then some (.inr false) else rec s1 bC bH (zA (bb+1))) else none) else some (.inl ())
def J5 (k:Nat):Nat→qO1
 |0,_,_,_,_=>none
 |n+1,s1,bC,bH,bb=>ER k (J5 k n) s1 bC bH bb
def OX (k:Nat)(a0:EQ)(a1:Int):Option Bool:=
 bif !(decide ((a0.length:Int)=a1)) then some false
 else(J5 k k a1 a0 (a0.length:Int) 0).bind fun z=>match z with
 |.inl z1=>some true
 |.inr z2=>some z2
abbrev qR4:Type:=(EQ×EQ×Int×Int)⊕Bool
abbrev yAc:Type:=EQ→Int→EQ→Int→Int→AC→Int→Int→Option qR4
def ET (k:Nat)(rec:yAc)(s0:EQ)(s3:Int)(s7:EQ)(s8 s9:Int)(bH:AC)(bb cd:Int):Option qR4:=
 bif decide (cd < bb) then (bif zB cd bH.length then (bif zB cd s0.length then (bif zB s3 (s0.getD cd.toNat []).length then (bif !(decide (((s0.getD cd.toNat []).getD s3.toNat 0)=(zA (0-(bH.getD cd.toNat 0))))) then some (.inr false) else rec s0 s3 s7 s8 s9 bH bb (zA (cd+1))) else none) else none) else none) else some (.inl (s0,s7,s8,s9))
def ES (k:Nat):Nat→yAc
 |0,_,_,_,_,_,_,_,_=>none
 |n+1,s0,s3,s7,s8,s9,bH,bb,cd=>ET k (ES k n) s0 s3 s7 s8 s9 bH bb cd
abbrev qPh:Type:=EQ→EQ→Int→Int→Option (Unit⊕Bool)
def EU (k:Nat)(rec:qPh)(s0 s7:EQ)(s8 s9:Int):Option (Unit⊕Bool):=
 bif decide (s9 < s8) then (bif zB s9 s7.length then ((ES k k s0 s9 s7 s8 s9 (s7.getD s9.toNat []) ((s7.getD s9.toNat []).length:Int) 0).bind fun z=>match z with
   |.inl z1=>rec z1.1 z1.2.1 z1.2.2.1 (zA (z1.2.2.2+1))
   |.inr z2=>some (.inr z2)) else none) else some (.inl ())
def J6 (k:Nat):Nat→qPh
 |0,_,_,_,_=>none
 |n+1,s0,s7,s8,s9=>EU k (J6 k n) s0 s7 s8 s9
def OY (k:Nat)(a0:EQ):Option Bool:=
 (J6 k k a0 a0 (a0.length:Int) 0).bind fun z3=>match z3 with
 |.inl z4=>some true
 |.inr z5=>some z5
def Bz (k:Nat)(av:List zJ)(aA:EQ)(az:AC)(ay:EQ):Option Bool:=
 bif decide ((av.length:Int)<1) then some false else bif decide ((av.length:Int)>6) then some false
 else(OR k av).bind fun x0=>bif x0 then some false
 else(OW k aA (av.length:Int)).bind fun x1=>bif x1 then ((J3 k az (av.length:Int)).bind fun x2=>bif x2 then ((OX k ay (av.length:Int)).bind fun x3=>bif x3 then ((OY k ay).bind fun x4=>some x4) else some false) else some false) else some false
abbrev qU3:Type:=(List zJ)×EQ×AC×EQ×(List zJ)×EQ×AC×EQ
abbrev qZs:Type:=List zC→Int→Int→List zJ→EQ→AC→EQ→List zJ→EQ→AC→EQ→Option qU3
def E7 (k:Nat)(rec:qZs)(bA:List zC)(kx aW:Int)(af:List zJ)(ai:EQ)(aj:AC)(ah:EQ)(r3:List zJ)(m4:EQ)(r5:AC)(m6:EQ):Option qU3:=
 bif decide (aW < kx) then (bif zB aW bA.length then (bif zB (bA.getD aW.toNat (0, 0, 0, 0, 0, 0, 0)).2.1 r3.length then (bif zB (bA.getD aW.toNat (0, 0, 0, 0, 0, 0, 0)).2.2.1 r3.length then (let y0:List zJ:=(r3.set (bA.getD aW.toNat (0,0,0,0,0,0,0)).2.1.toNat ((zA ((r3.getD (bA.getD aW.toNat (0,0,0,0,0,0,0)).2.1.toNat (0,0,0)).1-(bA.getD aW.toNat (0,0,0,0,0,0,0)).2.2.2.1)),(r3.getD (bA.getD aW.toNat (0,0,0,0,0,0,0)).2.1.toNat (0,0,0)).2))
     let y1:List zJ:=(y0.set (bA.getD aW.toNat (0,0,0,0,0,0,0)).2.2.1.toNat ((zA ((y0.getD (bA.getD aW.toNat (0,0,0,0,0,0,0)).2.2.1.toNat (0,0,0)).1+(bA.getD aW.toNat (0,0,0,0,0,0,0)).2.2.2.1)),(y0.getD (bA.getD aW.toNat (0,0,0,0,0,0,0)).2.2.1.toNat (0,0,0)).2))
     bif !(decide ((bA.getD aW.toNat (0, 0, 0, 0, 0, 0, 0)).2.2.2.2.1 = 3)) then ((xB k (y1.getD (bA.getD aW.toNat (0,0,0,0,0,0,0)).2.1.toNat (0,0,0)).1 (y1.getD (bA.getD aW.toNat (0,0,0,0,0,0,0)).2.1.toNat (0,0,0)).2.1 (y1.getD (bA.getD aW.toNat (0,0,0,0,0,0,0)).2.1.toNat (0,0,0)).2.2 (bA.getD aW.toNat (0,0,0,0,0,0,0)).2.2.2.1).bind fun x2=>let y2:List zJ:=(y1.set (bA.getD aW.toNat (0,0,0,0,0,0,0)).2.1.toNat ((y1.getD (bA.getD aW.toNat (0,0,0,0,0,0,0)).2.1.toNat (0,0,0)).1,(y1.getD (bA.getD aW.toNat (0,0,0,0,0,0,0)).2.1.toNat (0,0,0)).2.1,x2))
      bif zB (bA.getD aW.toNat (0, 0, 0, 0, 0, 0, 0)).2.1 m6.length then (bif zB (bA.getD aW.toNat (0, 0, 0, 0, 0, 0, 0)).2.2.1 (m6.getD (bA.getD aW.toNat (0, 0, 0, 0, 0, 0, 0)).2.1.toNat []).length then (bif zB (bA.getD aW.toNat (0, 0, 0, 0, 0, 0, 0)).2.2.1 (m6.getD (bA.getD aW.toNat (0, 0, 0, 0, 0, 0, 0)).2.1.toNat []).length then (let y3:EQ:=(m6.set (bA.getD aW.toNat (0,0,0,0,0,0,0)).2.1.toNat ((m6.getD (bA.getD aW.toNat (0,0,0,0,0,0,0)).2.1.toNat []).set (bA.getD aW.toNat (0,0,0,0,0,0,0)).2.2.1.toNat (zA (((m6.getD (bA.getD aW.toNat (0,0,0,0,0,0,0)).2.1.toNat []).getD (bA.getD aW.toNat (0,0,0,0,0,0,0)).2.2.1.toNat 0)+(bA.getD aW.toNat (0,0,0,0,0,0,0)).2.2.2.1))))
         bif zB (bA.getD aW.toNat (0, 0, 0, 0, 0, 0, 0)).2.2.1 y3.length then (bif zB (bA.getD aW.toNat (0, 0, 0, 0, 0, 0, 0)).2.1 (y3.getD (bA.getD aW.toNat (0, 0, 0, 0, 0, 0, 0)).2.2.1.toNat []).length then (bif zB (bA.getD aW.toNat (0, 0, 0, 0, 0, 0, 0)).2.1 (y3.getD (bA.getD aW.toNat (0, 0, 0, 0, 0, 0, 0)).2.2.1.toNat []).length then (let y4:EQ:=(y3.set (bA.getD aW.toNat (0,0,0,0,0,0,0)).2.2.1.toNat ((y3.getD (bA.getD aW.toNat (0,0,0,0,0,0,0)).2.2.1.toNat []).set (bA.getD aW.toNat (0,0,0,0,0,0,0)).2.1.toNat (zA (((y3.getD (bA.getD aW.toNat (0,0,0,0,0,0,0)).2.2.1.toNat []).getD (bA.getD aW.toNat (0,0,0,0,0,0,0)).2.1.toNat 0)-(bA.getD aW.toNat (0,0,0,0,0,0,0)).2.2.2.1))))
            rec bA kx (zA (aW+1)) af ai aj ah y2 m4 r5 y4) else none) else none) else none) else none) else none) else none) else bif zB (bA.getD aW.toNat (0, 0, 0, 0, 0, 0, 0)).2.1 m6.length then (bif zB (bA.getD aW.toNat (0, 0, 0, 0, 0, 0, 0)).2.2.1 (m6.getD (bA.getD aW.toNat (0, 0, 0, 0, 0, 0, 0)).2.1.toNat []).length then (bif zB (bA.getD aW.toNat (0, 0, 0, 0, 0, 0, 0)).2.2.1 (m6.getD (bA.getD aW.toNat (0, 0, 0, 0, 0, 0, 0)).2.1.toNat []).length then (let y5:EQ:=(m6.set (bA.getD aW.toNat (0,0,0,0,0,0,0)).2.1.toNat ((m6.getD (bA.getD aW.toNat (0,0,0,0,0,0,0)).2.1.toNat []).set (bA.getD aW.toNat (0,0,0,0,0,0,0)).2.2.1.toNat (zA (((m6.getD (bA.getD aW.toNat (0,0,0,0,0,0,0)).2.1.toNat []).getD (bA.getD aW.toNat (0,0,0,0,0,0,0)).2.2.1.toNat 0)+(bA.getD aW.toNat (0,0,0,0,0,0,0)).2.2.2.1))))
        bif zB (bA.getD aW.toNat (0, 0, 0, 0, 0, 0, 0)).2.2.1 y5.length then (bif zB (bA.getD aW.toNat (0, 0, 0, 0, 0, 0, 0)).2.1 (y5.getD (bA.getD aW.toNat (0, 0, 0, 0, 0, 0, 0)).2.2.1.toNat []).length then (bif zB (bA.getD aW.toNat (0, 0, 0, 0, 0, 0, 0)).2.1 (y5.getD (bA.getD aW.toNat (0, 0, 0, 0, 0, 0, 0)).2.2.1.toNat []).length then (let y6:EQ:=(y5.set (bA.getD aW.toNat (0,0,0,0,0,0,0)).2.2.1.toNat ((y5.getD (bA.getD aW.toNat (0,0,0,0,0,0,0)).2.2.1.toNat []).set (bA.getD aW.toNat (0,0,0,0,0,0,0)).2.1.toNat (zA (((y5.getD (bA.getD aW.toNat (0,0,0,0,0,0,0)).2.2.1.toNat []).getD (bA.getD aW.toNat (0,0,0,0,0,0,0)).2.1.toNat 0)-(bA.getD aW.toNat (0,0,0,0,0,0,0)).2.2.2.1))))
           rec bA kx (zA (aW+1)) af ai aj ah y1 m4 r5 y6) else none) else none) else none) else none) else none) else none) else none) else none) else none) else some (af,ai,aj,ah,r3,m4,r5,m6)
def E6 (k:Nat):Nat→qZs
 |0,_,_,_,_,_,_,_,_,_,_,_=>none
 |n+1,bA,kx,aW,af,ai,aj,ah,r3,m4,r5,m6=>E7 k (E6 k n) bA kx aW af ai aj ah r3 m4 r5 m6
def qx (k:Nat)(av:List zJ)(aA:EQ)(az:AC)(ay:EQ)(a1:List zC):Option ((List zJ)×EQ×AC×EQ×Int):=
 bif decide ((a1.length:Int)>64) then some (av,aA,az,ay,1)
 else(O3 k a1 av aA az ay).bind fun x0=>bif x0 then some (av,aA,az,ay,1)
 else(gI k av aA az ay).bind fun x1=>(E6 k k a1 (a1.length:Int) 0 av aA az ay x1.1 x1.2.1 x1.2.2.1 x1.2.2.2).bind fun z=>(Bz k z.2.2.2.2.1 z.2.2.2.2.2.1 z.2.2.2.2.2.2.1 z.2.2.2.2.2.2.2).bind fun x3=>bif !x3 then some (wB z 8) else some (vDa z 0)
abbrev qZ2:Type:=((List zJ)×EQ×AC×EQ×Int×Int×Int×Int×Int×Int×Int)⊕(Bool×Int×Int×Int×Int×Int×Int×Int×(List zJ)×EQ×AC×EQ)
abbrev qY8:Type:=Int→Int→List zJ→EQ→AC→EQ→Int→Int→Int→Int→Int→Int→Int→List zC→Option qZ2
def F9 (k:Nat)(rec:qY8)(cd bo:Int)(af:List zJ)(ai:EQ)(aj:AC)(ah:EQ)(aw aC aD aF aH aI aJ:Int)(r3:List zC):Option qZ2:=
 bif decide (bo < cd) then (bif zB bo r3.length then ((BI k af ai aj ah [(r3.getD bo.toNat (0,0,0,0,0,0,0))]).bind fun x1=>bif !x1 then(rec cd (zA (bo+1)) af ai aj ah aw aC aD aF aH aI aJ r3)
   else(qx k af ai aj ah [(r3.getD bo.toNat (0,0,0,0,0,0,0))]).bind fun x2=>bif decide (x2.2.2.2.2=0) then some (.inr (true,(gl (r3.getD bo.toNat (0,0,0,0,0,0,0)) (wS x2)))) else rec cd (zA (bo+1)) af ai aj ah aw aC aD aF aH aI aJ r3) else none) else some (.inl (af,ai,aj,ah,aw,aC,aD,aF,aH,aI,aJ))
def KX (k:Nat):Nat→qY8
 |0,_,_,_,_,_,_,_,_,_,_,_,_,_,_=>none
 |n+1,cd,bo,af,ai,aj,ah,aw,aC,aD,aF,aH,aI,aJ,r3=>F9 k (KX k n) cd bo af ai aj ah aw aC aD aF aH aI aJ r3
def PR (k:Nat)(av:List zJ)(aA:EQ)(az:AC)(ay:EQ)(a1:List zC)(a2:Int):Option (Int×Int×Int×Int×Int×Int×Int×(List zJ)×EQ×AC×EQ×Bool):=
 (KJ k a1 a2).bind fun x0=>(KX k k (x0.length:Int) 0 av aA az ay 0 0 0 0 0 0 0 x0).bind fun z=>match z with
 |.inl z1=>some (0,0,0,0,0,0,0,(wB z1 false))
 |.inr z2=>some (adU z2 z2.1)
abbrev qOg:Type:=(List zC)×(List zJ)×EQ×AC×EQ×(List zC)
abbrev yB2:Type:=Int→List zC→List zJ→EQ→AC→EQ→List zC→Option qOg
def Gc (k:Nat)(rec:yB2)(s2:Int)(s7:List zC)(af:List zJ)(ai:EQ)(aj:AC)(ah:EQ)(r1:List zC):Option qOg:=
 (PR k af ai aj ah s7 s2).bind fun x0=>bif !x0.2.2.2.2.2.2.2.2.2.2.2 then some (s7,af,ai,aj,ah,r1)
 else(qy k s7 x0.1).bind fun x1=>bif zL (r1.length + 1) 56 then (let y0:List zC:=(r1++[(vY x0)])
  rec s2 x1.1 x0.2.2.2.2.2.2.2.1 x0.2.2.2.2.2.2.2.2.1 x0.2.2.2.2.2.2.2.2.2.1 x0.2.2.2.2.2.2.2.2.2.2.1 y0) else none
def KY (k:Nat):Nat→yB2
 |0,_,_,_,_,_,_,_=>none
 |n+1,s2,s7,af,ai,aj,ah,r1=>Gc k (KY k n) s2 s7 af ai aj ah r1
def PT (k:Nat)(av:List zJ)(aA:EQ)(az:AC)(ay:EQ)(a1:List zC)(a2:Int):Option tv:=
 (KY k k a2 a1 av aA az ay []).bind fun z=>some (iJ z (z.1,z.2.2.2.2.2))
abbrev yA1:Type:=(Int×Int×(List zJ)×EQ×AC×EQ×Int×Int×Int×Int×Int×Int×Int×Int×Int×Int×Int×Int×Int×Int×(List zC))⊕yUm
abbrev qSw:Type:=Int→Int→Int→Int→List zJ→EQ→AC→EQ→Int→Int→Int→Int→Int→Int→Int→Int→Int→Int→Int→Int→Int→Int→List zC→Int→Int→Int→Int→Int→Int→Int→Option yA1
def Gf (k:Nat)(rec:qSw)(dM cO kx aW:Int)(af:List zJ)(ai:EQ)(aj:AC)(ah:EQ)(aw aC aD aF aH aI aJ cF cG bJ aV cq ct cw:Int)(r2:List zC)(cp dh dq il im iq ir:Int):Option yA1:=
 bif decide (aW < kx) then (bif zB aW r2.length then (bif !(decide ((r2.getD aW.toNat (0,0,0,0,0,0,0)).2.1=dq)) then(rec dM cO kx (zA (aW+1)) af ai aj ah aw aC aD aF aH aI aJ cF cG bJ aV cq ct cw r2 cp dh dq il im iq ir) else bif !(decide ((r2.getD aW.toNat (0,0,0,0,0,0,0)).2.2.1=dh)) then(rec dM cO kx (zA (aW+1)) af ai aj ah aw aC aD aF aH aI aJ cF cG bJ aV cq ct cw r2 cp dh dq il im iq ir) else bif decide (dh≥(r2.getD aW.toNat (0,0,0,0,0,0,0)).2.1) then(rec dM cO kx (zA (aW+1)) af ai aj ah aw aC aD aF aH aI aJ cF cG bJ aV cq ct cw r2 cp dh dq il im iq ir)
   else(BI k af ai aj ah [(cp,dh,dq,il,im,iq,ir),(r2.getD aW.toNat (0,0,0,0,0,0,0))]).bind fun x1=>bif !x1 then(rec dM cO kx (zA (aW+1)) af ai aj ah aw aC aD aF aH aI aJ cF cG bJ aV cq ct cw r2 cp dh dq il im iq ir)
   else(qx k af ai aj ah [(cp,dh,dq,il,im,iq,ir),(r2.getD aW.toNat (0,0,0,0,0,0,0))]).bind fun x2=>bif decide (x2.2.2.2.2=0) then some (.inr (true,cp,dh,dq,il,im,iq,ir,(gl (r2.getD aW.toNat (0,0,0,0,0,0,0)) (wS x2)))) else rec dM cO kx (zA (aW+1)) af ai aj ah aw aC aD aF aH aI aJ cF cG bJ aV cq ct cw r2 cp dh dq il im iq ir) else none) else some (.inl (dM,cO,af,ai,aj,ah,aw,aC,aD,aF,aH,aI,aJ,cF,cG,bJ,aV,cq,ct,cw,r2))
def KZ (k:Nat):Nat→qSw
 |0,_,_,_,_,_,_,_,_,_,_,_,_,_,_,_,_,_,_,_,_,_,_,_,_,_,_,_,_,_,_=>none
 |n+1,dM,cO,kx,aW,af,ai,aj,ah,aw,aC,aD,aF,aH,aI,aJ,cF,cG,bJ,aV,cq,ct,cw,r2,cp,dh,dq,il,im,iq,ir=>Gf k (KZ k n) dM cO kx aW af ai aj ah aw aC aD aF aH aI aJ cF cG bJ aV cq ct cw r2 cp dh dq il im iq ir
abbrev qR6:Type:=(Int×Int×Int×Int×Int×Int×Int×Int×Int×Int×Int×Int×Int×Int)⊕yUm
abbrev qJ6:Type:=Int→Int→List zJ→EQ→AC→EQ→Int→Int→Int→Int→Int→Int→Int→Int→Int→Int→Int→Int→Int→Int→List zC→Option qR6
def Gg (k:Nat)(rec:qJ6)(dM cO:Int)(af:List zJ)(ai:EQ)(aj:AC)(ah:EQ)(aw aC aD aF aH aI aJ cF cG bJ aV cq ct cw:Int)(r2:List zC):Option qR6:=
 bif decide (cO < dM) then (bif zB cO r2.length then ((KZ k k dM cO (r2.length:Int) 0 af ai aj ah aw aC aD aF aH aI aJ cF cG bJ aV cq ct cw r2 (r2.getD cO.toNat (0,0,0,0,0,0,0)).1 (r2.getD cO.toNat (0,0,0,0,0,0,0)).2.1 (r2.getD cO.toNat (0,0,0,0,0,0,0)).2.2.1 (r2.getD cO.toNat (0,0,0,0,0,0,0)).2.2.2.1 (r2.getD cO.toNat (0,0,0,0,0,0,0)).2.2.2.2.1 (r2.getD cO.toNat (0,0,0,0,0,0,0)).2.2.2.2.2.1 (r2.getD cO.toNat (0,0,0,0,0,0,0)).2.2.2.2.2.2).bind fun z=>match z with
   |.inl z1=>rec z1.1 (zA (z1.2.1+1)) z1.2.2.1 z1.2.2.2.1 z1.2.2.2.2.1 z1.2.2.2.2.2.1 z1.2.2.2.2.2.2.1 z1.2.2.2.2.2.2.2.1 z1.2.2.2.2.2.2.2.2.1 z1.2.2.2.2.2.2.2.2.2.1 z1.2.2.2.2.2.2.2.2.2.2.1 z1.2.2.2.2.2.2.2.2.2.2.2.1 z1.2.2.2.2.2.2.2.2.2.2.2.2.1 z1.2.2.2.2.2.2.2.2.2.2.2.2.2.1 z1.2.2.2.2.2.2.2.2.2.2.2.2.2.2.1 z1.2.2.2.2.2.2.2.2.2.2.2.2.2.2.2.1 z1.2.2.2.2.2.2.2.2.2.2.2.2.2.2.2.2.1 z1.2.2.2.2.2.2.2.2.2.2.2.2.2.2.2.2.2.1 z1.2.2.2.2.2.2.2.2.2.2.2.2.2.2.2.2.2.2.1 z1.2.2.2.2.2.2.2.2.2.2.2.2.2.2.2.2.2.2.2.1 z1.2.2.2.2.2.2.2.2.2.2.2.2.2.2.2.2.2.2.2.2
   |.inr z2=>some (.inr (z2.1,z2.2.1,z2.2.2.1,z2.2.2.2.1,z2.2.2.2.2.1,z2.2.2.2.2.2.1,z2.2.2.2.2.2.2.1,z2.2.2.2.2.2.2.2.1,z2.2.2.2.2.2.2.2.2.1,z2.2.2.2.2.2.2.2.2.2.1,z2.2.2.2.2.2.2.2.2.2.2.1,z2.2.2.2.2.2.2.2.2.2.2.2.1,z2.2.2.2.2.2.2.2.2.2.2.2.2.1,z2.2.2.2.2.2.2.2.2.2.2.2.2.2.1,z2.2.2.2.2.2.2.2.2.2.2.2.2.2.2.1,z2.2.2.2.2.2.2.2.2.2.2.2.2.2.2.2.1,z2.2.2.2.2.2.2.2.2.2.2.2.2.2.2.2.2.1,z2.2.2.2.2.2.2.2.2.2.2.2.2.2.2.2.2.2.1,z2.2.2.2.2.2.2.2.2.2.2.2.2.2.2.2.2.2.2))) else none) else some (.inl (aw,aC,aD,aF,aH,aI,aJ,cF,cG,bJ,aV,cq,ct,cw))
def K1 (k:Nat):Nat→qJ6
 |0,_,_,_,_,_,_,_,_,_,_,_,_,_,_,_,_,_,_,_,_,_=>none
 |n+1,dM,cO,af,ai,aj,ah,aw,aC,aD,aF,aH,aI,aJ,cF,cG,bJ,aV,cq,ct,cw,r2=>Gg k (K1 k n) dM cO af ai aj ah aw aC aD aF aH aI aJ cF cG bJ aV cq ct cw r2
def PV (k:Nat)(av:List zJ)(aA:EQ)(az:AC)(ay:EQ)(a1:List zC)(a2:Int):Option (Int×Int×Int×Int×Int×Int×Int×Int×Int×Int×Int×Int×Int×Int×(List zJ)×EQ×AC×EQ×Bool):=
 (KJ k a1 a2).bind fun x0=>(K1 k k (x0.length:Int) 0 av aA az ay 0 0 0 0 0 0 0 0 0 0 0 0 0 0 x0).bind fun z3=>match z3 with
 |.inl z4=>some (0,0,0,0,0,0,0,0,0,0,0,0,0,0,[],[],[],[],false)
 |.inr z5=>some (qSt z5 z5.1)
abbrev qTb:Type:=Int×(List zC)×(List zJ)×EQ×AC×EQ×(List zC)
abbrev qVp:Type:=Int→List zC→Int→Int→List zJ→EQ→AC→EQ→List zC→List zC→Option qTb
def xM (k:Nat)(rec:qVp)(s2:Int)(s7:List zC)(C6 tz:Int)(af:List zJ)(ai:EQ)(aj:AC)(ah:EQ)(r1 r2:List zC):Option qTb:=
 bif decide (tz < C6) then (bif zB tz r2.length then ((qy k s7 (r2.getD tz.toNat (0,0,0,0,0,0,0)).1).bind fun x1=>bif zL (r1.length + 1) 56 then (let y0:List zC:=(r1++[(r2.getD tz.toNat (0,0,0,0,0,0,0))])
    rec s2 x1.1 C6 (zA (tz+1)) af ai aj ah y0 r2) else none) else none) else some (s2,s7,af,ai,aj,ah,r1)
def xL (k:Nat):Nat→qVp
 |0,_,_,_,_,_,_,_,_,_,_=>none
 |n+1,s2,s7,C6,tz,af,ai,aj,ah,r1,r2=>xM k (xL k n) s2 s7 C6 tz af ai aj ah r1 r2
def Gh (k:Nat)(rec:yB2)(s2:Int)(s7:List zC)(af:List zJ)(ai:EQ)(aj:AC)(ah:EQ)(r1:List zC):Option qOg:=
 (PV k af ai aj ah s7 s2).bind fun x0=>bif !x0.2.2.2.2.2.2.2.2.2.2.2.2.2.2.2.2.2.2 then some (s7,af,ai,aj,ah,r1)
 else(xL k k s2 s7 2 0 x0.2.2.2.2.2.2.2.2.2.2.2.2.2.2.1 x0.2.2.2.2.2.2.2.2.2.2.2.2.2.2.2.1 x0.2.2.2.2.2.2.2.2.2.2.2.2.2.2.2.2.1 x0.2.2.2.2.2.2.2.2.2.2.2.2.2.2.2.2.2.1 r1 [(vY x0),(qY9 x0)]).bind fun z=>rec z.1 z.2.1 z.2.2.1 z.2.2.2.1 z.2.2.2.2.1 z.2.2.2.2.2.1 z.2.2.2.2.2.2
def K2 (k:Nat):Nat→yB2
 |0,_,_,_,_,_,_,_=>none
 |n+1,s2,s7,af,ai,aj,ah,r1=>Gh k (K2 k n) s2 s7 af ai aj ah r1
def PW (k:Nat)(av:List zJ)(aA:EQ)(az:AC)(ay:EQ)(a1:List zC)(a2:Int):Option tv:=
 (K2 k k a2 a1 av aA az ay []).bind fun z1=>some (iJ z1 (z1.1,z1.2.2.2.2.2))
def P3 (k:Nat)(rec:yB2)(s2:Int)(s7:List zC)(af:List zJ)(ai:EQ)(aj:AC)(ah:EQ)(r1:List zC):Option qOg:=
 (PT k af ai aj ah s7 s2).bind fun x0=>(PW k x0.1 x0.2.1 x0.2.2.1 x0.2.2.2.1 x0.2.2.2.2.1 s2).bind fun x1=>bif zL (r1.length + x0.2.2.2.2.2.length) 56 then (bif zL ((r1 ++ x0.2.2.2.2.2).length + x1.2.2.2.2.2.length) 56 then (let y0:List zC:=((r1++x0.2.2.2.2.2)++x1.2.2.2.2.2)
   bif decide ((x1.2.2.2.2.2.length:Int)=0) then some (x1.2.2.2.2.1,(wB x1 y0)) else rec s2 x1.2.2.2.2.1 x1.1 x1.2.1 x1.2.2.1 x1.2.2.2.1 y0) else none) else none
def K9 (k:Nat):Nat→yB2
 |0,_,_,_,_,_,_,_=>none
 |n+1,s2,s7,af,ai,aj,ah,r1=>P3 k (K9 k n) s2 s7 af ai aj ah r1
def La (k:Nat)(av:List zJ)(aA:EQ)(az:AC)(ay:EQ)(a1:List zC)(a2:Int):Option tv:=
 (K9 k k a2 a1 av aA az ay []).bind fun z=>some (iJ z (z.1,z.2.2.2.2.2))
def Yc (k:Nat)(a0:AC):Option AC:=
 bif zL (0+a0.length) 8 then some a0 else none
def Ye (k:Nat)(cm bh bE cz bT cg bW:Int)(a1:AC):Option (Bool×AC):=
 bif decide (bh<0) then some (false,a1) else bif decide (bh≥(a1.length:Int)) then some (false,a1) else bif zB bh a1.length then (bif decide ((a1.getD bh.toNat 0)<1) then some (false,a1) else bif zB bh a1.length then (bif zB bh a1.length then some (true,(a1.set bh.toNat (zA ((a1.getD bh.toNat 0)-1)))) else none) else none) else none
abbrev qSy:Type:=AC×(List zC)
abbrev qVh:Type:=List zC→Int→Int→AC→List zC→Option qSy
def Gm (k:Nat)(rec:qVh)(s8:List zC)(s9 ax:Int)(r1:AC)(r2:List zC):Option qSy:=
 bif decide (ax < s9) then (bif zB ax s8.length then ((Ye k (s8.getD ax.toNat (0,0,0,0,0,0,0)).1 (s8.getD ax.toNat (0,0,0,0,0,0,0)).2.1 (s8.getD ax.toNat (0,0,0,0,0,0,0)).2.2.1 (s8.getD ax.toNat (0,0,0,0,0,0,0)).2.2.2.1 (s8.getD ax.toNat (0,0,0,0,0,0,0)).2.2.2.2.1 (s8.getD ax.toNat (0,0,0,0,0,0,0)).2.2.2.2.2.1 (s8.getD ax.toNat (0,0,0,0,0,0,0)).2.2.2.2.2.2 r1).bind fun x0=>bif x0.1 then (bif zL (r2.length + 1) 56 then (let y0:List zC:=(r2++[(s8.getD ax.toNat (0,0,0,0,0,0,0))])
     rec s8 s9 (zA (ax+1)) x0.2 y0) else none) else rec s8 s9 (zA (ax+1)) x0.2 r2) else none) else some (r1,r2)
def Gl (k:Nat):Nat→qVh
 |0,_,_,_,_,_=>none
 |n+1,s8,s9,ax,r1,r2=>Gm k (Gl k n) s8 s9 ax r1 r2
def Yd (k:Nat)(a0:List zC)(cZ:AC):Option ((List zC)×AC):=
 (Gl k k a0 (a0.length:Int) 0 cZ []).bind fun z=>some (z.2,z.1)
def Gk (k:Nat)(a0:List zC)(a1:AC):Option (List zC):=
 (Yc k a1).bind fun x0=>(Yd k a0 x0).bind fun x1=>some x1.1
abbrev qWq:Type:=Int×(List zJ)×EQ×AC×EQ×AC×(List zC)
abbrev qQ4:Type:=Int→Int→Int→List zJ→EQ→AC→EQ→AC→List zC→Option qWq
def Gp (k:Nat)(rec:qQ4)(s7 lv dM:Int)(af:List zJ)(ai:EQ)(aj:AC)(ah:EQ)(r1:AC)(r2:List zC):Option qWq:=
 bif decide (dM < lv) then ((K6 k r2 dM).bind fun x1=>bif zL (r1.length+1) 8 then(rec s7 lv (zA (dM+1)) af ai aj ah (r1++[(x1.length:Int)]) r2) else none) else some (s7,af,ai,aj,ah,r1,r2)
def BV (k:Nat):Nat→qQ4
 |0,_,_,_,_,_,_,_,_,_=>none
 |n+1,s7,lv,dM,af,ai,aj,ah,r1,r2=>Gp k (BV k n) s7 lv dM af ai aj ah r1 r2
abbrev qQx:Type:=Int→Int→Int→List zJ→EQ→AC→EQ→AC→List zC→AC→Option qWq
def Gr (k:Nat)(rec:qQx)(s7 SN oO:Int)(af:List zJ)(ai:EQ)(aj:AC)(ah:EQ)(r1:AC)(r2:List zC)(r3:AC):Option qWq:=
 bif decide (oO < SN) then (bif zB oO r3.length then (bif zB (r3.getD oO.toNat 0) r1.length then (bif zB (r3.getD oO.toNat 0) r1.length then (let y0:AC:=(r1.set (r3.getD oO.toNat 0).toNat (zA ((r1.getD (r3.getD oO.toNat 0).toNat 0)-1)))
     rec s7 SN (zA (oO+1)) af ai aj ah y0 r2 r3) else none) else none) else none) else some (s7,af,ai,aj,ah,r1,r2)
def Gq (k:Nat):Nat→qQx
 |0,_,_,_,_,_,_,_,_,_,_=>none
 |n+1,s7,SN,oO,af,ai,aj,ah,r1,r2,r3=>Gr k (Gq k n) s7 SN oO af ai aj ah r1 r2 r3
abbrev qJr:Type:=Int→List zJ→EQ→AC→EQ→AC→List zC→Option (Int×AC)
def Gs (k:Nat)(rec:qJr)(s7:Int)(af:List zJ)(ai:EQ)(aj:AC)(ah:EQ)(r1:AC)(r2:List zC):Option (Int×AC):=
 (Gk k r2 r1).bind fun x2=>(BH k af ai aj ah x2).bind fun x3=>bif decide ((x3.length:Int)=0) then some ((zA (s7+1)),r1)
 else(Gq k k (zA (s7+1)) (x3.length:Int) 0 af ai aj ah r1 r2 x3).bind fun z1=>rec z1.1 z1.2.1 z1.2.2.1 z1.2.2.2.1 z1.2.2.2.2.1 z1.2.2.2.2.2.1 z1.2.2.2.2.2.2
def K8 (k:Nat):Nat→qJr
 |0,_,_,_,_,_,_,_=>none
 |n+1,s7,af,ai,aj,ah,r1,r2=>Gs k (K8 k n) s7 af ai aj ah r1 r2
def P0 (k:Nat)(av:List zJ)(aA:EQ)(az:AC)(ay:EQ)(a1:List zC)(a2:Int):Option (AC×Int):=
 (FA k a1 a2).bind fun x0=>(BV k k 0 (av.length:Int) 0 av aA az ay [] x0).bind fun z=>(K8 k k z.1 z.2.1 z.2.2.1 z.2.2.2.1 z.2.2.2.2.1 z.2.2.2.2.2.1 z.2.2.2.2.2.2).bind fun z2=>some (z2.2,z2.1)
abbrev qKk:Type:=List zC→Int→Int→List zJ→EQ→AC→EQ→List zC→Option qOg
def Gt (k:Nat)(rec:qKk)(s7:List zC)(lS gQ:Int)(af:List zJ)(ai:EQ)(aj:AC)(ah:EQ)(r1:List zC):Option qOg:=
 bif decide (gQ < lS) then (bif zB gQ r1.length then ((qy k s7 (r1.getD gQ.toNat (0,0,0,0,0,0,0)).1).bind fun x4=>rec x4.1 lS (zA (gQ+1)) af ai aj ah r1) else none) else some (s7,af,ai,aj,ah,r1)
def BW (k:Nat):Nat→qKk
 |0,_,_,_,_,_,_,_,_=>none
 |n+1,s7,lS,gQ,af,ai,aj,ah,r1=>Gt k (BW k n) s7 lS gQ af ai aj ah r1
def BX (k:Nat)(av:List zJ)(aA:EQ)(az:AC)(ay:EQ)(a1:List zC)(a2:Int):Option tv:=
 (P0 k av aA az ay a1 a2).bind fun x0=>(FA k a1 a2).bind fun x1=>(Gk k x1 x0.1).bind fun x2=>(qx k av aA az ay x2).bind fun x3=>bif !(decide (x3.2.2.2.2=0)) then some (av,aA,az,ay,a1,[])
 else(BW k k a1 (x2.length:Int) 0 x3.1 x3.2.1 x3.2.2.1 x3.2.2.2.1 x2).bind fun z=>some (iJ z (z.1,z.2.2.2.2.2))
def uQ (k:Nat)(av:List zJ)(aA:EQ)(az:AC)(ay:EQ)(a1:List zC)(a2:Int)(a3:Bool):Option tv:=
 (La k av aA az ay a1 a2).bind fun x0=>bif !a3 then some (x0.1,x0.2.1,x0.2.2.1,x0.2.2.2.1,x0.2.2.2.2.1,x0.2.2.2.2.2)
 else(BX k x0.1 x0.2.1 x0.2.2.1 x0.2.2.2.1 x0.2.2.2.2.1 a2).bind fun x1=>bif decide ((x1.2.2.2.2.2.length:Int)=0) then some (pO x1 x0.2.2.2.2.2)
 else(La k x1.1 x1.2.1 x1.2.2.1 x1.2.2.2.1 x1.2.2.2.2.1 a2).bind fun x2=>bif zL (x0.2.2.2.2.2.length + x1.2.2.2.2.2.length) 56 then (bif zL ((x0.2.2.2.2.2 ++ x1.2.2.2.2.2).length + x2.2.2.2.2.2.length) 56 then (let y0:List zC:=((x0.2.2.2.2.2++x1.2.2.2.2.2)++x2.2.2.2.2.2)
   some (pO x2 y0)) else none) else none
abbrev qN7:Type:=(List zC)×Int×Int×(List qE)
abbrev qPm:Type:=List zC→Int→Int→Int→Int→List qE→Int→Int→Int→Int→Int→Int→Int→AC→Option qN7
def xS (k:Nat)(rec:qPm)(s8:List zC)(s9 ax dM cO:Int)(r0:List qE)(aw aC aD aF aH aI aJ:Int)(r2:AC):Option qN7:=
 bif decide (cO < dM) then (bif zB cO r2.length then ((rp k (r2.getD cO.toNat 0) 18 [aw,aC,aD,aF]).bind fun x0=>bif zL (r0.length+1) 64 then(rec s8 s9 ax dM (zA (cO+1)) (r0++[x0]) aw aC aD aF aH aI aJ r2) else none) else none) else some (s8,s9,ax,r0)
def xR (k:Nat):Nat→qPm
 |0,_,_,_,_,_,_,_,_,_,_,_,_,_,_=>none
 |n+1,s8,s9,ax,dM,cO,r0,aw,aC,aD,aF,aH,aI,aJ,r2=>xS k (xR k n) s8 s9 ax dM cO r0 aw aC aD aF aH aI aJ r2
abbrev qS8:Type:=List qE
abbrev qXd:Type:=List zC→Int→Int→List qE→Option qS8
def Gv (k:Nat)(rec:qXd)(s8:List zC)(s9 ax:Int)(r0:List qE):Option qS8:=
 bif decide (ax < s9) then (bif zB ax s8.length then ((xR k k s8 s9 ax 2 0 r0 (s8.getD ax.toNat (0,0,0,0,0,0,0)).1 (s8.getD ax.toNat (0,0,0,0,0,0,0)).2.1 (s8.getD ax.toNat (0,0,0,0,0,0,0)).2.2.1 (s8.getD ax.toNat (0,0,0,0,0,0,0)).2.2.2.1 (s8.getD ax.toNat (0,0,0,0,0,0,0)).2.2.2.2.1 (s8.getD ax.toNat (0,0,0,0,0,0,0)).2.2.2.2.2.1 (s8.getD ax.toNat (0,0,0,0,0,0,0)).2.2.2.2.2.2 [(s8.getD ax.toNat (0,0,0,0,0,0,0)).2.1,(s8.getD ax.toNat (0,0,0,0,0,0,0)).2.2.1]).bind fun z=>rec z.1 z.2.1 (zA (z.2.2.1+1)) z.2.2.2) else none) else some r0
def Lb (k:Nat):Nat→qXd
 |0,_,_,_,_=>none
 |n+1,s8,s9,ax,r0=>Gv k (Lb k n) s8 s9 ax r0
def P4 (k:Nat)(a0:List zC):Option (List qE):=
 (Lb k k a0 (a0.length:Int) 0 []).bind fun z1=>some z1
def pF (k:Nat)(mJ:Int)(rD:List zJ)(rE:EQ)(rF:AC)(rG:EQ)(rH:AC)(rI:EQ)(mK:List zC)(rJ:AC)(rK:Int)(rL a1:Bool):Option Sx:=
 (uQ k rD rE rF rG mK mJ a1).bind fun x0=>(P4 k x0.2.2.2.2.2).bind fun x1=>some (mJ,(wB x0 (rH,rI,x0.2.2.2.2.1,rJ,rK,rL,x1)))
abbrev qOj:Type:=Int×(List wD)×Int×Int×Int×Int×(List zJ)×EQ×AC×EQ×AC×EQ×(List zC)×AC×Int×Bool×Int×Int×Bool×(List qE)×(List zC)
abbrev qU1:Type:=List zC→Int→Int→Int→List wD→Int→Int→Int→Int→List zJ→EQ→AC→EQ→AC→EQ→List zC→AC→Int→Bool→Int→Int→Bool→List qE→List zC→Option qOj
def GD (k:Nat)(rec:qU1)(fW:List zC)(lT fY af:Int)(ai:List wD)(aj ah aY aw:Int)(aC:List zJ)(aD:EQ)(aF:AC)(aH:EQ)(aI:AC)(aJ:EQ)(cF:List zC)(cG:AC)(bJ:Int)(aV:Bool)(ba rP:Int)(lA:Bool)(r3:List qE)(r4:List zC):Option qOj:=
 bif decide (fY < lT) then (bif zB fY fW.length then ((Yp k (fW.getD fY.toNat (0,0,0,0,0,0,0)).1 (fW.getD fY.toNat (0,0,0,0,0,0,0)).2.1 (fW.getD fY.toNat (0,0,0,0,0,0,0)).2.2.1 (fW.getD fY.toNat (0,0,0,0,0,0,0)).2.2.2.1 (fW.getD fY.toNat (0,0,0,0,0,0,0)).2.2.2.2.1 (fW.getD fY.toNat (0,0,0,0,0,0,0)).2.2.2.2.2.1 (fW.getD fY.toNat (0,0,0,0,0,0,0)).2.2.2.2.2.2 aw).bind fun x2=>bif x2 then ((rp k (fW.getD fY.toNat (0,0,0,0,0,0,0)).2.1 21 [(fW.getD fY.toNat (0,0,0,0,0,0,0)).1]).bind fun x3=>bif zL (r3.length+1) 64 then(rec fW lT (zA (fY+1)) af ai aj ah aY aw aC aD aF aH aI aJ cF cG bJ aV ba rP lA (r3++[x3]) r4) else none) else bif zL (r4.length + 1) 56 then (let y0:List zC:=(r4++[(fW.getD fY.toNat (0,0,0,0,0,0,0))])
    rec fW lT (zA (fY+1)) af ai aj ah aY aw aC aD aF aH aI aJ cF cG bJ aV ba rP lA r3 y0) else none) else none) else some (af,ai,aj,ah,aY,aw,aC,aD,aF,aH,aI,aJ,cF,cG,bJ,aV,ba,rP,lA,r3,r4)
def GC (k:Nat):Nat→qU1
 |0,_,_,_,_,_,_,_,_,_,_,_,_,_,_,_,_,_,_,_,_,_,_,_,_=>none
 |n+1,fW,lT,fY,af,ai,aj,ah,aY,aw,aC,aD,aF,aH,aI,aJ,cF,cG,bJ,aV,ba,rP,lA,r3,r4=>GD k (GC k n) fW lT fY af ai aj ah aY aw aC aD aF aH aI aJ cF cG bJ aV ba rP lA r3 r4
def uR (k:Nat)(dm:Int)(dV:List wD)(dW dp cn jz:Int)(cH:List zJ)(dE:EQ)(dF:AC)(dG:EQ)(gu:AC)(j0:EQ)(gv:List zC)(rQ:AC)(j3:Int)(j4:Bool):Option Sx:=
 bif j4 then some (jz,cH,dE,dF,dG,gu,j0,gv,rQ,j3,j4,[])
 else(B2 k dm dV dW dp cn (zA (jz+1))).bind fun x0=>bif x0 then ((P7 k (zA (jz+1)) cH dE dF dG gu j0 gv rQ j3 j4).bind fun x1=>some (x1.1,x1.2.1,x1.2.2.1,x1.2.2.2.1,x1.2.2.2.2.1,x1.2.2.2.2.2.1,x1.2.2.2.2.2.2.1,x1.2.2.2.2.2.2.2.1,x1.2.2.2.2.2.2.2.2.1,x1.2.2.2.2.2.2.2.2.2.1,x1.2.2.2.2.2.2.2.2.2.2.1,x1.2.2.2.2.2.2.2.2.2.2.2))
 else(GC k k gv (gv.length:Int) 0 dm dV dW dp cn (zA (jz+1)) cH dE dF dG gu j0 gv rQ j3 j4 0 0 false [] []).bind fun z=>(GG k z.1 z.2.1 z.2.2.1 z.2.2.2.1 z.2.2.2.2.1 z.2.2.2.2.2.1).bind fun x4=>(pF k z.2.2.2.2.2.1 z.2.2.2.2.2.2.1 z.2.2.2.2.2.2.2.1 z.2.2.2.2.2.2.2.2.1 z.2.2.2.2.2.2.2.2.2.1 z.2.2.2.2.2.2.2.2.2.2.1 z.2.2.2.2.2.2.2.2.2.2.2.1 z.2.2.2.2.2.2.2.2.2.2.2.2.2.2.2.2.2.2.2.2 z.2.2.2.2.2.2.2.2.2.2.2.2.2.1 z.2.2.2.2.2.2.2.2.2.2.2.2.2.2.1 z.2.2.2.2.2.2.2.2.2.2.2.2.2.2.2.1 x4).bind fun x5=>bif zL (z.2.2.2.2.2.2.2.2.2.2.2.2.2.2.2.2.2.2.2.1.length + x5.2.2.2.2.2.2.2.2.2.2.2.length) 64 then (let y1:List qE:=(z.2.2.2.2.2.2.2.2.2.2.2.2.2.2.2.2.2.2.2.1++x5.2.2.2.2.2.2.2.2.2.2.2)
  some (ze x5 y1)) else none
def yVr (k:Nat)(a0:lR)(a1:MZ):Option (Int×jU):=
 (vN k a1.2.1 0 (zA (a0.1-1))).bind fun x0=>bif !x0 then some (1,(vU a0 []))
 else(vN k a1.2.2.2.1 1 3).bind fun x1=>bif !x1 then some (1,(vU a0 []))
 else(GH k (yR a0) a0.2.2.2.2.2.1 (a1.1,a0.2.2.2.2.2.2.2.2.2.2.2.2.2.2.2.2,a1.2)).bind fun x2=>bif !(decide (x2=0)) then some (x2,(vU a0 []))
 else(FZ k a0.2.2.2.2.2.2.2.2.2.2.2.2.2.1 a1.1).bind fun x3=>bif !(decide (x3.2=0)) then some (x3.2,(vU a0 []))
 else(xH k a0.2.2.2.2.2.2.2.2.2.2.2.2.1 (a1.1,a0.2.2.2.2.2.2.2.2.2.2.2.2.2.2.2.2,a1.2)).bind fun x4=>bif !(decide (x4.2=0)) then some (x4.2,(vU a0 [])) else some (0,(ku a0 (x4.1,x3.1,a0.2.2.2.2.2.2.2.2.2.2.2.2.2.2.1,a0.2.2.2.2.2.2.2.2.2.2.2.2.2.2.2.1,a0.2.2.2.2.2.2.2.2.2.2.2.2.2.2.2.2,[])))
def RQ (k:Nat)(a0:lR)(a1:zC):Option (Int×jU):=
 (qZm k (vU a0 []) a1.2.1).bind fun x0=>bif !(decide (x0.2=0)) then some (x0.2,(vU a0 [])) else bif decide (a1.1 = 2) then ((qy k a0.2.2.2.2.2.2.2.2.2.2.2.2.1 a1.2.1).bind fun x1=>(LS k (ku a0 (x1.1,a0.2.2.2.2.2.2.2.2.2.2.2.2.2)) 20 [a1.2.1]).bind fun x2=>some (x1.2.2.2.2.2.2.2.2,x2)) else bif decide (a1.1 = 4) then ((vN k a1.2.2.1 1 3).bind fun x3=>bif !x3 then some (1,(vU a0 []))
  else(B3 k (yR a0) a0.2.2.2.2.2.1 a1.2.2.1).bind fun x4=>bif !(decide (x4=0)) then some (x4,(vU a0 []))
  else(FU k a0.2.2.2.2.2.2.2.2.2.2.2.2.1 a1.2.1 a1.2.2.1).bind fun x5=>some (x5.2,(ku a0 (x5.1,(qQl a0 []))))) else bif decide (a1.2.2.1 = 0) then ((FX k a0.2.2.2.2.2.2.2.2.2.2.2.2.1 a1.2.1).bind fun x6=>some (x6.2,(ku a0 (x6.1,(qQl a0 []))))) else bif decide (a1.2.2.1 = 1) then ((FV k a0.2.2.2.2.2.2.2.2.2.2.2.2.1 a1.2.1).bind fun x7=>some (x7.2,(ku a0 (x7.1,(qQl a0 []))))) else some (1,(vU a0 []))
def RR (k:Nat)(a0:lR)(a1:zC):Option (Int×jU):=
 (gI k a0.2.2.2.2.2.2.1 a0.2.2.2.2.2.2.2.1 a0.2.2.2.2.2.2.2.2.1 a0.2.2.2.2.2.2.2.2.2.1).bind fun x0=>bif decide (a1.1 = 5) then ((qPl k (vU a0 []) a1.2.1).bind fun x1=>bif !x1 then some (1,(vU a0 []))
  else(vN k a1.2.2.1 (-1) 1152921504606846976).bind fun x2=>bif !x2 then some (1,(vU a0 [])) else bif zB a0.2.2.2.2.2.2.2.2.2.2.2.2.2.2.2.2 x0.2.1.length then (bif zB a1.2.1 (x0.2.1.getD a0.2.2.2.2.2.2.2.2.2.2.2.2.2.2.2.2.toNat []).length then (let y0:EQ:=(x0.2.1.set a0.2.2.2.2.2.2.2.2.2.2.2.2.2.2.2.2.toNat ((x0.2.1.getD a0.2.2.2.2.2.2.2.2.2.2.2.2.2.2.2.2.toNat []).set a1.2.1.toNat a1.2.2.1))
    some (0,(jJ a0 (x0.1,y0,x0.2.2.1,x0.2.2.2,(qNv a0 []))))) else none) else none) else bif decide (a1.1 = 6) then ((vN k a1.2.1 (-1) 1152921504606846976).bind fun x3=>bif !x3 then some (1,(vU a0 [])) else bif zB a0.2.2.2.2.2.2.2.2.2.2.2.2.2.2.2.2 x0.2.2.1.length then (let y1:AC:=(x0.2.2.1.set a0.2.2.2.2.2.2.2.2.2.2.2.2.2.2.2.2.toNat a1.2.1)
   some (0,(jJ a0 (x0.1,x0.2.1,y1,x0.2.2.2,(qNv a0 []))))) else none)
 else(vN k a1.2.1 0 1152921504606846976).bind fun x4=>bif !x4 then some (1,(vU a0 [])) else bif zB a0.2.2.2.2.2.2.2.2.2.2.2.2.2.2.2.2 x0.1.length then (let y2:List zJ:=(x0.1.set a0.2.2.2.2.2.2.2.2.2.2.2.2.2.2.2.2.toNat ((x0.1.getD a0.2.2.2.2.2.2.2.2.2.2.2.2.2.2.2.2.toNat (0,0,0)).1,(x0.1.getD a0.2.2.2.2.2.2.2.2.2.2.2.2.2.2.2.2.toNat (0,0,0)).2.1,a1.2.1))
  some (0,(jJ a0 (y2,x0.2.1,x0.2.2.1,x0.2.2.2,(qNv a0 []))))) else none
def vD5 (k:Nat)(a0:lR)(a1 a2:Int):Option (Int×jU):=
 (ME k (vU a0 []) a1).bind fun x0=>bif !x0 then some (1,(vU a0 []))
 else(vN k a2 0 1099511627776).bind fun x1=>bif !x1 then some (1,(vU a0 []))
 else(GI k a0.2.2.2.2.2.2.2.2.2.2.2.1).bind fun x2=>bif zB a0.2.2.2.2.2.2.2.2.2.2.2.2.2.2.2.2 x2.length then ((rf k (x2.getD a0.2.2.2.2.2.2.2.2.2.2.2.2.2.2.2.2.toNat []) a1 a2).bind fun x3=>bif zB a0.2.2.2.2.2.2.2.2.2.2.2.2.2.2.2.2 x2.length then (let y0:EQ:=(x2.set a0.2.2.2.2.2.2.2.2.2.2.2.2.2.2.2.2.toNat x3)
   bif zB a0.2.2.2.2.2.2.2.2.2.2.2.2.2.2.2.2 y0.length then ((sZ k a0.2.1 a0.2.2.2.2.2.2.2.2.2.2.1 (y0.getD a0.2.2.2.2.2.2.2.2.2.2.2.2.2.2.2.2.toNat [])).bind fun x4=>bif zB a0.2.2.2.2.2.2.2.2.2.2.2.2.2.2.2.2 a0.2.2.2.2.2.2.1.length then (bif !x4.2 then some (8,(vU a0 [])) else bif decide (x4.1>1152921504606846976) then some (8,(vU a0 [])) else bif decide (x4.1 < (a0.2.2.2.2.2.2.1.getD a0.2.2.2.2.2.2.2.2.2.2.2.2.2.2.2.2.toNat (0, 0, 0)).2.1) then (bif decide ((zA ((a0.2.2.2.2.2.2.1.getD a0.2.2.2.2.2.2.2.2.2.2.2.2.2.2.2.2.toNat (0,0,0)).1+x4.1))<0) then some (9,(vU a0 []))
      else(gI k a0.2.2.2.2.2.2.1 a0.2.2.2.2.2.2.2.1 a0.2.2.2.2.2.2.2.2.1 a0.2.2.2.2.2.2.2.2.2.1).bind fun x5=>bif zB a0.2.2.2.2.2.2.2.2.2.2.2.2.2.2.2.2 x5.1.length then (let y1:List zJ:=(x5.1.set a0.2.2.2.2.2.2.2.2.2.2.2.2.2.2.2.2.toNat ((x5.1.getD a0.2.2.2.2.2.2.2.2.2.2.2.2.2.2.2.2.toNat (0,0,0)).1,x4.1,(x5.1.getD a0.2.2.2.2.2.2.2.2.2.2.2.2.2.2.2.2.toNat (0,0,0)).2.2))
       some (0,(jJ a0 (y1,x5.2.1,x5.2.2.1,x5.2.2.2,a0.2.2.2.2.2.2.2.2.2.2.1,y0,(yI5 a0 []))))) else none)
     else(gI k a0.2.2.2.2.2.2.1 a0.2.2.2.2.2.2.2.1 a0.2.2.2.2.2.2.2.2.1 a0.2.2.2.2.2.2.2.2.2.1).bind fun x6=>bif zB a0.2.2.2.2.2.2.2.2.2.2.2.2.2.2.2.2 x6.1.length then (let y2:List zJ:=(x6.1.set a0.2.2.2.2.2.2.2.2.2.2.2.2.2.2.2.2.toNat ((x6.1.getD a0.2.2.2.2.2.2.2.2.2.2.2.2.2.2.2.2.toNat (0,0,0)).1,x4.1,(x6.1.getD a0.2.2.2.2.2.2.2.2.2.2.2.2.2.2.2.2.toNat (0,0,0)).2.2))
      some (0,(jJ a0 (y2,x6.2.1,x6.2.2.1,x6.2.2.2,a0.2.2.2.2.2.2.2.2.2.2.1,y0,(yI5 a0 []))))) else none) else none) else none) else none) else none
def B9 (k:Nat)(a0:lR)(a1 a2 a3:Int):Option (Int×jU):=
 (vN k a2 0 (zA (a0.1-1))).bind fun x0=>bif !x0 then some (1,(vU a0 []))
 else(vN k a3 1 1099511627776).bind fun x1=>bif !x1 then some (1,(vU a0 [])) else bif zB a2 a0.2.2.2.2.2.2.1.length then ((GZ k (a0.2.2.2.2.2.2.1.getD a2.toNat (0,0,0)) a3).bind fun x2=>bif decide (a1 = 11) then ((G0 k (a0.2.2.2.2.2.2.1.getD a2.toNat (0,0,0)) a3 3).bind fun x3=>(G1 k (a0.2.2.2.2.2.2.1.getD a2.toNat (0,0,0)) 3).bind fun x4=>bif decide (x4<a3) then some (9,(vU a0 [])) else bif decide ((zA (a0.2.2.2.2.2.2.2.2.2.2.2.2.2.2.1-a3))<0) then some (9,(vU a0 [])) else bif !(decide (x3.2=0)) then some (x3.2,(vU a0 [])) else bif decide ((zA (a0.2.2.2.2.2.2.2.2.2.2.2.2.2.2.1-a3))>1152921504606846976) then some (8,(vU a0 []))
   else(gI k a0.2.2.2.2.2.2.1 a0.2.2.2.2.2.2.2.1 a0.2.2.2.2.2.2.2.2.1 a0.2.2.2.2.2.2.2.2.2.1).bind fun x5=>bif zB a2 x5.1.length then some (0,(jJ a0 ((x5.1.set a2.toNat x3.1),x5.2.1,x5.2.2.1,x5.2.2.2,(Im a0 ((zA (a0.2.2.2.2.2.2.2.2.2.2.2.2.2.2.1-a3)),a0.2.2.2.2.2.2.2.2.2.2.2.2.2.2.2.1,a0.2.2.2.2.2.2.2.2.2.2.2.2.2.2.2.2,[]))))) else none) else bif !(decide (x2.2=0)) then some (x2.2,(vU a0 [])) else bif decide ((zA (a0.2.2.2.2.2.2.2.2.2.2.2.2.2.2.1+a3))>1152921504606846976) then some (8,(vU a0 []))
  else(gI k a0.2.2.2.2.2.2.1 a0.2.2.2.2.2.2.2.1 a0.2.2.2.2.2.2.2.2.1 a0.2.2.2.2.2.2.2.2.2.1).bind fun x6=>bif zB a2 x6.1.length then some (0,(jJ a0 ((x6.1.set a2.toNat x2.1),x6.2.1,x6.2.2.1,x6.2.2.2,(Im a0 ((zA (a0.2.2.2.2.2.2.2.2.2.2.2.2.2.2.1+a3)),a0.2.2.2.2.2.2.2.2.2.2.2.2.2.2.2.1,a0.2.2.2.2.2.2.2.2.2.2.2.2.2.2.2.2,[]))))) else none) else none
abbrev qYo:Type:=(lR×AC×(List zJ)×EQ×AC×EQ)⊕(Int×lR)
abbrev qPo:Type:=EQ→Int→Int→lR→AC→List zJ→EQ→AC→EQ→Option qYo
def G2 (k:Nat)(rec:qPo)(gQ:EQ)(jq lz:Int)(b0:lR)(r1:AC)(r3:List zJ)(m4:EQ)(r5:AC)(m6:EQ):Option qYo:=
 bif decide (lz < jq) then (bif zB lz gQ.length then ((sZ k b0.2.1 r1 (gQ.getD lz.toNat [])).bind fun x4=>bif !x4.2 then some (.inr (8,b0)) else bif decide (x4.1>1152921504606846976) then some (.inr (8,b0)) else bif zB lz r3.length then (let y0:List zJ:=(r3.set lz.toNat ((r3.getD lz.toNat (0,0,0)).1,x4.1,(r3.getD lz.toNat (0,0,0)).2.2))
    rec gQ jq (zA (lz+1)) b0 r1 y0 m4 r5 m6) else none) else none) else some (.inl (b0,r1,r3,m4,r5,m6))
def uZ (k:Nat):Nat→qPo:=yD (fun _ _ _ _ _ _ _ _ _=>none) (G2 k)
def Qv (k:Nat)(a0:lR)(a1 a2:Int):Option (Int×jU):=
 (ME k (vU a0 []) a1).bind fun x0=>bif !x0 then some (1,(vU a0 []))
 else(vN k a2 0 1048576).bind fun x1=>bif !x1 then some (1,(vU a0 []))
 else(rf k a0.2.2.2.2.2.2.2.2.2.2.1 a1 a2).bind fun x2=>(gI k a0.2.2.2.2.2.2.1 a0.2.2.2.2.2.2.2.1 a0.2.2.2.2.2.2.2.2.1 a0.2.2.2.2.2.2.2.2.2.1).bind fun x3=>(uZ k k a0.2.2.2.2.2.2.2.2.2.2.2.1 (a0.2.2.2.2.2.2.2.2.2.2.2.1.length:Int) 0 a0 x2 x3.1 x3.2.1 x3.2.2.1 x3.2.2.2).bind fun z=>match z with
 |.inl z1=>some (0,(jJ z1.1 (Cb z1 (z1.2.1,(YY z1.1 [])))))
 |.inr z2=>some (jP z2 [])
def yl (k:Nat)(a0:lR)(a1:zC):Option (Int×jU):=
 bif decide (a1.1 = 1) then ((yVr k a0 a1.2).bind fun x0=>some (x0.1,x0.2)) else bif decide (a1.1 = 2) then ((RQ k a0 a1).bind fun x1=>some (x1.1,x1.2)) else bif decide (a1.1 = 3) then ((RQ k a0 a1).bind fun x2=>some (x2.1,x2.2)) else bif decide (a1.1 = 4) then ((RQ k a0 a1).bind fun x3=>some (x3.1,x3.2)) else bif decide (a1.1 = 5) then ((RR k a0 a1).bind fun x4=>some (x4.1,x4.2)) else bif decide (a1.1 = 6) then ((RR k a0 a1).bind fun x5=>some (x5.1,x5.2)) else bif decide (a1.1 = 7) then ((RR k a0 a1).bind fun x6=>some (x6.1,x6.2)) else bif decide (a1.1 = 8) then ((vD5 k a0 a1.2.1 a1.2.2.1).bind fun x7=>some (x7.1,x7.2)) else bif decide (a1.1 = 10) then ((B9 k a0 a1.1 a1.2.1 a1.2.2.1).bind fun x8=>some (x8.1,x8.2)) else bif decide (a1.1 = 11) then ((B9 k a0 a1.1 a1.2.1 a1.2.2.1).bind fun x9=>some (x9.1,x9.2)) else bif decide (a1.1 = 12) then ((Qv k a0 a1.2.1 a1.2.2.1).bind fun bZ=>some (bZ.1,bZ.2)) else some (0,(vU a0 []))
def ig (k:Nat)(a0:vF)(a1:yG)(a2:qE):Option (yG×(List qE)×Int):=
 (uV k a0 a1 a2).bind fun x0=>bif !(decide (x0=0)) then some (a1,[],x0) else bif decide (a2.2.1 = 9) then ((Cp k a1 a2.1).bind fun x1=>some (a1,x1,0)) else bif !(decide (a2.1 = (-1))) then ((LS k (jG a0 (vT a1 a2.1)) 15 []).bind fun x2=>(Hu k x2 a2.2).bind fun x3=>bif !(decide (x3.1=0)) then some (a1,[],x3.1) else bif decide (a2.2.1 = 14) then ((uR k a0.1 a0.2.1 a0.2.2.1 a0.2.2.2.1 a0.2.2.2.2 a1.1 a1.2.1 a1.2.2.1 a1.2.2.2.1 a1.2.2.2.2.1 a1.2.2.2.2.2.1 a1.2.2.2.2.2.2.1 a1.2.2.2.2.2.2.2.1 a1.2.2.2.2.2.2.2.2.1 a1.2.2.2.2.2.2.2.2.2.1 a1.2.2.2.2.2.2.2.2.2.2).bind fun x4=>some ((qQ x4),x4.2.2.2.2.2.2.2.2.2.2.2,0))
  else(pF k x3.2.2.2.2.2.2.1 x3.2.2.2.2.2.2.2.1 x3.2.2.2.2.2.2.2.2.1 x3.2.2.2.2.2.2.2.2.2.1 x3.2.2.2.2.2.2.2.2.2.2.1 x3.2.2.2.2.2.2.2.2.2.2.2.1 x3.2.2.2.2.2.2.2.2.2.2.2.2.1 x3.2.2.2.2.2.2.2.2.2.2.2.2.2.1 x3.2.2.2.2.2.2.2.2.2.2.2.2.2.2.1 x3.2.2.2.2.2.2.2.2.2.2.2.2.2.2.2.1 x3.2.2.2.2.2.2.2.2.2.2.2.2.2.2.2.2.1 (decide (a2.2.1=13))).bind fun x5=>bif zL (x3.2.2.2.2.2.2.2.2.2.2.2.2.2.2.2.2.2.2.length + x5.2.2.2.2.2.2.2.2.2.2.2.length) 64 then (let y0:List qE:=(x3.2.2.2.2.2.2.2.2.2.2.2.2.2.2.2.2.2.2++x5.2.2.2.2.2.2.2.2.2.2.2)
   bif decide (a2.2.1 = 1) then ((oz k x5.2.2.2.2.2.2.2.1 a2.2.2.1).bind fun x6=>bif decide (x6 ≥ 0) then ((uU k (Hv x3 y0) 19 [a2.2.2.1]).bind fun x7=>some ((qQ x5),x7.2.2.2.2.2.2.2.2.2.2.2.2.2.2.2.2.2,0)) else some ((qQ x5),y0,0)) else some ((qQ x5),y0,0)) else none)
 else(yl k (jG a0 (vT a1 a2.1)) a2.2).bind fun x8=>bif !(decide (x8.1=0)) then some (a1,[],x8.1) else bif decide (a2.2.1 = 14) then ((uR k a0.1 a0.2.1 a0.2.2.1 a0.2.2.2.1 a0.2.2.2.2 a1.1 a1.2.1 a1.2.2.1 a1.2.2.2.1 a1.2.2.2.2.1 a1.2.2.2.2.2.1 a1.2.2.2.2.2.2.1 a1.2.2.2.2.2.2.2.1 a1.2.2.2.2.2.2.2.2.1 a1.2.2.2.2.2.2.2.2.2.1 a1.2.2.2.2.2.2.2.2.2.2).bind fun x9=>some ((qQ x9),x9.2.2.2.2.2.2.2.2.2.2.2,0))
 else(pF k x8.2.2.2.2.2.2.1 x8.2.2.2.2.2.2.2.1 x8.2.2.2.2.2.2.2.2.1 x8.2.2.2.2.2.2.2.2.2.1 x8.2.2.2.2.2.2.2.2.2.2.1 x8.2.2.2.2.2.2.2.2.2.2.2.1 x8.2.2.2.2.2.2.2.2.2.2.2.2.1 x8.2.2.2.2.2.2.2.2.2.2.2.2.2.1 x8.2.2.2.2.2.2.2.2.2.2.2.2.2.2.1 x8.2.2.2.2.2.2.2.2.2.2.2.2.2.2.2.1 x8.2.2.2.2.2.2.2.2.2.2.2.2.2.2.2.2.1 (decide (a2.2.1=13))).bind fun bZ=>bif zL (x8.2.2.2.2.2.2.2.2.2.2.2.2.2.2.2.2.2.2.length + bZ.2.2.2.2.2.2.2.2.2.2.2.length) 64 then (let y1:List qE:=(x8.2.2.2.2.2.2.2.2.2.2.2.2.2.2.2.2.2.2++bZ.2.2.2.2.2.2.2.2.2.2.2)
  bif decide (a2.2.1 = 1) then ((oz k bZ.2.2.2.2.2.2.2.1 a2.2.2.1).bind fun du=>bif decide (du ≥ 0) then ((uU k (Hv x8 y1) 19 [a2.2.2.1]).bind fun dU=>some ((qQ bZ),dU.2.2.2.2.2.2.2.2.2.2.2.2.2.2.2.2.2,0)) else some ((qQ bZ),y1,0)) else some ((qQ bZ),y1,0)) else none
def vk (k:Nat)(bm:fV)(dB:vX)(a1:AC):Option (Int×fV×vX):=
 (Ma k dB (zA (1-bm.1)) (zA (bm.2.1+1)) a1).bind fun x0=>bif decide (x0.1=0) then some (x0.1,((zA (1-bm.1)),(zA (bm.2.1+1)),0,false),x0.2) else some (x0.1,bm,x0.2)
def Zz (k:Nat)(a0:Int):Option Bool:=
 (vN k a0 0 1048576).bind fun x0=>some (!x0)
def HB (k:Nat)(rec:qY7)(s0:AC)(s7 s8:Int):Option (Unit⊕Int):=
 bif decide (s8 < s7) then (bif zB s8 s0.length then ((Zz k (s0.getD s8.toNat 0)).bind fun x0=>bif x0 then some (.inr s8) else rec s0 s7 (zA (s8+1))) else none) else some (.inl ())
def Cu (k:Nat):Nat→qY7
 |0,_,_,_=>none
 |n+1,s0,s7,s8=>HB k (Cu k n) s0 s7 s8
def ZA (k:Nat)(a0:AC):Option Int:=
 (Cu k k a0 (a0.length:Int) 0).bind fun z=>match z with
 |.inl z1=>some (-1)
 |.inr z2=>some z2
def L4 (k:Nat)(a0:AC):Option Bool:=
 (ZA k a0).bind fun x0=>some (decide (x0≥0))
def ZC (k:Nat)(a0:Int):Option Bool:=
 some (decide (a0>1099511627776))
def HC (k:Nat)(rec:qY7)(s0:AC)(s7 s8:Int):Option (Unit⊕Int):=
 bif decide (s8 < s7) then (bif zB s8 s0.length then ((ZC k (s0.getD s8.toNat 0)).bind fun x0=>bif x0 then some (.inr s8) else rec s0 s7 (zA (s8+1))) else none) else some (.inl ())
def Cv (k:Nat):Nat→qY7
 |0,_,_,_=>none
 |n+1,s0,s7,s8=>HC k (Cv k n) s0 s7 s8
def ZD (k:Nat)(a0:AC):Option Int:=
 (Cv k k a0 (a0.length:Int) 0).bind fun z=>match z with
 |.inl z1=>some (-1)
 |.inr z2=>some z2
def QS (k:Nat)(a0:AC):Option Bool:=
 (ZD k a0).bind fun x0=>some (decide (x0≥0))
abbrev qS4:Type:=EQ→Int→Int→vF→yG→Option (Unit⊕Bool)
def HD (k:Nat)(rec:qS4)(lT:EQ)(fY mN:Int)(b0:vF)(b1:yG):Option (Unit⊕Bool):=
 bif decide (mN < fY) then (bif zB mN lT.length then ((sZ k b0.2.1 b1.2.2.2.2.2.1 (lT.getD mN.toNat [])).bind fun x1=>bif !x1.2 then some (.inr false) else bif decide (x1.1>1152921504606846976) then some (.inr false) else bif zB mN b1.2.1.length then (bif !(decide (x1.1=(b1.2.1.getD mN.toNat (0,0,0)).2.1)) then some (.inr false)
    else(QS k (lT.getD mN.toNat [])).bind fun x2=>bif x2 then some (.inr false) else rec lT fY (zA (mN+1)) b0 b1) else none) else none) else some (.inl ())
def ym (k:Nat):Nat→qS4:=yD (fun _ _ _ _ _=>none) (HD k)
def L5 (k:Nat)(a0:vF)(a1:yG):Option Bool:=
 bif !(decide ((a1.2.2.2.2.2.1.length:Int)=(a0.2.1.length:Int))) then some false else bif !(decide ((a1.2.2.2.2.2.2.1.length:Int)=a0.1)) then some false
 else(L4 k a1.2.2.2.2.2.1).bind fun x0=>bif x0 then some false
 else(ym k k a1.2.2.2.2.2.2.1 (a1.2.2.2.2.2.2.1.length:Int) 0 a0 a1).bind fun z=>match z with
 |.inl z1=>some true
 |.inr z2=>some z2
abbrev qJ9:Type:=List zC→Int→Option (Unit⊕Bool)
def QP (k:Nat)(rec:qJ9)(s0:List zC)(s5:Int):Option (Unit⊕Bool):=
 bif decide (s5 > 0) then (bif zB s5 s0.length then (bif zB (zA (s5 - 1)) s0.length then ((FP k (s0.getD s5.toNat (0,0,0,0,0,0,0)).1 (s0.getD s5.toNat (0,0,0,0,0,0,0)).2.1 (s0.getD s5.toNat (0,0,0,0,0,0,0)).2.2.1 (s0.getD s5.toNat (0,0,0,0,0,0,0)).2.2.2.1 (s0.getD s5.toNat (0,0,0,0,0,0,0)).2.2.2.2.1 (s0.getD s5.toNat (0,0,0,0,0,0,0)).2.2.2.2.2.1 (s0.getD s5.toNat (0,0,0,0,0,0,0)).2.2.2.2.2.2 (s0.getD (zA (s5-1)).toNat (0,0,0,0,0,0,0)).1 (s0.getD (zA (s5-1)).toNat (0,0,0,0,0,0,0)).2.1 (s0.getD (zA (s5-1)).toNat (0,0,0,0,0,0,0)).2.2.1 (s0.getD (zA (s5-1)).toNat (0,0,0,0,0,0,0)).2.2.2.1 (s0.getD (zA (s5-1)).toNat (0,0,0,0,0,0,0)).2.2.2.2.1 (s0.getD (zA (s5-1)).toNat (0,0,0,0,0,0,0)).2.2.2.2.2.1 (s0.getD (zA (s5-1)).toNat (0,0,0,0,0,0,0)).2.2.2.2.2.2).bind fun x0=>bif decide (x0<0) then some (.inr false) else rec s0 (zA (s5-1))) else none) else none) else some (.inl ())
def LV (k:Nat):Nat→qJ9:=yD (fun _ _=>none) (QP k)
def QO (k:Nat)(a0:List zC):Option Bool:=
 (LV k k a0 (zA ((a0.length:Int)-1))).bind fun z=>match z with
 |.inl z1=>some true
 |.inr z2=>some z2
abbrev qQ3:Type:=(List zC)⊕Bool
abbrev qVs:Type:=List zC→List zC→Int→Int→Option qQ3
def Hy (k:Nat)(rec:qVs)(s0 s5:List zC)(s6 s7:Int):Option qQ3:=
 bif decide (s7 < s6) then (bif zB s7 s5.length then ((oz k s0 (s5.getD s7.toNat (0,0,0,0,0,0,0)).1).bind fun x0=>bif !(decide (x0=s7)) then some (.inr false) else rec s0 s5 s6 (zA (s7+1))) else none) else some (.inl s0)
def Cr (k:Nat):Nat→qVs
 |0,_,_,_,_=>none
 |n+1,s0,s5,s6,s7=>Hy k (Cr k n) s0 s5 s6 s7
def LU (k:Nat)(a0:List zC):Option Bool:=
 (Cr k k a0 a0 (a0.length:Int) 0).bind fun z=>match z with
 | .inl z1 => bif decide ((z1.length : Int) ≤ 40) then ((QO k z1).bind fun x1=>some x1) else some false
 |.inr z2=>some z2
abbrev qVk:Type:=AC→Int→AC→Int→Int→Option (AC⊕Bool)
def Hz (k:Nat)(rec:qVk)(s0:AC)(s3:Int)(s6:AC)(s7 s8:Int):Option (AC⊕Bool):=
 bif decide (s8 < s7) then (bif zB s8 s6.length then (bif decide ((s6.getD s8.toNat 0)≤s3) then some (.inr false) else rec s0 (s6.getD s8.toNat 0) s6 s7 (zA (s8+1))) else none) else some (.inl s0)
def LX (k:Nat):Nat→qVk:=yD (fun _ _ _ _ _=>none) (Hz k)
def LW (k:Nat)(a0:AC):Option Bool:=
 (LX k k a0 0 a0 (a0.length:Int) 0).bind fun z=>match z with
 |.inl z1=>some (decide ((z1.length:Int)≤200))
 |.inr z2=>some z2
def PJ (k:Nat)(a0:AC)(a1:Int):Option Bool:=
 (FY k a0 a1).bind fun x0=>some x0.2
def QR (k:Nat)(a0:zC)(a1:yG):Option Bool:=
 (E2 k a1.2.1 a1.2.2.1 a1.2.2.2.1 a1.2.2.2.2.1 a0.1 a0.2.1 a0.2.2.1 a0.2.2.2.1 a0.2.2.2.2.1 a0.2.2.2.2.2.1 a0.2.2.2.2.2.2).bind fun x0=>bif !x0 then some true else bif decide (a0.2.2.2.2.2.1<0) then some true
 else(vN k a0.2.2.2.2.2.2 a0.2.2.2.2.2.1 1048576).bind fun x1=>bif !x1 then some true
 else(PJ k a1.2.2.2.2.2.2.2.2.1 a0.1).bind fun x2=>some (!x2)
abbrev yAh:Type:=List zC→Int→Int→Int→List zJ→EQ→AC→EQ→AC→EQ→List zC→AC→Int→Bool→Option (Unit⊕Int)
def HA (k:Nat)(rec:yAh)(s0:List zC)(s7 s8 af:Int)(ai:List zJ)(aj:EQ)(ah:AC)(aY:EQ)(bq:AC)(bx:EQ)(dX:List zC)(dY:AC)(dZ:Int)(cf:Bool):Option (Unit⊕Int):=
 bif decide (s8 < s7) then (bif zB s8 s0.length then ((QR k (s0.getD s8.toNat (0,0,0,0,0,0,0)) (af,ai,aj,ah,aY,bq,bx,dX,dY,dZ,cf)).bind fun x0=>bif x0 then some (.inr s8) else rec s0 s7 (zA (s8+1)) af ai aj ah aY bq bx dX dY dZ cf) else none) else some (.inl ())
def Ct (k:Nat):Nat→yAh
 |0,_,_,_,_,_,_,_,_,_,_,_,_,_,_=>none
 |n+1,s0,s7,s8,af,ai,aj,ah,aY,bq,bx,dX,dY,dZ,cf=>HA k (Ct k n) s0 s7 s8 af ai aj ah aY bq bx dX dY dZ cf
def Zy (k:Nat)(a0:List zC)(gw:Int)(bX:List zJ)(cI:EQ)(cJ:AC)(cL:EQ)(dH:AC)(eW:EQ)(gx:List zC)(j5:AC)(eX:Int)(gy:Bool):Option Int:=
 (Ct k k a0 (a0.length:Int) 0 gw bX cI cJ cL dH eW gx j5 eX gy).bind fun z=>match z with
 |.inl z1=>some (-1)
 |.inr z2=>some z2
def QQ (k:Nat)(a0:List zC)(gw:Int)(bX:List zJ)(cI:EQ)(cJ:AC)(cL:EQ)(dH:AC)(eW:EQ)(gx:List zC)(j5:AC)(eX:Int)(gy:Bool):Option Bool:=
 (Zy k a0 gw bX cI cJ cL dH eW gx j5 eX gy).bind fun x0=>some (decide (x0≥0))
def LY (k:Nat)(a0:yG):Option Bool:=
 (LU k a0.2.2.2.2.2.2.2.1).bind fun x0=>bif x0 then ((LW k a0.2.2.2.2.2.2.2.2.1).bind fun x1=>bif x1 then ((QQ k a0.2.2.2.2.2.2.2.1 a0.1 a0.2.1 a0.2.2.1 a0.2.2.2.1 a0.2.2.2.2.1 a0.2.2.2.2.2.1 a0.2.2.2.2.2.2.1 a0.2.2.2.2.2.2.2.1 a0.2.2.2.2.2.2.2.2.1 a0.2.2.2.2.2.2.2.2.2.1 a0.2.2.2.2.2.2.2.2.2.2).bind fun x2=>some (!x2)) else some false) else some false
abbrev yAm:Type:=vF×yG×AC
abbrev qM0:Type:=List zJ→Int→Int→vF→yG→AC→Option yAm
def HF (k:Nat)(rec:qM0)(oO:List zJ)(s45 SO:Int)(b0:vF)(b1:yG)(r2:AC):Option yAm:=
 bif decide (SO < s45) then (bif zB SO oO.length then (bif zL (r2.length+1) 8 then(rec oO s45 (zA (SO+1)) b0 b1 (r2++[(oO.getD SO.toNat (0,0,0)).1])) else none) else none) else some (b0,b1,r2)
def HE (k:Nat):Nat→qM0:=yD (fun _ _ _ _ _ _=>none) (HF k)
def L6 (k:Nat)(a0:vF)(a1:yG):Option Bool:=
 (vN k a1.1 0 a0.2.2.2.1).bind fun x0=>bif !x0 then some false
 else(Bz k a1.2.1 a1.2.2.1 a1.2.2.2.1 a1.2.2.2.2.1).bind fun x1=>bif !x1 then some false else bif !(decide ((a1.2.1.length:Int)=a0.1)) then some false
 else(L5 k a0 a1).bind fun x2=>bif !x2 then some false
 else(LY k a1).bind fun x3=>bif !x3 then some false
 else(HE k k a1.2.1 (a1.2.1.length:Int) 0 a0 a1 []).bind fun z=>(F0 k z.2.2).bind fun x4=>bif !x4.2 then some false else bif !(decide (x4.1=z.2.1.2.2.2.2.2.2.2.2.2.1)) then some false
 else(vN k x4.1 0 1152921504606846976).bind fun x5=>bif !x5 then some false
 else(B2 k z.1.1 z.1.2.1 z.1.2.2.1 z.1.2.2.2.1 z.1.2.2.2.2 z.2.1.1).bind fun x6=>bif mR z.2.1.2.2.2.2.2.2.2.2.2.2 x6 then (bif !z.2.1.2.2.2.2.2.2.2.2.2.2 then some true else some (decide ((z.2.1.2.2.2.2.2.2.2.1.length:Int)=0))) else some false
abbrev qX1:Type:=Int×Bool×tw×AC×AC×vF×fV×yG
abbrev qJn:Type:=Int→Bool→EQ→Int→Int→tw→AC→AC→vF→fV→yG→Option qX1
def yr (k:Nat)(rec:qJn)(s2:Int)(bB:Bool)(SP:EQ)(s73 M7:Int)(b0:tw)(r1 r2:AC)(b3:vF)(b4:fV)(b5:yG):Option qX1:=
 bif decide (M7 < s73) then (bif zB M7 SP.length then ((tg k (SP.getD M7.toNat [])).bind fun x8=>bif decide (x8.2 = 0) then ((ig k b3 b5 x8.1).bind fun x9=>rec s2 bB SP s73 (zA (M7+1)) b0 r1 r2 b3 b4 x9.1) else rec s2 bB SP s73 (zA (M7+1)) b0 r1 r2 b3 b4 b5) else none) else some (s2,bB,b0,r1,r2,b3,b4,b5)
def yq (k:Nat):Nat→qJn:=yD (fun _ _ _ _ _ _ _ _ _ _ _=>none) (yr k)
def fB (k:Nat)(a0:vF)(a1:vX)(a2:Int):Option ((Int×vX×nK×fV)⊕(Int×vX)):=
 (nG k a0).bind fun x0=>bif !x0 then some (.inr (1,a1)) else bif decide (a2<1) then some (.inr (1,a1)) else bif decide (a2>1000) then some (.inr (1,a1))
 else(Mh k a1).bind fun x1=>(ru k a0).bind fun x2=>(mr k x2).bind fun x3=>(QW k a1 x3).bind fun x4=>match x4 with
 |.inl x5=>bif !(decide (x5.2.2.1=0)) then some (.inr (x5.2.2.1,x5.2.2.2.1))
  else(Mk k x5.1).bind fun x6=>bif !x6.2 then ((ru k a0).bind fun x7=>(yq k k a2 x1.2.2.2.2 x5.2.1 (x5.2.1.length:Int) 0 (x5.2.2.2.1.1,x5.2.2.2.1.2.2.1,x5.2.2.2.1.2.2.2.2) x5.2.2.2.1.2.1 x5.2.2.2.1.2.2.2.1 a0 x5.2.2.2.2 x7).bind fun z=>bif z.2.1 then ((mr k z.2.2.2.2.2.2.2).bind fun bZ=>(vk k z.2.2.2.2.2.2.1 (z.2.2.1.1,z.2.2.2.1,z.2.2.1.2.1,z.2.2.2.2.1,z.2.2.1.2.2) bZ).bind fun du=>bif !(decide (du.1=0)) then some (.inr (du.1,du.2.2)) else some (.inl (0,du.2.2,(jG z.2.2.2.2.2.1 (Iq z (z.1,false))),du.2.1))) else some (.inl (0,(z.2.2.1.1,z.2.2.2.1,z.2.2.1.2.1,z.2.2.2.2.1,z.2.2.1.2.2),(jG z.2.2.2.2.2.1 (Iq z (z.1,false))),z.2.2.2.2.2.2.1)))
  else(L6 k a0 x6.1).bind fun dU=>bif !dU then ((ru k a0).bind fun mC=>(yq k k a2 x1.2.2.2.2 x5.2.1 (x5.2.1.length:Int) 0 (x5.2.2.2.1.1,x5.2.2.2.1.2.2.1,x5.2.2.2.1.2.2.2.2) x5.2.2.2.1.2.1 x5.2.2.2.1.2.2.2.1 a0 x5.2.2.2.2 mC).bind fun z1=>bif z1.2.1 then ((mr k z1.2.2.2.2.2.2.2).bind fun oH=>(vk k z1.2.2.2.2.2.2.1 (z1.2.2.1.1,z1.2.2.2.1,z1.2.2.1.2.1,z1.2.2.2.2.1,z1.2.2.1.2.2) oH).bind fun bO=>bif !(decide (bO.1=0)) then some (.inr (bO.1,bO.2.2)) else some (.inl (0,bO.2.2,(jG z1.2.2.2.2.2.1 (Iq z1 (z1.1,false))),bO.2.1))) else some (.inl (0,(z1.2.2.1.1,z1.2.2.2.1,z1.2.2.1.2.1,z1.2.2.2.2.1,z1.2.2.1.2.2),(jG z1.2.2.2.2.2.1 (Iq z1 (z1.1,false))),z1.2.2.2.2.2.2.1)))
  else(yq k k a2 x1.2.2.2.2 x5.2.1 (x5.2.1.length:Int) 0 (x5.2.2.2.1.1,x5.2.2.2.1.2.2.1,x5.2.2.2.1.2.2.2.2) x5.2.2.2.1.2.1 x5.2.2.2.1.2.2.2.1 a0 x5.2.2.2.2 x6.1).bind fun z2=>bif z2.2.1 then ((mr k z2.2.2.2.2.2.2.2).bind fun gP=>(vk k z2.2.2.2.2.2.2.1 (z2.2.2.1.1,z2.2.2.2.1,z2.2.2.1.2.1,z2.2.2.2.2.1,z2.2.2.1.2.2) gP).bind fun eH=>bif !(decide (eH.1=0)) then some (.inr (eH.1,eH.2.2)) else some (.inl (0,eH.2.2,(jG z2.2.2.2.2.2.1 (Iq z2 (z2.1,false))),eH.2.1))) else some (.inl (0,(z2.2.2.1.1,z2.2.2.2.1,z2.2.2.1.2.1,z2.2.2.2.2.1,z2.2.2.1.2.2),(jG z2.2.2.2.2.2.1 (Iq z2 (z2.1,false))),z2.2.2.2.2.2.2.1))
 |.inr mD=>bif !(decide (mD.2.2.1=0)) then some (.inr (mD.2.2.1,mD.2.2.2))
  else(Mk k mD.1).bind fun je=>bif !je.2 then ((ru k a0).bind fun eI=>none)
  else(L6 k a0 je.1).bind fun lK=>bif !lK then ((ru k a0).bind fun mE=>none) else none
def yWj (k:Nat)(rec:qNw)(s0 s1 s6:Int)(r0:AC):Option AC:=
 bif decide (s6 < s0) then (bif zB s6 r0.length then(rec s0 s1 (zA (s6+1)) (r0.set s6.toNat s1)) else none) else some r0
def RV (k:Nat):Nat→qNw
 |0,_,_,_,_=>none
 |n+1,s0,s1,s6,r0=>yWj k (RV k n) s0 s1 s6 r0
def qSl (k:Nat)(a0 a1:Int):Option AC:=
 bif decide (a0<0) then some [] else bif decide (a0>6) then some [] else bif qe a0 a0 8 then ((RV k k a0 a1 0 (List.replicate a0.toNat (0:Int))).bind fun z=>some z) else none
abbrev qJl:Type:=Int→Int→Int→EQ→Option EQ
def yLo (k:Nat)(rec:qJl)(s0 s1 s6:Int)(m0:EQ):Option EQ:=
 bif decide (s6 < s0) then ((qSl k s0 s1).bind fun x0=>bif zL (m0.length+1) 24 then(rec s0 s1 (zA (s6+1)) (m0++[x0])) else none) else some m0
def RW (k:Nat):Nat→qJl
 |0,_,_,_,_=>none
 |n+1,s0,s1,s6,m0=>yLo k (RW k n) s0 s1 s6 m0
def qWe (k:Nat)(a0 a1:Int):Option EQ:=
 bif decide (a0<0) then some [] else bif decide (a0>6) then some []
 else(RW k k a0 a1 0 []).bind fun z=>some z
abbrev qUq:Type:=Int→Int→vF→yK→yK→List zJ→EQ→AC→EQ→AC→Option qO2
def vC5 (k:Nat)(rec:qUq)(s3 s5:Int)(b0:vF)(b1 b2:yK)(r3:List zJ)(m4:EQ)(r5:AC)(m6:EQ)(r7:AC):Option qO2:=
 bif decide (s5 < (b0.2.1.length : Int)) then (bif zB s5 b0.2.1.length then (bif zL (r7.length+1) 8 then(rec s3 (zA (s5+1)) b0 b1 b2 r3 m4 r5 m6 (r7++[(b0.2.1.getD s5.toNat (0,0)).1])) else none) else none) else some (s3,b0,b1,b2,r3,m4,r5,m6,r7)
def qLu (k:Nat):Nat→qUq:=yD (fun _ _ _ _ _ _ _ _ _ _=>none) (vC5 k)
def yG6 (k:Nat)(rec:qQg)(s3 s6:Int)(b0:vF)(b1 b2:yK)(r3:List zJ)(m4:EQ)(r5:AC)(m6:EQ)(r7:AC)(m8:EQ):Option yAl:=
 bif decide (s6 < s3) then (bif qe (b0.2.1.length : Int) (b0.2.1.length : Int) 8 then (bif zL (m8.length+1) 24 then(rec s3 (zA (s6+1)) b0 b1 b2 r3 m4 r5 m6 r7 (m8++[(List.replicate b0.2.1.length (0:Int))])) else none) else none) else some (b1,b2,r3,m4,r5,m6,r7,m8)
def qNz (k:Nat):Nat→qQg:=yD (fun _ _ _ _ _ _ _ _ _ _ _=>none) (yG6 k)
def qTy (k:Nat)(a0:vF):Option yG:=
 bif qe a0.1 a0.1 24 then ((qWe k a0.1 (-1)).bind fun x0=>(qSl k a0.1 (-1)).bind fun x1=>(qWe k a0.1 0).bind fun x2=>(qLu k k a0.1 0 a0 (0,0,false) (0,0,false) (List.replicate a0.1.toNat ((0,0,0):Int×Int×Int)) x0 x1 x2 []).bind fun z=>(qNz k k z.1 0 z.2.1 z.2.2.1 z.2.2.2.1 z.2.2.2.2.1 z.2.2.2.2.2.1 z.2.2.2.2.2.2.1 z.2.2.2.2.2.2.2.1 z.2.2.2.2.2.2.2.2 []).bind fun z1=>some (z1.2.1.1,(yIu z1 ([],[],z1.2.1.2)))) else none
def RZ (k:Nat)(a0:vX)(a1:wD):Option vX:=
 some (pO a0 (a1.1,a1.2,true,a0.2.2.2.2.2.2.2.2))
def lk (k:Nat)(bm:nK)(dB:fV)(mL:vX):Option (Bool×nK×fV×vX):=
 some (bm.2.2.2.2.2.2.2.2.2.2.2.2.2.2.2.2.2,bm,dB,mL)
def MM (k:Nat)(a0 a1:Int):Option (List qE):=
 some [(a0,16,a1,0,0,0,0,0)]
def YA (k:Nat)(a0:zC):Option AC:=
 (lJ k a0).bind fun x0=>bif !x0 then some []
 else(ux k a0.1).bind fun x1=>bif (decide (0 ≤ x1)) && (decide (x1 ≤ 6)) then ((xx k (qR [a0.2.1,a0.2.2.1,a0.2.2.2.1,a0.2.2.2.2.1,a0.2.2.2.2.2.1,a0.2.2.2.2.2.2] 0 (x1.toNat-0))).bind fun x2=>bif zL (1+x2.length) 1 then some ([(IntKind.wrap .u8 (a0.1))]++x2) else none) else none
def Qd (k:Nat)(a0:qE):Option AC:=
 (YA k a0.2).bind fun x0=>bif decide ((x0.length:Int)=0) then some []
 else(xx k [a0.1]).bind fun x1=>bif zL (x1.length+x0.length) 1 then some (x1++x0) else none
def Md (k:Nat)(bm:fV)(dB:vX)(a1:AC):Option (Int×fV×vX):=
 (JS k a1).bind fun x0=>bif !x0.2 then some (10,bm,dB) else bif bm.2.2.2 then some (10,bm,dB)
 else(yn k dB bm.1 x0.1).bind fun x1=>bif decide (x1.1=3) then some (10,bm,x1.2) else bif decide (x1.1 = 0) then ((vj k x1.2).bind fun x2=>bif decide (x2.1=0) then some (x2.1,(bm.1,bm.2.1,(zA (bm.2.2.1+1)),bm.2.2.2),x2.2) else some (x2.1,bm,x2.2)) else bif decide (x1.1=0) then some (x1.1,(bm.1,bm.2.1,(zA (bm.2.2.1+1)),bm.2.2.2),x1.2) else some (x1.1,bm,x1.2)
def Q1 (k:Nat)(bm:nK)(dB:fV)(mL:vX)(a1:AC):Option (Int×nK×fV×vX):=
 (Md k dB mL a1).bind fun x0=>bif !(decide (x0.1=10)) then some (x0.1,bm,x0.2.1,x0.2.2)
 else(mr k (rz bm)).bind fun x1=>(vk k x0.2.1 x0.2.2 x1).bind fun x2=>bif !(decide (x2.1=0)) then some (x2.1,bm,x2.2.1,x2.2.2)
 else(Md k x2.2.1 x2.2.2 a1).bind fun x3=>some (x3.1,bm,x3.2.1,x3.2.2)
def Q2 (k:Nat)(bm:fV)(dB:vX):Option (Int×fV×vX):=
 some (bm.2.2.1,bm,dB)
def Mn (k:Nat)(bm:nK)(dB:fV)(mL:vX)(a1:Int)(a2:AC):Option ((List qE)×nK×fV×vX):=
 (lk k bm dB mL).bind fun x0=>bif x0.1 then some ([],x0.2.1,x0.2.2.1,x0.2.2.2)
 else(uy k a2).bind fun x1=>bif !(decide (x1.2 = 0)) then ((MM k a1 x1.2).bind fun x2=>some (x2,x0.2.1,x0.2.2.1,x0.2.2.2))
 else(ig k (yR x0.2.1) (rz x0.2.1) (a1,x1.1)).bind fun x3=>bif !(decide (x3.2.2 = 0)) then ((MM k a1 x3.2.2).bind fun x4=>some (x4,x0.2.1,x0.2.2.1,x0.2.2.2)) else bif decide (x1.1.1=9) then some (x3.2.1,x0.2.1,x0.2.2.1,x0.2.2.2)
 else(Qd k (a1,x1.1)).bind fun x5=>(Q1 k x0.2.1 x0.2.2.1 x0.2.2.2 x5).bind fun x6=>bif decide (x6.1 = 0) then ((Q2 k x6.2.2.1 x6.2.2.2).bind fun x7=>bif decide (x7.1 ≥ x6.2.1.2.2.2.2.2.2.2.2.2.2.2.2.2.2.2.2.1) then ((mr k x3.1).bind fun x8=>(vk k x7.2.1 x7.2.2 x8).bind fun x9=>bif decide (x9.1=11) then some (x3.2.1,(pO x6.2.1 (vT x3.1 (x6.2.1.2.2.2.2.2.2.2.2.2.2.2.2.2.2.2.2.1,true))),x9.2.1,x9.2.2) else some (x3.2.1,(pO x6.2.1 (vT x3.1 x6.2.1.2.2.2.2.2.2.2.2.2.2.2.2.2.2.2.2)),x9.2.1,x9.2.2)) else some (x3.2.1,(pO x6.2.1 (vT x3.1 x6.2.1.2.2.2.2.2.2.2.2.2.2.2.2.2.2.2.2)),x7.2.1,x7.2.2)) else bif decide (x6.1 = 10) then ((MM k a1 10).bind fun bZ=>some (bZ,x6.2.1,x6.2.2.1,x6.2.2.2)) else some ([],(yE x6.2.1 true),x6.2.2.1,x6.2.2.2)
def OB (k:Nat)(rec:AC→Int→Int→Option Int)(s0:AC)(s3 s4:Int):Option Int:=
 bif decide (s4 < 8) then (bif zB s4 s0.length then(rec s0 (wG .u64 (shl .u64 s3 8) (IntKind.wrap .u64 ((s0.getD s4.toNat 0)))) (zA (s4+1))) else none) else some s3
def JO (k:Nat):Nat→AC→Int→Int→Option Int:=yD (fun _ _ _=>none) (OB k)
def JN (k:Nat)(a0:AC):Option Int:=
 (JO k k a0 0 0).bind fun z=>some (zA (z))
abbrev qNd:Type:=AC→Int→AC→Option AC
def Ew (k:Nat)(rec:qNd)(s0:AC)(s5:Int)(r0:AC):Option AC:=
 bif decide (s5 < (s0.length : Int)) then (bif ((decide (0 ≤ s5)) && (decide (s5 ≤ (zA (s5 + 8))))) && (decide ((zA (s5 + 8)) ≤ (s0.length : Int))) then ((JN k (qR s0 s5.toNat ((zA (s5+8)).toNat-s5.toNat))).bind fun x0=>bif zL (r0.length+1) 8 then(rec s0 (zA (s5+8)) (r0++[x0])) else none) else none) else some r0
def Br (k:Nat):Nat→qNd:=yD (fun _ _ _=>none) (Ew k)
def JP (k:Nat)(a0:AC):Option (AC×Int):=
 bif !(decide ((Int.tmod (a0.length:Int) 8)=0)) then some ([],2)
 else(Br k k a0 0 []).bind fun z=>some (z,0)
def Bt (k:Nat)(a0:Int):Option Int:=
 bif decide (a0<0) then some (-1) else bif decide (a0≥24) then some (-1) else bif zB a0 24 then some (List.getD [(-1),6,1,2,2,2,1,1,2,0,2,2,2,0,0,0,1,5,4,1,1,1,1,1] a0.toNat 0) else none
abbrev yA7:Type:=zC×zC
abbrev qJp:Type:=Int→zC→zC→AC→Option yA7
def yG4 (k:Nat)(rec:qJp)(s7:Int)(b0 b1:zC)(r2:AC):Option yA7:=
 bif decide (s7 < (r2.length : Int)) then (bif zB s7 r2.length then (bif decide (s7=0) then(rec (zA (s7+1)) b0 (b1.1,(r2.getD s7.toNat 0),b1.2.2) r2) else bif decide (s7=1) then(rec (zA (s7+1)) b0 (b1.1,b1.2.1,(r2.getD s7.toNat 0),b1.2.2.2) r2) else bif decide (s7=2) then(rec (zA (s7+1)) b0 (b1.1,b1.2.1,b1.2.2.1,(r2.getD s7.toNat 0),b1.2.2.2.2) r2) else bif decide (s7=3) then(rec (zA (s7+1)) b0 (wB b1 ((r2.getD s7.toNat 0),b1.2.2.2.2.2)) r2) else bif decide (s7=4) then(rec (zA (s7+1)) b0 (pO b1 ((r2.getD s7.toNat 0),b1.2.2.2.2.2.2)) r2) else bif decide (s7=5) then(rec (zA (s7+1)) b0 (jJ b1 (r2.getD s7.toNat 0)) r2) else none) else none) else some (b0,b1)
def OF (k:Nat):Nat→qJp:=yD (fun _ _ _ _=>none) (yG4 k)
def JQ (k:Nat)(a0:AC):Option (zC×Int):=
 bif decide ((a0.length:Int)=0) then some ((0,0,0,0,0,0,0),2) else bif zB 0 a0.length then (bif decide (1 ≤ (a0.length : Int)) then ((JP k (List.drop 1 a0)).bind fun x0=>bif !(decide (x0.2=0)) then some ((0,0,0,0,0,0,0),2)
   else(Bt k (zA ((a0.getD 0 0)))).bind fun x1=>bif !(decide ((x0.1.length:Int)=x1)) then some ((0,0,0,0,0,0,0),2)
   else(OF k k 0 (0,0,0,0,0,0,0) ((zA ((a0.getD 0 0))),0,0,0,0,0,0) x0.1).bind fun z=>some (z.2,0)) else none) else none
def QL (k:Nat)(a0:Int):Option Bool:=
 bif decide (a0≥1) then some (decide (a0≤14)) else some false
abbrev qVm:Type:=Int→Int→zC→Option (Int⊕Bool)
def Zr (k:Nat)(rec:qVm)(s3 s4:Int)(b0:zC):Option (Int⊕Bool):=
 bif decide (s4 < 6) then (bif decide (s4 = 0) then (bif !(decide (b0.2.1=0)) then some (.inr false) else rec s3 (zA (s4+1)) b0) else bif decide (s4 = 1) then (bif !(decide (b0.2.2.1=0)) then some (.inr false) else rec s3 (zA (s4+1)) b0) else bif decide (s4 = 2) then (bif !(decide (b0.2.2.2.1=0)) then some (.inr false) else rec s3 (zA (s4+1)) b0) else bif decide (s4 = 3) then (bif !(decide (b0.2.2.2.2.1=0)) then some (.inr false) else rec s3 (zA (s4+1)) b0) else bif decide (s4 = 4) then (bif !(decide (b0.2.2.2.2.2.1=0)) then some (.inr false) else rec s3 (zA (s4+1)) b0) else bif decide (s4 = 5) then (bif !(decide (b0.2.2.2.2.2.2=0)) then some (.inr false) else rec s3 (zA (s4+1)) b0) else none) else some (.inl s3)
def Hs (k:Nat):Nat→qVm:=yD (fun _ _ _=>none) (Zr k)
def Cl (k:Nat)(a0:zC):Option Bool:=
 (Bt k a0.1).bind fun x0=>(Hs k k x0 (wR false x0 0) a0).bind fun z=>match z with
 |.inl z1=>some (decide (z1≥0))
 |.inr z2=>some z2
def QM (k:Nat)(a0:Int):Option Bool:=
 bif decide (a0≥10) then some (decide (a0≤14)) else some false
def Cm (k:Nat)(a0:vF)(a1:qE):Option Bool:=
 (QL k a1.2.1).bind fun x0=>bif !x0 then some false
 else(Cl k a1.2).bind fun x1=>bif !x1 then some false
 else(QM k a1.2.1).bind fun x2=>bif x2 then some (decide (a1.1=(-1))) else bif decide (a1.1≥0) then some (decide (a1.1<a0.1)) else some false
abbrev qWb:Type:=List zC→Int→Int→List zC→Option yCb
def FE (k:Nat)(rec:qWb)(s0:List zC)(s1 s6:Int)(r0:List zC):Option yCb:=
 bif decide (s6 < (s0.length : Int)) then (bif zB s6 s0.length then (bif decide ((s0.getD s6.toNat (0, 0, 0, 0, 0, 0, 0)).2.1 = s1) then (bif zB s6 s0.length then (bif zL (r0.length + 1) 56 then (let y0:List zC:=(r0++[(s0.getD s6.toNat (0,0,0,0,0,0,0))])
      rec s0 s1 (zA (s6+1)) y0) else none) else none) else rec s0 s1 (zA (s6+1)) r0) else none) else some r0
def KF (k:Nat):Nat→qWb
 |0,_,_,_,_=>none
 |n+1,s0,s1,s6,r0=>FE k (KF k n) s0 s1 s6 r0
def uH (k:Nat)(a0:List zC)(a1:Int):Option (List zC):=
 (KF k k a0 a1 0 []).bind fun z=>some z
abbrev qQj:Type:=Int×Int×Int×Int×Int×Int×Int×Int×Int×Int×Int×Int×Int×Int
abbrev qNl:Type:=AC→Int→Int→Int→Int→Int→Int→Int→Int→Int→Int→Int→Int→Int→Int→Int→Option qQj
def yPe (k:Nat)(rec:qNl)(s1:AC)(s6 af ai aj ah aY bq bx aw aC aD aF aH aI aJ:Int):Option qQj:=
 bif decide (s6 < (s1.length : Int)) then (bif decide (s6 < 6) then (bif zB s6 s1.length then (bif decide (s6=0) then(rec s1 (zA (s6+1)) af ai aj ah aY bq bx aw (s1.getD s6.toNat 0) aD aF aH aI aJ) else bif decide (s6=1) then(rec s1 (zA (s6+1)) af ai aj ah aY bq bx aw aC (s1.getD s6.toNat 0) aF aH aI aJ) else bif decide (s6=2) then(rec s1 (zA (s6+1)) af ai aj ah aY bq bx aw aC aD (s1.getD s6.toNat 0) aH aI aJ) else bif decide (s6=3) then(rec s1 (zA (s6+1)) af ai aj ah aY bq bx aw aC aD aF (s1.getD s6.toNat 0) aI aJ) else bif decide (s6=4) then(rec s1 (zA (s6+1)) af ai aj ah aY bq bx aw aC aD aF aH (s1.getD s6.toNat 0) aJ) else bif decide (s6=5) then(rec s1 (zA (s6+1)) af ai aj ah aY bq bx aw aC aD aF aH aI (s1.getD s6.toNat 0)) else none) else none) else some (af,ai,aj,ah,aY,bq,bx,aw,aC,aD,aF,aH,aI,aJ)) else some (af,ai,aj,ah,aY,bq,bx,aw,aC,aD,aF,aH,aI,aJ)
def R6 (k:Nat):Nat→qNl
 |0,_,_,_,_,_,_,_,_,_,_,_,_,_,_,_,_=>none
 |n+1,s1,s6,af,ai,aj,ah,aY,bq,bx,aw,aC,aD,aF,aH,aI,aJ=>yPe k (R6 k n) s1 s6 af ai aj ah aY bq bx aw aC aD aF aH aI aJ
def fT (k:Nat)(a0:Int)(a1:AC):Option zC:=
 (R6 k k a1 0 0 0 0 0 0 0 0 a0 0 0 0 0 0 0).bind fun z=>some (z.2.2.2.2.2.2.2.1,z.2.2.2.2.2.2.2.2.1,z.2.2.2.2.2.2.2.2.2.1,z.2.2.2.2.2.2.2.2.2.2.1,z.2.2.2.2.2.2.2.2.2.2.2.1,z.2.2.2.2.2.2.2.2.2.2.2.2.1,z.2.2.2.2.2.2.2.2.2.2.2.2.2)
def QJ (k:Nat)(a0:vF)(a1:Int):Option Bool:=
 some (decide (a1=a0.2.2.2.1))
def Zn (k:Nat)(cm bh bE cz bT cg bW a1:Int):Option Bool:=
 some (decide (a1>bW))
abbrev yBm:Type:=List zC→Int→Int→Option (Unit⊕Int)
def FM (k:Nat)(rec:yBm)(s0:List zC)(s1 s5:Int):Option (Unit⊕Int):=
 bif decide (s5 < (s0.length : Int)) then (bif zB s5 s0.length then (bif decide ((s0.getD s5.toNat (0,0,0,0,0,0,0)).1=s1) then some (.inr s5) else rec s0 s1 (zA (s5+1))) else none) else some (.inl ())
def FL (k:Nat):Nat→yBm
 |0,_,_,_=>none
 |n+1,s0,s1,s5=>FM k (FL k n) s0 s1 s5
def nv (k:Nat)(a0:List zC)(a1:Int):Option Int:=
 (FL k k a0 a1 0).bind fun z=>match z with
 |.inl z1=>some (-1)
 |.inr z2=>some z2
def oF (k:Nat)(a0:List zC)(a1:Int):Option qZb:=
 (nv k a0 a1).bind fun x0=>bif decide (x0<0) then some (a0,0,0,0,0,0,0,0,4) else bif (decide (0 ≤ x0)) && (decide (x0 ≤ (a0.length : Int))) then (bif zL (0 + (List.take x0.toNat a0).length) 56 then (bif (decide (0 ≤ (zA (x0 + 1)))) && (decide ((zA (x0 + 1)) ≤ (a0.length : Int))) then (bif zL ((List.take x0.toNat a0).length + (List.drop (zA (x0 + 1)).toNat a0).length) 56 then (bif zB x0 a0.length then some (((List.take x0.toNat a0)++(List.drop (zA (x0+1)).toNat a0)),(gl (a0.getD x0.toNat (0,0,0,0,0,0,0)) 0)) else none) else none) else none) else none) else none
def LP (k:Nat)(a0:vF)(a1:Int):Option Bool:=
 bif decide (a1 > 0) then (bif decide (a1 < a0.2.2.2.1) then (bif !(decide (a0.2.2.2.2=0)) then some (decide ((Int.tmod a1 a0.2.2.2.2)=0)) else none) else some false) else some false
def Xt (k:Nat)(cm bh bE cz bT cg bW a1:Int):Option Bool:=
 bif decide (a1≥cg) then some (decide (a1≤bW)) else some false
def FD (k:Nat)(rec:qWb)(s0:List zC)(s1 s6:Int)(r0:List zC):Option yCb:=
 bif decide (s6 < (s0.length : Int)) then (bif zB s6 s0.length then ((Xt k (s0.getD s6.toNat (0,0,0,0,0,0,0)).1 (s0.getD s6.toNat (0,0,0,0,0,0,0)).2.1 (s0.getD s6.toNat (0,0,0,0,0,0,0)).2.2.1 (s0.getD s6.toNat (0,0,0,0,0,0,0)).2.2.2.1 (s0.getD s6.toNat (0,0,0,0,0,0,0)).2.2.2.2.1 (s0.getD s6.toNat (0,0,0,0,0,0,0)).2.2.2.2.2.1 (s0.getD s6.toNat (0,0,0,0,0,0,0)).2.2.2.2.2.2 s1).bind fun x0=>bif x0 then (bif zB s6 s0.length then (bif zL (r0.length + 1) 56 then (let y0:List zC:=(r0++[(s0.getD s6.toNat (0,0,0,0,0,0,0))])
      rec s0 s1 (zA (s6+1)) y0) else none) else none) else rec s0 s1 (zA (s6+1)) r0) else none) else some r0
def KE (k:Nat):Nat→qWb
 |0,_,_,_,_=>none
 |n+1,s0,s1,s6,r0=>FD k (KE k n) s0 s1 s6 r0
def FC (k:Nat)(a0:List zC)(a1:Int):Option (List zC):=
 (KE k k a0 a1 0 []).bind fun z=>some z
abbrev qKx:Type:=Int×Bool×(List zC)×(List zC)×(List zC)
abbrev qQq:Type:=Int→Bool→Int→List zC→List zC→List zC→Option qKx
def FG (k:Nat)(rec:qQq)(s7:Int)(s9:Bool)(ax:Int)(r0 r1 r2:List zC):Option qKx:=
 bif decide (ax < (r2.length : Int)) then (bif s9 then (bif zB ax r2.length then(rec s7 (decide ((r2.getD ax.toNat (0,0,0,0,0,0,0)).2.2.2.2.1=3)) (zA (ax+1)) r0 r1 r2) else none) else rec s7 false (zA (ax+1)) r0 r1 r2) else some (s7,s9,r0,r1,r2)
def FF (k:Nat):Nat→qQq
 |0,_,_,_,_,_,_=>none
 |n+1,s7,s9,ax,r0,r1,r2=>FG k (FF k n) s7 s9 ax r0 r1 r2
abbrev qTj:Type:=Int→List zC→List zC→Option yCb
def FH (k:Nat)(rec:qTj)(s7:Int)(r0 r1:List zC):Option yCb:=
 bif decide (s7 < (r0.length : Int)) then (bif zB s7 r0.length then ((uH k r0 (r0.getD s7.toNat (0,0,0,0,0,0,0)).2.1).bind fun x1=>(FF k k s7 true 0 r0 r1 x1).bind fun z=>bif zB 0 z.2.2.2.2.length then (bif zB z.1 z.2.2.1.length then (bif (decide ((z.2.2.2.2.getD 0 (0, 0, 0, 0, 0, 0, 0)).1 = (z.2.2.1.getD z.1.toNat (0, 0, 0, 0, 0, 0, 0)).1)) && ((decide ((z.2.2.2.2.getD 0 (0, 0, 0, 0, 0, 0, 0)).2.1 = (z.2.2.1.getD z.1.toNat (0, 0, 0, 0, 0, 0, 0)).2.1)) && ((decide ((z.2.2.2.2.getD 0 (0, 0, 0, 0, 0, 0, 0)).2.2.1 = (z.2.2.1.getD z.1.toNat (0, 0, 0, 0, 0, 0, 0)).2.2.1)) && ((decide ((z.2.2.2.2.getD 0 (0, 0, 0, 0, 0, 0, 0)).2.2.2.1 = (z.2.2.1.getD z.1.toNat (0, 0, 0, 0, 0, 0, 0)).2.2.2.1)) && ((decide ((z.2.2.2.2.getD 0 (0, 0, 0, 0, 0, 0, 0)).2.2.2.2.1 = (z.2.2.1.getD z.1.toNat (0, 0, 0, 0, 0, 0, 0)).2.2.2.2.1)) && ((decide ((z.2.2.2.2.getD 0 (0, 0, 0, 0, 0, 0, 0)).2.2.2.2.2.1 = (z.2.2.1.getD z.1.toNat (0, 0, 0, 0, 0, 0, 0)).2.2.2.2.2.1)) && (decide ((z.2.2.2.2.getD 0 (0, 0, 0, 0, 0, 0, 0)).2.2.2.2.2.2 = (z.2.2.1.getD z.1.toNat (0, 0, 0, 0, 0, 0, 0)).2.2.2.2.2.2))))))) then (bif zB z.1 z.2.2.1.length then (bif zL (z.2.2.2.1.length + 1) 56 then (let y0:List zC:=(z.2.2.2.1++[(z.2.2.1.getD z.1.toNat (0,0,0,0,0,0,0))])
        rec (zA (z.1+1)) z.2.2.1 y0) else none) else none) else bif z.2.1 then (bif zB z.1 z.2.2.1.length then (bif zL (z.2.2.2.1.length + 1) 56 then (let y1:List zC:=(z.2.2.2.1++[(z.2.2.1.getD z.1.toNat (0,0,0,0,0,0,0))])
        rec (zA (z.1+1)) z.2.2.1 y1) else none) else none) else rec (zA (z.1+1)) z.2.2.1 z.2.2.2.1) else none) else none) else none) else some r1
def KH (k:Nat):Nat→qTj
 |0,_,_,_=>none
 |n+1,s7,r0,r1=>FH k (KH k n) s7 r0 r1
def KG (k:Nat)(a0:List zC)(a1:Int):Option (List zC):=
 (FC k a0 a1).bind fun x0=>(KH k k 0 x0 []).bind fun z1=>some z1
def WV (k:Nat)(av:List zJ)(aA:EQ)(az:AC)(ay:EQ)(ik cB dz eL dA jk jl:Int):Option Bool:=
 bif decide (cB ≥ 0) then (bif decide (cB < (av.length : Int)) then (bif decide (dz ≥ 0) then (bif decide (dz < (av.length : Int)) then (bif !(decide (cB = dz)) then (bif decide (eL ≥ 1) then (bif decide (eL ≤ 1099511627776) then (bif decide (dA≥1) then some (decide (dA≤3)) else some false) else some false) else some false) else some false) else some false) else some false) else some false) else some false
abbrev qWm:Type:=List zC→Int→List zJ→EQ→AC→EQ→Option qQ3
def E4 (k:Nat)(rec:qWm)(s1:List zC)(s5:Int)(af:List zJ)(ai:EQ)(aj:AC)(ah:EQ):Option qQ3:=
 bif decide (s5 < (s1.length : Int)) then (bif zB s5 s1.length then ((WV k af ai aj ah (s1.getD s5.toNat (0,0,0,0,0,0,0)).1 (s1.getD s5.toNat (0,0,0,0,0,0,0)).2.1 (s1.getD s5.toNat (0,0,0,0,0,0,0)).2.2.1 (s1.getD s5.toNat (0,0,0,0,0,0,0)).2.2.2.1 (s1.getD s5.toNat (0,0,0,0,0,0,0)).2.2.2.2.1 (s1.getD s5.toNat (0,0,0,0,0,0,0)).2.2.2.2.2.1 (s1.getD s5.toNat (0,0,0,0,0,0,0)).2.2.2.2.2.2).bind fun x0=>bif !x0 then some (.inr false) else rec s1 (zA (s5+1)) af ai aj ah) else none) else some (.inl s1)
def Kl (k:Nat):Nat→qWm
 |0,_,_,_,_,_,_=>none
 |n+1,s1,s5,af,ai,aj,ah=>E4 k (Kl k n) s1 s5 af ai aj ah
def Kk (k:Nat)(av:List zJ)(aA:EQ)(az:AC)(ay:EQ)(a1:List zC):Option Bool:=
 (Kl k k a1 0 av aA az ay).bind fun z=>match z with
 |.inl z1=>some (decide ((z1.length:Int)≤64))
 |.inr z2=>some z2
abbrev yBz:Type:=EQ→Int→EQ→Option EQ
def EV (k:Nat)(rec:yBz)(s0:EQ)(s4:Int)(m0:EQ):Option EQ:=
 bif decide (s4 < (s0.length : Int)) then (bif zB s4 s0.length then (bif zL (0 + (s0.getD s4.toNat []).length) 8 then (bif zL (m0.length+1) 24 then(rec s0 (zA (s4+1)) (m0++[(s0.getD s4.toNat [])])) else none) else none) else none) else some m0
def J7 (k:Nat):Nat→yBz
 |0,_,_,_=>none
 |n+1,s0,s4,m0=>EV k (J7 k n) s0 s4 m0
def J8 (k:Nat)(a0:EQ):Option EQ:=
 (J7 k k a0 0 []).bind fun z=>some z
def px (k:Nat)(av:List zJ)(aA:EQ)(az:AC)(ay:EQ):Option zk:=
 bif zL (0 + av.length) 24 then ((J8 k aA).bind fun x0=>bif zL (0 + az.length) 8 then ((J8 k ay).bind fun x1=>some (av,x0,az,x1)) else none) else none
abbrev qQ6:Type:=List zC→Int→Int→Int→Int→Option wD
def E9 (k:Nat)(rec:qQ6)(s0:List zC)(s1 s6 s7 s8:Int):Option wD:=
 bif decide (s8 < (s0.length : Int)) then (bif zB s8 s0.length then (bif !(decide ((s0.getD s8.toNat (0,0,0,0,0,0,0)).2.1=s1)) then(rec s0 s1 s6 s7 (zA (s8+1))) else bif zB s8 s0.length then (bif decide ((s0.getD s8.toNat (0, 0, 0, 0, 0, 0, 0)).2.2.2.2.1 = 3) then (bif zB s8 s0.length then(rec s0 s1 (zA (s6+(s0.getD s8.toNat (0,0,0,0,0,0,0)).2.2.2.1)) s7 (zA (s8+1))) else none) else bif zB s8 s0.length then(rec s0 s1 s6 (zA (s7+(s0.getD s8.toNat (0,0,0,0,0,0,0)).2.2.2.1)) (zA (s8+1))) else none) else none) else none) else some (s6,s7)
def Ko (k:Nat):Nat→qQ6
 |0,_,_,_,_,_=>none
 |n+1,s0,s1,s6,s7,s8=>E9 k (Ko k n) s0 s1 s6 s7 s8
def Kn (k:Nat)(a0:List zC)(a1:Int):Option wD:=
 (Ko k k a0 a1 0 0 0).bind fun z=>some (z.1,z.2)
def Pb (k:Nat)(a0:List zC)(a1:Int):Option Int:=
 (Kn k a0 a1).bind fun x0=>some x0.2
def Kp (k:Nat)(bz bI aU a1:Int):Option Int:=
 bif decide (a1≥aU) then some 0 else some (zA (aU-a1))
abbrev qJu:Type:=List zC→Int→Int→Int→Int→Option Int
def E8 (k:Nat)(rec:qJu)(s0:List zC)(s1 s2 s7 s8:Int):Option Int:=
 bif decide (s8 < (s0.length : Int)) then (bif zB s8 s0.length then (bif decide ((s0.getD s8.toNat (0, 0, 0, 0, 0, 0, 0)).2.1 = s1) then (bif zB s8 s0.length then (bif decide ((s0.getD s8.toNat (0, 0, 0, 0, 0, 0, 0)).2.2.1 = s2) then (bif zB s8 s0.length then(rec s0 s1 s2 (zA (s7+(s0.getD s8.toNat (0,0,0,0,0,0,0)).2.2.2.1)) (zA (s8+1))) else none) else rec s0 s1 s2 s7 (zA (s8+1))) else none) else rec s0 s1 s2 s7 (zA (s8+1))) else none) else some s7
def Km (k:Nat):Nat→qJu
 |0,_,_,_,_,_=>none
 |n+1,s0,s1,s2,s7,s8=>E8 k (Km k n) s0 s1 s2 s7 s8
def xC (k:Nat)(a0:List zC)(a1 a2:Int):Option Int:=
 (Km k k a0 a1 a2 0 0).bind fun z=>some z
def O8 (k:Nat)(a0:List zC)(a1 a2:Int):Option Int:=
 (xC k a0 a1 a2).bind fun x0=>(xC k a0 a2 a1).bind fun x1=>some (zA (x0-x1))
abbrev qQy:Type:=EQ→Int→Int→Option (Unit⊕Bool)
def EH (k:Nat)(rec:qQy)(s0:EQ)(s1 s5:Int):Option (Unit⊕Bool):=
 bif decide (s5 < s1) then (bif zB s5 s0.length then (bif !(decide (((s0.getD s5.toNat []).length:Int)=s1)) then some (.inr false) else rec s0 s1 (zA (s5+1))) else none) else some (.inl ())
def JZ (k:Nat):Nat→qQy
 |0,_,_,_=>none
 |n+1,s0,s1,s5=>EH k (JZ k n) s0 s1 s5
def JY (k:Nat)(a0:EQ)(a1:Int):Option Bool:=
 bif !(decide ((a0.length:Int)=a1)) then some false
 else(JZ k k a0 a1 0).bind fun z=>match z with
 |.inl z1=>some true
 |.inr z2=>some z2
def JW (k:Nat)(bz bI aU:Int):Option Bool:=
 bif decide (bz > (-4611686018427387904)) then (bif decide (bz < 4611686018427387904) then (bif decide (bI ≥ 0) then (bif decide (bI ≤ 2305843009213693952) then (bif decide (aU≥0) then some (decide (aU≤2305843009213693952)) else some false) else some false) else some false) else some false) else some false
def JX (k:Nat)(a0:Int):Option Bool:=
 bif decide (a0≥(-1)) then some (decide (a0≤2305843009213693952)) else some false
abbrev qNm:Type:=(Int×Int×(List zJ)×EQ×AC×EQ)⊕Bool
abbrev yA0:Type:=Int→Int→Int→List zJ→EQ→AC→EQ→Option qNm
def EJ (k:Nat)(rec:yA0)(s3 s4 s5:Int)(af:List zJ)(ai:EQ)(aj:AC)(ah:EQ):Option qNm:=
 bif decide (s5 < s3) then (bif zB s4 ai.length then (bif zB s5 (ai.getD s4.toNat []).length then ((JX k ((ai.getD s4.toNat []).getD s5.toNat 0)).bind fun x4=>bif !x4 then some (.inr false) else bif zB s4 ah.length then (bif zB s5 (ah.getD s4.toNat []).length then (bif decide (((ah.getD s4.toNat []).getD s5.toNat 0)≤(-72057594037927936)) then some (.inr false) else bif zB s4 ah.length then (bif zB s5 (ah.getD s4.toNat []).length then (bif decide (((ah.getD s4.toNat []).getD s5.toNat 0)≥72057594037927936) then some (.inr false) else bif zB s4 ah.length then (bif zB s5 (ah.getD s4.toNat []).length then (bif zB s5 ah.length then (bif zB s4 (ah.getD s5.toNat []).length then (bif !(decide (((ah.getD s4.toNat []).getD s5.toNat 0)=(zA (0-((ah.getD s5.toNat []).getD s4.toNat 0))))) then some (.inr false) else rec s3 s4 (zA (s5+1)) af ai aj ah) else none) else none) else none) else none) else none) else none) else none) else none) else none) else none) else some (.inl (s3,s4,af,ai,aj,ah))
def EI (k:Nat):Nat→yA0
 |0,_,_,_,_,_,_,_=>none
 |n+1,s3,s4,s5,af,ai,aj,ah=>EJ k (EI k n) s3 s4 s5 af ai aj ah
abbrev qJq:Type:=Int→Int→List zJ→EQ→AC→EQ→Option (Unit⊕Bool)
def EL (k:Nat)(rec:qJq)(s3 s4:Int)(af:List zJ)(ai:EQ)(aj:AC)(ah:EQ):Option (Unit⊕Bool):=
 bif decide (s4 < s3) then (bif zB s4 af.length then ((JW k (af.getD s4.toNat (0,0,0)).1 (af.getD s4.toNat (0,0,0)).2.1 (af.getD s4.toNat (0,0,0)).2.2).bind fun x2=>bif !x2 then some (.inr false) else bif zB s4 aj.length then ((JX k (aj.getD s4.toNat 0)).bind fun x3=>bif !x3 then some (.inr false)
    else(EI k k s3 s4 0 af ai aj ah).bind fun z=>match z with
    |.inl z1=>rec z1.1 (zA (z1.2.1+1)) z1.2.2.1 z1.2.2.2.1 z1.2.2.2.2.1 z1.2.2.2.2.2
    |.inr z2=>some (.inr z2)) else none) else none) else some (.inl ())
def EK (k:Nat):Nat→qJq
 |0,_,_,_,_,_,_=>none
 |n+1,s3,s4,af,ai,aj,ah=>EL k (EK k n) s3 s4 af ai aj ah
def OQ (k:Nat)(av:List zJ)(aA:EQ)(az:AC)(ay:EQ):Option Bool:=
 bif decide ((av.length:Int)<1) then some false else bif decide ((av.length:Int)>6) then some false
 else(JY k aA (av.length:Int)).bind fun x0=>bif !x0 then some false
 else(JY k ay (av.length:Int)).bind fun x1=>bif !x1 then some false else bif !(decide ((az.length:Int)=(av.length:Int))) then some false
 else(EK k k (av.length:Int) 0 av aA az ay).bind fun z3=>match z3 with
 |.inl z4=>some true
 |.inr z5=>some z5
abbrev qL3:Type:=(List zC)×Int×(List zJ)×EQ×AC×EQ×(List zJ)×EQ×AC×EQ
abbrev yBs:Type:=List zC→Int→Int→List zJ→EQ→AC→EQ→List zJ→EQ→AC→EQ→Option qL3
def Fc (k:Nat)(rec:yBs)(s1:List zC)(s7 s8:Int)(af:List zJ)(ai:EQ)(aj:AC)(ah:EQ)(r3:List zJ)(m4:EQ)(r5:AC)(m6:EQ):Option qL3:=
 bif decide (s8 < (r3.length : Int)) then ((O8 k s1 s7 s8).bind fun x4=>bif zB s7 r3.length then (bif zB s7 r3.length then (let y1:List zJ:=(r3.set s7.toNat ((zA ((r3.getD s7.toNat (0,0,0)).1-x4)),(r3.getD s7.toNat (0,0,0)).2))
    bif zB s7 m6.length then (bif zB s7 m6.length then (bif zB s8 (m6.getD s7.toNat []).length then (bif zB s8 (m6.getD s7.toNat []).length then (let y2:EQ:=(m6.set s7.toNat ((m6.getD s7.toNat []).set s8.toNat (zA (((m6.getD s7.toNat []).getD s8.toNat 0)+x4))))
        rec s1 s7 (zA (s8+1)) af ai aj ah y1 m4 r5 y2) else none) else none) else none) else none) else none) else none) else some (s1,s7,af,ai,aj,ah,r3,m4,r5,m6)
def Fa (k:Nat):Nat→yBs
 |0,_,_,_,_,_,_,_,_,_,_,_=>none
 |n+1,s1,s7,s8,af,ai,aj,ah,r3,m4,r5,m6=>Fc k (Fa k n) s1 s7 s8 af ai aj ah r3 m4 r5 m6
abbrev qKm:Type:=List zC→Int→List zJ→EQ→AC→EQ→List zJ→EQ→AC→EQ→Option qU3
def Ff (k:Nat)(rec:qKm)(s1:List zC)(s7:Int)(af:List zJ)(ai:EQ)(aj:AC)(ah:EQ)(r3:List zJ)(m4:EQ)(r5:AC)(m6:EQ):Option qU3:=
 bif decide (s7 < (r3.length : Int)) then (bif zB s7 r3.length then ((Pb k s1 s7).bind fun x2=>(Kp k (r3.getD s7.toNat (0,0,0)).1 (r3.getD s7.toNat (0,0,0)).2.1 (r3.getD s7.toNat (0,0,0)).2.2 x2).bind fun x3=>bif zB s7 r3.length then (let y0:List zJ:=(r3.set s7.toNat ((r3.getD s7.toNat (0,0,0)).1,(r3.getD s7.toNat (0,0,0)).2.1,x3))
    (Fa k k s1 s7 0 af ai aj ah y0 m4 r5 m6).bind fun z=>rec z.1 (zA (z.2.1+1)) z.2.2.1 z.2.2.2.1 z.2.2.2.2.1 z.2.2.2.2.2.1 z.2.2.2.2.2.2.1 z.2.2.2.2.2.2.2.1 z.2.2.2.2.2.2.2.2.1 z.2.2.2.2.2.2.2.2.2) else none) else none) else some (af,ai,aj,ah,r3,m4,r5,m6)
def Fe (k:Nat):Nat→qKm
 |0,_,_,_,_,_,_,_,_,_,_=>none
 |n+1,s1,s7,af,ai,aj,ah,r3,m4,r5,m6=>Ff k (Fe k n) s1 s7 af ai aj ah r3 m4 r5 m6
def BC (k:Nat)(av:List zJ)(aA:EQ)(az:AC)(ay:EQ)(a1:List zC):Option ((List zJ)×EQ×AC×EQ×Int):=
 (Kk k av aA az ay a1).bind fun x0=>bif !x0 then some (av,aA,az,ay,1)
 else(px k av aA az ay).bind fun x1=>(Fe k k a1 0 av aA az ay x1.1 x1.2.1 x1.2.2.1 x1.2.2.2).bind fun z1=>(OQ k z1.2.2.2.2.1 z1.2.2.2.2.2.1 z1.2.2.2.2.2.2.1 z1.2.2.2.2.2.2.2).bind fun x5=>bif !x5 then some (wB z1 8) else some (vDa z1 0)
abbrev qQs:Type:=Int→Int→Int→List zJ→EQ→AC→EQ→Option Int
def Fh (k:Nat)(rec:qQs)(s1 s5 s6:Int)(af:List zJ)(ai:EQ)(aj:AC)(ah:EQ):Option Int:=
 bif zB s1 ah.length then (bif decide (s6 < ((ah.getD s1.toNat []).length : Int)) then (bif zB s1 ah.length then (bif zB s6 (ah.getD s1.toNat []).length then(rec s1 (zA (s5+((ah.getD s1.toNat []).getD s6.toNat 0))) (zA (s6+1)) af ai aj ah) else none) else none) else some s5) else none
def Fg (k:Nat):Nat→qQs
 |0,_,_,_,_,_,_,_=>none
 |n+1,s1,s5,s6,af,ai,aj,ah=>Fh k (Fg k n) s1 s5 s6 af ai aj ah
def Pe (k:Nat)(av:List zJ)(aA:EQ)(az:AC)(ay:EQ)(a1:Int):Option Int:=
 (Fg k k a1 0 0 av aA az ay).bind fun z=>some z
abbrev qRh:Type:=(Int×Int×Int×Int×Int×(List zJ)×EQ×AC×EQ)⊕Bool
abbrev qKh:Type:=List zC→Int→Int→Int→Int→Int→Int→List zJ→EQ→AC→EQ→Option qRh
def Fj (k:Nat)(rec:qKh)(s1:List zC)(s2 s7 s8 s9 ax aR:Int)(af:List zJ)(ai:EQ)(aj:AC)(ah:EQ):Option qRh:=
 bif decide (aR < (af.length : Int)) then ((xC k s1 s2 aR).bind fun x2=>(xC k s1 aR s2).bind fun x3=>(xC k s1 s2 aR).bind fun x4=>bif decide (x4 > 0) then (bif zB s2 ai.length then (bif zB aR (ai.getD s2.toNat []).length then (bif !(decide (((ai.getD s2.toNat []).getD aR.toNat 0) = (-1))) then (bif zB s2 ah.length then (bif zB aR (ah.getD s2.toNat []).length then (bif zB s2 ai.length then (bif zB aR (ai.getD s2.toNat []).length then (bif decide ((zA (((ah.getD s2.toNat []).getD aR.toNat 0)+(zA (x2-x3))))>((ai.getD s2.toNat []).getD aR.toNat 0)) then some (.inr true) else rec s1 s2 s7 s8 (zA (s9-(zA (x2-x3)))) (zA (ax+(zA (x2-x3)))) (zA (aR+1)) af ai aj ah) else none) else none) else none) else none) else rec s1 s2 s7 s8 (zA (s9-(zA (x2-x3)))) (zA (ax+(zA (x2-x3)))) (zA (aR+1)) af ai aj ah) else none) else none) else rec s1 s2 s7 s8 (zA (s9-(zA (x2-x3)))) (zA (ax+(zA (x2-x3)))) (zA (aR+1)) af ai aj ah) else some (.inl (s2,s7,s8,s9,ax,af,ai,aj,ah))
def sW (k:Nat):Nat→qKh
 |0,_,_,_,_,_,_,_,_,_,_,_=>none
 |n+1,s1,s2,s7,s8,s9,ax,aR,af,ai,aj,ah=>Fj k (sW k n) s1 s2 s7 s8 s9 ax aR af ai aj ah
def Pj (k:Nat)(av:List zJ)(aA:EQ)(az:AC)(ay:EQ)(a1:List zC)(a2:Int):Option Bool:=
 (Kn k a1 a2).bind fun x0=>bif decide ((zA (x0.1+x0.2))=0) then some false else bif zB a2 av.length then (bif zB a2 av.length then ((Pe k av aA az ay a2).bind fun x1=>(sW k k a1 a2 x0.1 x0.2 (zA ((av.getD a2.toNat (0,0,0)).1+(av.getD a2.toNat (0,0,0)).2.1)) x1 0 av aA az ay).bind fun z=>match z with
   |.inl z1=>bif decide (z1.2.2.2.1<0) then some true else bif decide (z1.2.1 > 0) then (bif zB z1.1 z1.2.2.2.2.2.1.length then ((Kp k (z1.2.2.2.2.2.1.getD z1.1.toNat (0,0,0)).1 (z1.2.2.2.2.2.1.getD z1.1.toNat (0,0,0)).2.1 (z1.2.2.2.2.2.1.getD z1.1.toNat (0,0,0)).2.2 z1.2.2.1).bind fun x5=>bif decide (z1.2.2.2.1<x5) then some true else bif zB z1.1 z1.2.2.2.2.2.2.2.1.length then (bif !(decide ((z1.2.2.2.2.2.2.2.1.getD z1.1.toNat 0) = (-1))) then (bif zB z1.1 z1.2.2.2.2.2.2.2.1.length then some (decide (z1.2.2.2.2.1>(z1.2.2.2.2.2.2.2.1.getD z1.1.toNat 0))) else none) else some false) else none) else none) else bif zB z1.1 z1.2.2.2.2.2.2.2.1.length then (bif !(decide ((z1.2.2.2.2.2.2.2.1.getD z1.1.toNat 0) = (-1))) then (bif zB z1.1 z1.2.2.2.2.2.2.2.1.length then some (decide (z1.2.2.2.2.1>(z1.2.2.2.2.2.2.2.1.getD z1.1.toNat 0))) else none) else some false) else none
   |.inr z2=>some z2) else none) else none
end Go.Ab.Gi
