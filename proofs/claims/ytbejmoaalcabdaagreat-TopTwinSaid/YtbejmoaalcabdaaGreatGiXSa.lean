/- part 6 -/
import Derived.Test.YtbejmoaalcabdaaGreatGiAbD
set_option linter.unusedVariables false
set_option maxRecDepth 100000
abbrev Go.Ab.Ty.i:Go.Ab.Ty:=.int .i64
abbrev Go.Ab.CS.i:Go.Ab.CS:=.int .i64
abbrev Go.Ab.PC.i:Go.Ab.PC:=.int .i64
abbrev Go.Ab.RC.i:Go.Ab.RC:=.int .i64
namespace Go.Ab.Gi
abbrev AC:=List Int
abbrev EQ:=List AC
abbrev kG:Type:=AC×Bool
abbrev wE:Go.Ab.Ty:=.pair .i .i
abbrev vN:Type:=Int×AC×Int×AC×Int×Int×Int×Bool×Bool×Int
abbrev jX:Type:=Int×Bool
abbrev iw:Type:=Int×Int×AC×Int×Int
abbrev nS:Type:=Int×Int×Bool×Bool
abbrev vH:Type:=Int×Int×Bool
abbrev fZ:Type:=Int×Int×Int×Bool
abbrev xj:Type:=Int×Int×Int×Int×Int×Bool×Bool×Int
abbrev qA:Type:=Int×Int×Int×Int×Int×Int×Int×Int
abbrev zC:Type:=Int×Int×Int×Int×Int×Int×Int
abbrev Km:Type:=Int×Int×Int×Int×Int×Int
abbrev zK:Type:=Int×Int×Int
abbrev vI:Type:=Int×Int
abbrev qTm:Type:=(List zC)×Int×Int×Int×Int×Int×Int×Int×Int
abbrev rC:Type:=(List zK)×EQ×AC×EQ×(List zC)×(List zC)
abbrev Kl:Type:=(List zK)×EQ×AC×EQ
abbrev qY:Go.Ab.Ty:=.pair .i wE
abbrev vHf:Go.Ab.Ty:=.pair (.sl (.int .u8)) wE
abbrev yE5:Type:=Bool×Int×Int×Int×Int×Int×Int×Int×Int×Int×Int×Int×Int×Int×Int×(List zK)×EQ×AC×EQ
abbrev PW:Type:=Int×(List zK)×EQ×AC×EQ×AC×EQ×(List zC)×AC×Int×Bool×(List qA)
abbrev qZj:Type:=Int×(List zK)×EQ×AC×EQ×AC×EQ×(List zC)×AC×Int×Bool×Bool
abbrev yT:Type:=Int×(List zK)×EQ×AC×EQ×AC×EQ×(List zC)×AC×Int×Bool
abbrev tK:Type:=Int×(List vI)×Int×Int×Int×Int×(List zK)×EQ×AC×EQ×AC×EQ×(List zC)×AC×Int×Bool×Int×(List qA)×Int
abbrev jC:Type:=Int×(List vI)×Int×Int×Int×Int×(List zK)×EQ×AC×EQ×AC×EQ×(List zC)×AC×Int×Bool×Int×(List qA)
abbrev nT:Type:=Int×(List vI)×Int×Int×Int×Int×(List zK)×EQ×AC×EQ×AC×EQ×(List zC)×AC×Int×Bool×Int×Bool
abbrev po:Type:=Int×(List vI)×Int×Int×Int×Int×(List zK)×EQ×AC×EQ×AC×EQ×(List zC)×AC×Int×Bool×Int×Int
abbrev kH:Type:=Int×(List vI)×Int×Int×Int×Int×(List zK)×EQ×AC×EQ×AC×EQ×(List zC)×AC×Int×Bool×Int
abbrev yO:Type:=Int×(List vI)×Int×Int×Int
abbrev vXh:Go.Ab.Ty:=.pair .i qY
abbrev vJ2:Go.Ab.Ty:=.pair .i vHf
abbrev vRu:Go.Ab.Ty:=.pair .i vXh
abbrev nO:Go.Ab.Ty:=.pair .i vJ2
abbrev vYo:Go.Ab.Ty:=.pair .i vRu
abbrev zH:Go.Ab.Ty:=.pair .i vYo
abbrev qN:Go.Ab.Ty:=.pair .i zH
abbrev qMu:List Go.Ab.CS:=[.dat false .i,.dat false .i,.dat false (.sl .i)]
abbrev jO:List Go.Ab.CS:=[.dat false qY,.dat false (.sl .i),.dat false .i,.dat false (.sl .i)]
abbrev FV:List Go.Ab.CS:=[.dat true (.int .u8),.bool]
abbrev vZ:List Go.Ab.CS:=[.dat true qY,.dat true (.sl .i),.dat true .i,.dat true (.sl .i)]
abbrev Pp:List Go.Ab.CS:=[.i,.dat false qY,.dat false (.sl .i),.dat false .i,.dat false (.sl .i),.dat false .i,.dat false (.sl .i),.dat false zH,.dat false .i,.i,.bool]
abbrev oZ:List Go.Ab.CS:=[.i,.dat false wE,.i,.i,.i]
abbrev fY:List Go.Ab.CS:=[.i,.dat true qY,.dat true (.sl .i),.dat true .i,.dat true (.sl .i),.dat true .i,.dat true (.sl .i),.dat true zH,.dat true .i,.i,.bool]
abbrev xe:List Go.Ab.CS:=[.i,.dat true wE,.i,.i,.i]
abbrev ZV:List Go.Ab.CS:=[.i,.dat true wE,.i,.i,.i,.i,.dat true qY,.dat true (.sl .i),.dat true .i,.dat true (.sl .i),.dat true .i,.dat true (.sl .i),.dat true zH,.dat true .i,.i,.bool,.i,.lit (.osl 1001001 none)]
abbrev qS7:List Go.Ab.CS:=[.i,.dat true wE,.i,.i,.i,.i,.dat true qY,.dat true (.sl .i),.dat true .i,.dat true (.sl .i),.dat true .i,.dat true (.sl .i),.dat true zH,.dat true .i,.i,.bool,.i,.lit .nsl]
abbrev WX:List Go.Ab.CS:=[.i,.dat true wE,.i,.i,.i,.i,.dat true qY,.dat true (.sl .i),.dat true .i,.dat true (.sl .i),.dat true .i,.dat true (.sl .i),.dat true zH,.dat true .i,.i,.bool,.i,.lit .nsl,.i]
abbrev vU:List Go.Ab.CS:=[.i,.i,.i,.i,.i,.i,.i]
abbrev yX5:List Go.Ab.CS:=[.i,.i,.i,.i,.i,.i,.i,.i,.i,.i,.i,.i,.i,.i,.dat true qY,.dat true (.sl .i),.dat true .i,.dat true (.sl .i)]
abbrev Pb:List Go.Ab.CS:=[.i,.i,.i,.i,.i,.i,.i,.i,.i,.i,.i,.i,.i,.i,.lit .nsl,.lit .nsl,.lit .nsl,.lit .nsl]
abbrev Xx:List Go.Ab.CS:=[.i,.lit (.osl 1001001 none),.i,.i,.i]
abbrev yVy:List Go.Ab.CS:=[.i,.lit (.osl 1001001 none),.i,.lit (.osl 1001002 none),.i,.i,.i,.bool,.bool,.i]
abbrev yLb:List Go.Ab.CS:=[.i,.lit (.osl 1001002 none),.lit (.osl 1001003 none),.lit (.osl 1001004 none),.lit (.osl 1001005 none),.lit (.osl 1001006 none),.lit (.osl 1001007 none),.lit .nsl,.lit .nsl,.i,.bool]
abbrev yLh:List Go.Ab.CS:=[.i,.lit (.osl 1001003 none),.i,.lit (.osl 1001004 none),.i,.i,.i,.bool,.bool,.i]
abbrev yWj:List Go.Ab.CS:=[.i,.lit (.osl 1001003 none),.lit (.osl 1001004 none),.lit (.osl 1001005 none),.lit (.osl 1001006 none),.lit (.osl 1001007 none),.lit (.osl 1001008 none),.lit (.osl 1001009 none),.lit .nsl,.i,.bool]
abbrev yJg:List Go.Ab.CS:=[.i,.lit (.osl 1001003 none),.lit (.osl 1001004 none),.lit (.osl 1001005 none),.lit (.osl 1001006 none),.lit (.osl 1001007 none),.lit (.osl 1001008 none),.lit .nsl,.lit .nsl,.i,.bool]
abbrev OA:List Go.Ab.CS:=[.i,.lit (.osl 1001003 none),.lit (.osl 1001004 none),.lit (.osl 1001005 none),.lit (.osl 1001006 none),.lit (.osl 1001007 none),.lit .nsl,.lit .nsl,.lit .nsl,.i,.bool]
abbrev yY3:List Go.Ab.CS:=[.i,.lit (.osl 1001004 none),.lit .nsl,.lit .nsl,.lit .nsl,.lit .nsl,.lit .nsl,.lit .nsl,.lit .nsl,.i,.bool]
abbrev fb:List Go.Ab.CS:=[.i,.lit .nsl,.lit .nsl,.lit .nsl,.lit .nsl,.lit .nsl,.lit .nsl,.lit .nsl,.lit .nsl,.i,.bool]
abbrev qK5:List Go.Ab.CS:=[.lit (.osl 1001002 none),.lit (.osl 1001003 none),.lit (.osl 1001004 none)]
abbrev rq:List Go.Ab.CS:=[.lit (.osl 1001003 none),.lit (.osl 1001004 none),.lit (.osl 1001005 none),.lit (.osl 1001006 none)]
abbrev yCn:List Go.Ab.CS:=[.lit (.osl 1001004 none),.lit (.osl 1001005 none),.lit (.osl 1001006 none),.lit (.osl 1001007 none)]
abbrev PA:List Go.Ab.CS:=[.lit .nsl,.lit .nsl,.i,.lit .nsl,.lit .nsl,.lit .nsl,.lit .nsl,.lit .nsl,.lit .nsl,.lit .nsl,.lit .nsl,.i,.bool,.bool]
abbrev mV:List Go.Ab.CS:=[.lit .nsl,.lit .nsl,.lit .nsl,.lit .nsl]
abbrev O8:List Go.Ab.PC:=[.dat false .i,.dat false .i,.dat false (.sl .i)]
abbrev jI:List Go.Ab.PC:=[.dat false qY,.dat false (.sl .i),.dat false .i,.dat false (.sl .i)]
abbrev ki:List Go.Ab.PC:=[.dat true qY,.dat true (.sl .i),.dat true .i,.dat true (.sl .i)]
abbrev JZ:List Go.Ab.PC:=[.i,.dat false (.int .u8),.i,.dat false (.int .u8),.i,.i,.i,.bool,.bool,.i]
abbrev rr:List Go.Ab.PC:=[.i,.dat false qY,.dat false (.sl .i),.dat false .i,.dat false (.sl .i),.dat false .i,.dat false (.sl .i),.dat false zH,.dat false .i,.i,.bool]
abbrev iU:List Go.Ab.PC:=[.i,.dat false wE,.i,.i,.i]
abbrev Zl:List Go.Ab.PC:=[.i,.dat false wE,.i,.i,.i,.i,.dat false qY,.dat false (.sl .i),.dat false .i,.dat false (.sl .i),.dat false .i,.dat false (.sl .i),.dat false zH,.dat false .i,.i,.bool,.i,.dat false qN]
abbrev yNt:List Go.Ab.PC:=[.i,.dat false wE,.i,.i,.i,.i,.dat false qY,.dat false (.sl .i),.dat false .i,.dat false (.sl .i),.dat false .i,.dat false (.sl .i),.dat false zH,.dat false .i,.i,.bool,.i,.dat false qN,.i]
abbrev w4:List Go.Ab.PC:=[.i,.dat true qY,.dat true (.sl .i),.dat true .i,.dat true (.sl .i),.dat true .i,.dat true (.sl .i),.dat true zH,.dat true .i,.i,.bool]
abbrev FO:List Go.Ab.PC:=[.i,.dat true wE,.i,.i,.i]
abbrev mU:List Go.Ab.PC:=[.i,.i,.i]
abbrev JT:List Go.Ab.PC:=[.i,.i,.i,.i,.i,.i]
abbrev vE:List Go.Ab.PC:=[.i,.i,.i,.i,.i,.i,.i]
abbrev A5:List Go.Ab.PC:=[.i,.i,.i,.i,.i,.i,.i,.i]
abbrev nP:List Go.Ab.RC:=[.fro (.int .u8)]
abbrev rz:List Go.Ab.RC:=[.fro (.sl (.int .u8))]
abbrev jA:List Go.Ab.RC:=[.fro qY,.fro (.sl .i),.fro .i,.fro (.sl .i)]
abbrev vL:List Go.Ab.RC:=[.fro zH]
abbrev qF:List Go.Ab.RC:=[.i]
abbrev kC:List Go.Ab.RC:=[.i,.fro qY,.fro (.sl .i),.fro .i,.fro (.sl .i),.fro .i,.fro (.sl .i),.fro zH,.fro .i,.i,.bool]
abbrev vBr:List Go.Ab.RC:=[.i,.fro qY,.fro (.sl .i),.fro .i,.fro (.sl .i),.fro .i,.fro (.sl .i),.own zH,.fro .i,.i,.bool]
abbrev wP:List Go.Ab.RC:=[.i,.fro wE,.i,.i,.i,.i,.fro qY,.fro (.sl .i),.fro .i,.fro (.sl .i),.fro .i,.fro (.sl .i),.fro zH,.fro .i,.i,.bool,.i,.own qN]
abbrev mj:List Go.Ab.RC:=[.i,.fro wE,.i,.i,.i,.i,.fro qY,.fro (.sl .i),.fro .i,.fro (.sl .i),.fro .i,.fro (.sl .i),.fro zH,.fro .i,.i,.bool,.i,.own qN,.i]
abbrev wz:List Go.Ab.RC:=[.i,.i,.i]
abbrev fc:List Go.Ab.RC:=[.i,.i,.i,.i,.i,.i,.i]
abbrev FP:List Go.Ab.RC:=[.i,.i,.i,.i,.i,.i,.i,.i]
abbrev vCp:List Go.Ab.RC:=[.i,.i,.i,.i,.i,.i,.i,.i,.i,.i,.i,.i,.i,.i,.fro qY,.fro (.sl .i),.fro .i,.fro (.sl .i)]
abbrev vR:List Go.Ab.RC:=[.i,.own (.int .u8),.i,.own (.int .u8),.i,.i,.i,.bool,.bool,.i]
abbrev FR:List Go.Ab.RC:=[.i,.own qY,.mat,.own .i,.mat,.own .i,.mat,.own zH,.own .i,.i,.bool]
abbrev yNz:List Go.Ab.RC:=[.i,.own wE,.i,.i,.i,.i,.own qY,.mat,.own .i,.mat,.own .i,.mat,.own zH,.own .i,.i,.bool,.i,.own qN]
abbrev OI:List Go.Ab.RC:=[.link 0,.i,.i,.i,.bool]
abbrev xf:List Go.Ab.RC:=[.link 1,.i,.fro wE,.i,.i,.i,.i,.fro qY,.fro (.sl .i),.fro .i,.fro (.sl .i),.fro .i,.fro (.sl .i),.fro zH,.fro .i,.i,.bool,.i,.bool]
abbrev F2:List Go.Ab.RC:=[.link 1,.i,.i,.i,.bool]
abbrev yGn:List Go.Ab.RC:=[.link 2,.i,.fro wE,.i,.i,.i,.i,.fro qY,.fro (.sl .i),.fro .i,.fro (.sl .i),.fro .i,.fro (.sl .i),.fro zH,.fro .i,.i,.bool,.i,.bool]
abbrev xg:List Go.Ab.RC:=[.link 2,.i,.i,.i,.bool]
abbrev mm:List Go.Ab.RC:=[.own .i]
abbrev vB9:List Go.Ab.RC:=[.own (.sl qN),.own qN,.i,.fro qY,.fro (.sl .i),.fro .i,.fro (.sl .i),.fro .i,.fro (.sl .i),.fro zH,.fro .i,.i,.bool,.bool]
abbrev OZ:List Go.Ab.RC:=[.own qY,.mat,.own .i,.mat]
abbrev Pu:List Go.Ab.XC:=[.link 1,.p .i,.p (.dat true wE),.p .i,.p .i,.p .i,.p .i,.p (.dat true qY),.p (.dat true (.sl .i)),.p (.dat true .i),.p (.dat true (.sl .i)),.p (.dat true .i),.p (.dat true (.sl .i)),.p (.dat true zH),.p (.dat true .i),.p .i,.p .bool,.p .i,.p .bool]
abbrev qRn:List Go.Ab.XC:=[.link 1,.p .i,.p .i,.p .i,.p .bool]
abbrev Pv:List Go.Ab.XC:=[.link 2,.p .i,.p .i,.p .i,.p .bool]
abbrev kD:List Go.Ab.XC:=[.p .i,.own (.int .u8),.p .i,.own (.int .u8),.p .i,.p .i,.p .i,.p .bool,.p .bool,.p .i]
abbrev w9:List Go.Ab.XC:=[.p .i,.p (.dat true wE),.p .i,.p .i,.p .i,.p .i,.p (.dat true qY),.p (.dat true (.sl .i)),.p (.dat true .i),.p (.dat true (.sl .i)),.p (.dat true .i),.p (.dat true (.sl .i)),.p (.dat true zH),.p (.dat true .i),.p .i,.p .bool,.p .i,.own qN]
abbrev w7:List Go.Ab.XC:=[.p .i,.p (.dat true wE),.p .i,.p .i,.p .i,.p .i,.p (.dat true qY),.p (.dat true (.sl .i)),.p (.dat true .i),.p (.dat true (.sl .i)),.p (.dat true .i),.p (.dat true (.sl .i)),.p (.dat true zH),.p (.dat true .i),.p .i,.p .bool,.p .i,.p (.nil)]
abbrev A3:List Go.Ab.XC:=[.p .i,.p (.dat true wE),.p .i,.p .i,.p .i,.p .i,.p (.dat true qY),.p (.dat true (.sl .i)),.p (.dat true .i),.p (.dat true (.sl .i)),.p (.dat true .i),.p (.dat true (.sl .i)),.p (.dat true zH),.p (.dat true .i),.p .i,.p .bool,.p .i,.p (.nil),.p .i]
section
variable {A B C D E F G H I J K L M N O P Q R S U V W X Z a b Aa Ab Ac Ad Ae Af Ag Ah Ai Aj Ak Al Am An Ao Ap Aq Ar As At T Y:Type}
abbrev jR (x:A×B×C×D)(t:T):=(x.1,x.2.1,x.2.2.1,x.2.2.2,t)
abbrev wS (x:A×B×C×D×E)(t:T):=(x.1,jR x.2 t)
abbrev mW (x:A×B×C×D×E×F)(t:T):=(x.1,wS x.2 t)
abbrev eX (x:A×B×C×D×E×F×G)(t:T):=(x.1,mW x.2 t)
abbrev A6 (x:A×B×C×D×E×F×G×H)(t:T):=(x.1,eX x.2 t)
abbrev OX (x:A×B×C×D×E×F×G×H×I)(t:T):=(x.1,A6 x.2 t)
abbrev gM (x:A×B×C×D×E×F×G×H×I×J)(t:T):=(x.1,OX x.2 t)
abbrev wA (x:A×B×C×D×E×F×G×H×I×J×K)(t:T):=(x.1,gM x.2 t)
abbrev A7 (x:A×B×C×D×E×F×G×H×I×J×K×L)(t:T):=(x.1,wA x.2 t)
abbrev vZb (x:A×B×C×D×E×F×G×H×I×J×K×L×M)(t:T):=(x.1,A7 x.2 t)
abbrev Pc (x:A×B×C×D×E×F×G×H×I×J×K×L×M×N)(t:T):=(x.1,vZb x.2 t)
abbrev yTt (x:A×B×C×D×E×F×G×H×I×J×K×L×M×N×O)(t:T):=(x.1,Pc x.2 t)
abbrev abv (x:A×B×C×D×E×F×G×H×I×J×K×L×M×N×O×P)(t:T):=(x.1,yTt x.2 t)
abbrev vM (x:A×B×C×D×E×F×G×H×I×J×K×L×M×N×O×P×Q)(t:T):=(x.1,abv x.2 t)
abbrev wY (x:A×B×C×D×E×F×G×H×I×J×K×L×M×N×O×P×Q×R)(t:T):=(x.1,vM x.2 t)
abbrev wx (x:A×B×C×D×E×F×G×H×I×J×K×L×M×N×O×P×Q×R×S)(t:T):=(x.1,wY x.2 t)
abbrev wM (x:A×B×C×D×E):=(x.1,x.2.1,x.2.2.1,x.2.2.2.1)
abbrev yG (x:A×B×C×D×E×F):=(x.1,wM x.2)
abbrev mn (x:A×B×C×D×E×F×G):=(x.1,yG x.2)
abbrev vJ (x:A×B×C×D×E×F×G×H):=(x.1,mn x.2)
abbrev lx (x:A×B×C×D×E×F×G×H×I):=(x.1,vJ x.2)
abbrev OY (x:A×B×C×D×E×F×G×H×I×J):=(x.1,lx x.2)
abbrev fa (x:A×B×C×D×E×F×G×H×I×J×K):=(x.1,OY x.2)
abbrev qZ (x:A×B×C×D×E×F×G×H×I×J×K×L):=(x.1,fa x.2)
abbrev w6 (x:A×B×C×D×E×F×G×H×I×J×K×L×M):=(x.1,qZ x.2)
abbrev vG1 (x:A×B×C×D×E×F×G×H×I×J×K×L×M×N):=(x.1,w6 x.2)
abbrev qX2 (x:A×B×C×D×E×F×G×H×I×J×K×L×M×N×O):=(x.1,vG1 x.2)
abbrev yEq (x:A×B×C×D×E×F×G×H×I×J×K×L×M×N×O×P):=(x.1,qX2 x.2)
abbrev abw (x:A×B×C×D×E×F×G×H×I×J×K×L×M×N×O×P×Q):=(x.1,yEq x.2)
abbrev kE (x:A×B×C×D×E×F×G×H×I×J×K×L×M×N×O×P×Q×R):=(x.1,abw x.2)
abbrev jQ (x:A×B×C×D×E×F×G×H×I×J×K×L×M×N×O×P×Q×R×S):=(x.1,kE x.2)
abbrev Pd (x:A×B×C×D×E×F×G×H×I×J×K×L×M×N×O×P×Q×R×S×U):=(x.1,jQ x.2)
abbrev vO (x:A×B×C×D×E)(t:T):=(x.1,x.2.1,x.2.2.1,x.2.2.2.1,t)
abbrev nR (x:A×B×C×D×E×F)(t:T):=(x.1,vO x.2 t)
abbrev wX (x:A×B×C×D×E×F×G)(t:T):=(x.1,nR x.2 t)
abbrev iT (x:A×B×C×D×E×F×G×H)(t:T):=(x.1,wX x.2 t)
abbrev yPn (x:A×B×C×D×E×F×G×H×I)(t:T):=(x.1,iT x.2 t)
abbrev qHm (x:A×B×C×D×E×F×G×H×I×J)(t:T):=(x.1,yPn x.2 t)
abbrev vGj (x:A×B×C×D×E×F×G×H×I×J×K)(t:T):=(x.1,qHm x.2 t)
abbrev xd (x:A×B×C×D×E×F×G×H×I×J×K×L)(t:T):=(x.1,vGj x.2 t)
abbrev iX (x:A×B×C×D×E×F×G×H×I×J×K×L×M)(t:T):=(x.1,xd x.2 t)
abbrev vDl (x:A×B×C×D×E×F×G×H×I×J×K×L×M×N)(t:T):=(x.1,iX x.2 t)
abbrev qIg (x:A×B×C×D×E×F×G×H×I×J×K×L×M×N×O)(t:T):=(x.1,vDl x.2 t)
abbrev vKx (x:A×B×C×D×E×F×G×H×I×J×K×L×M×N×O×P)(t:T):=(x.1,qIg x.2 t)
abbrev vP8 (x:A×B×C×D×E×F×G×H×I×J×K×L×M×N×O×P×Q)(t:T):=(x.1,vKx x.2 t)
abbrev yD (x:A×B×C×D×E×F×G×H×I×J×K×L×M×N×O×P×Q×R)(t:T):=(x.1,vP8 x.2 t)
abbrev yQi (x:A×B×C×D×E×F×G×H×I×J×K×L×M×N×O×P×Q×R×S)(t:T):=(x.1,yD x.2 t)
abbrev vB (f:A→B→C→D→Y)(x:A×B×C×D×E):Y:=f x.1 x.2.1 x.2.2.1 x.2.2.2.1
abbrev kF (f:A→B→C→D→E→Y)(x:A×B×C×D×E×F):Y:=vB (f x.1) x.2
abbrev iW (f:A→B→C→D→E→F→Y)(x:A×B×C×D×E×F×G):Y:=kF (f x.1) x.2
abbrev ly (f:A→B→C→D→E→F→G→Y)(x:A×B×C×D×E×F×G×H):Y:=iW (f x.1) x.2
abbrev lv (f:A→B→C→D→E→F→G→H→Y)(x:A×B×C×D×E×F×G×H×I):Y:=ly (f x.1) x.2
abbrev O7 (f:A→B→C→D→E→F→G→H→I→Y)(x:A×B×C×D×E×F×G×H×I×J):Y:=lv (f x.1) x.2
abbrev vX1 (f:A→B→C→D→E→F→G→H→I→J→Y)(x:A×B×C×D×E×F×G×H×I×J×K):Y:=O7 (f x.1) x.2
abbrev rA (f:A→B→C→D→E→F→G→H→I→J→K→Y)(x:A×B×C×D×E×F×G×H×I×J×K×L):Y:=vX1 (f x.1) x.2
abbrev Ka (f:A→B→C→D→E→F→G→H→I→J→K→L→Y)(x:A×B×C×D×E×F×G×H×I×J×K×L×M):Y:=rA (f x.1) x.2
abbrev qP4 (f:A→B→C→D→E→F→G→H→I→J→K→L→M→Y)(x:A×B×C×D×E×F×G×H×I×J×K×L×M×N):Y:=Ka (f x.1) x.2
abbrev FW (f:A→B→C→D→E→F→G→H→I→J→K→L→M→N→Y)(x:A×B×C×D×E×F×G×H×I×J×K×L×M×N×O):Y:=qP4 (f x.1) x.2
abbrev vWz (f:A→B→C→D→E→F→G→H→I→J→K→L→M→N→O→Y)(x:A×B×C×D×E×F×G×H×I×J×K×L×M×N×O×P):Y:=FW (f x.1) x.2
abbrev yBi (f:A→B→C→D→E→F→G→H→I→J→K→L→M→N→O→P→Y)(x:A×B×C×D×E×F×G×H×I×J×K×L×M×N×O×P×Q):Y:=vWz (f x.1) x.2
abbrev vLw (f:A→B→C→D→E→F→G→H→I→J→K→L→M→N→O→P→Q→Y)(x:A×B×C×D×E×F×G×H×I×J×K×L×M×N×O×P×Q×R):Y:=yBi (f x.1) x.2
abbrev vRk (f:A→B→C→D→E→F→G→H→I→J→K→L→M→N→O→P→Q→R→Y)(x:A×B×C×D×E×F×G×H×I×J×K×L×M×N×O×P×Q×R×S):Y:=vLw (f x.1) x.2
abbrev aaj (f:A→B→C→D→E→F→G→H→I→J→K→L→M→N→O→P→Q→R→S→Y)(x:A×B×C×D×E×F×G×H×I×J×K×L×M×N×O×P×Q×R×S×U):Y:=vRk (f x.1) x.2
abbrev qW9 (x:A×B×C×D×E×F×G×H×I×J×K×L×M×N×O×P×Q)(t:T):=jR x.2.2.2.2.2.2.2.2.2.2.2.2.2 t
abbrev z9 (x:A×B×C×D×E×F)(t:T):=jR x.2.2 t
abbrev vUi (x:A×B×C×D×E×F×G)(t:T):=jR x.2.2.2 t
abbrev ySk (x:A×B×C×D×E×F×G×H)(t:T):=jR x.2.2.2.2 t
abbrev aba (x:A×B×C×D×E×F×G×H×I)(t:T):=jR x.2.2.2.2.2 t
abbrev vUu (x:A×B×C×D×E×F×G×H×I×J×K×L)(t:T):=jR x.2.2.2.2.2.2.2.2 t
abbrev yQq (x:A×B×C×D×E×F×G×H×I×J×K×L×M×N×O×P×Q)(t:T):=wS x.2.2.2.2.2.2.2.2.2.2.2.2 t
abbrev Vj (x:A×B×C×D×E×F×G×H×I×J×K×L×M×N×O×P×Q)(t:T):=mW x.2.2.2.2.2.2.2.2.2.2.2 t
abbrev yQ6 (x:A×B×C×D×E×F×G×H)(t:T):=mW x.2.2 t
abbrev qPu (x:A×B×C×D×E×F×G×H×I×J×K×L×M×N×O×P×Q)(t:T):=eX x.2.2.2.2.2.2.2.2.2.2 t
abbrev yS4 (x:A×B×C×D×E×F×G×H)(t:T):=eX x.2 t
abbrev qRo (x:A×B×C×D×E×F×G×H×I×J×K)(t:T):=eX x.2.2.2.2 t
abbrev yLn (x:A×B×C×D×E×F×G×H×I×J×K×L×M×N)(t:T):=eX x.2.2.2.2.2.2.2 t
abbrev yKs (x:A×B×C×D×E×F×G×H×I×J×K×L×M×N×O)(t:T):=eX x.2.2.2.2.2.2.2.2 t
abbrev abx (x:A×B×C×D×E×F×G×H×I×J×K×L)(t:T):=wA x.2 t
abbrev F6 (x:A×B×C×D×E×F×G×H×I×J×K×L×M×N×O×P×Q×R)(t:T):=wA x.2.2.2.2.2.2.2 t
abbrev vOt (x:A×B×C×D×E×F×G×H×I×J×K×L×M×N×O)(t:T):=Pc x.2 t
abbrev qHh (x:A×B×C×D×E×F×G×H×I×J×K×L×M×N×O×P×Q×R×S)(t:T):=wY x.2 t
abbrev vQs (x:A×B×C×D×E×F×G×H×I×J×K×L×M×N×O×P×Q×R×S×U):=wM x.2.2.2.2.2.2.2.2.2.2.2.2.2.2.2
abbrev Pk (x:A×B×C×D×E×F):=wM x.2
abbrev Pw (x:A×B×C×D×E×F×G×H×I×J×K×L×M×N×O×P×Q×R×S×U×V×W×X×Z×a):=wM x.2.2.2.2.2.2.2.2.2.2.2.2.2.2.2.2.2.2.2.2
abbrev qT5 (x:A×B×C×D×E×F×G×H×I×J×K×L×M×N×O×P×Q×R×S×U×V×W×X×Z×a×b):=wM x.2.2.2.2.2.2.2.2.2.2.2.2.2.2.2.2.2.2.2.2.2
abbrev qTn (x:A×B×C×D×E×F×G):=wM x.2.2
abbrev vUd (x:A×B×C×D×E×F×G×H×I×J×K×L×M×N×O×P×Q×R×S×U×V×W×X×Z×a×b×Aa×Ab×Ac×Ad×Ae×Af×Ag×Ah×Ai×Aj):=wM x.2.2.2.2.2.2.2.2.2.2.2.2.2.2.2.2.2.2.2.2.2.2.2.2.2.2.2.2.2.2.2
abbrev vGe (x:A×B×C×D×E×F×G×H×I×J×K×L×M×N×O×P×Q×R×S×U×V×W×X×Z×a×b×Aa×Ab×Ac×Ad×Ae×Af×Ag×Ah×Ai×Aj×Ak):=wM x.2.2.2.2.2.2.2.2.2.2.2.2.2.2.2.2.2.2.2.2.2.2.2.2.2.2.2.2.2.2.2.2
abbrev yUp (x:A×B×C×D×E×F×G×H×I×J×K×L×M×N×O×P×Q×R×S×U×V×W×X×Z×a):=mn x.2.2.2.2.2.2.2.2.2.2.2.2.2.2.2.2.2.2
abbrev vR9 (x:A×B×C×D×E×F×G×H×I×J×K×L×M×N×O×P×Q×R×S×U×V×W×X×Z×a×b):=mn x.2.2.2.2.2.2.2.2.2.2.2.2.2.2.2.2.2.2.2
abbrev yKj (x:A×B×C×D×E×F×G×H×I×J×K×L×M×N×O×P×Q×R×S×U×V×W×X×Z×a×b×Aa):=mn x.2.2.2.2.2.2.2.2.2.2.2.2.2.2.2.2.2.2.2.2
abbrev FY (x:A×B×C×D×E×F×G×H×I×J×K×L×M×N×O×P×Q×R×S×U×V×W×X×Z×a×b):=vJ x.2.2.2.2.2.2.2.2.2.2.2.2.2.2.2.2.2.2
abbrev vEa (x:A×B×C×D×E×F×G×H×I×J×K×L×M×N×O×P×Q×R×S×U×V×W×X×Z×a×b×Aa):=vJ x.2.2.2.2.2.2.2.2.2.2.2.2.2.2.2.2.2.2.2
abbrev DQ (x:A×B×C×D×E×F×G×H×I):=vJ x.2
abbrev Y1 (x:A×B×C×D×E×F×G×H×I×J×K×L×M×N):=vJ x.2.2.2.2.2.2
abbrev qV8 (x:A×B×C×D×E×F×G×H×I×J×K×L×M×N×O):=vJ x.2.2.2.2.2.2.2
abbrev W3 (x:A×B×C×D×E×F×G×H×I×J×K×L×M×N×O×P×Q×R×S×U×V×W×X×Z×a):=lx x.2.2.2.2.2.2.2.2.2.2.2.2.2.2.2.2
abbrev vZ0 (x:A×B×C×D×E×F×G×H×I×J×K×L×M×N):=lx x.2.2.2.2.2
abbrev FQ (x:A×B×C×D×E×F×G×H×I×J×K×L):=fa x.2
abbrev Px (x:A×B×C×D×E×F×G×H×I×J×K×L×M×N×O×P×Q×R×S×U×V×W×X×Z×a×b×Aa×Ab×Ac×Ad×Ae×Af×Ag×Ah×Ai):=fa x.2.2.2.2.2.2.2.2.2.2.2.2.2.2.2.2.2.2.2.2.2.2.2.2
abbrev qKf (x:A×B×C×D×E×F×G×H×I×J×K×L×M×N×O×P×Q×R×S×U×V×W×X×Z×a×b×Aa×Ab×Ac×Ad×Ae×Af×Ag×Ah×Ai×Aj):=fa x.2.2.2.2.2.2.2.2.2.2.2.2.2.2.2.2.2.2.2.2.2.2.2.2.2
abbrev vAg (x:A×B×C×D×E×F×G×H×I×J×K×L×M):=fa x.2.2
abbrev vY6 (x:A×B×C×D×E×F×G×H×I×J×K×L×M×N×O×P×Q×R×S×U×V×W×X×Z×a×b×Aa×Ab×Ac×Ad×Ae×Af×Ag×Ah×Ai×Aj×Ak×Al×Am×An×Ao×Ap×Aq×Ar×As×At):=fa x.2.2.2.2.2.2.2.2.2.2.2.2.2.2.2.2.2.2.2.2.2.2.2.2.2.2.2.2.2.2.2.2.2.2.2
abbrev yVa (x:A×B×C×D×E×F×G×H×I×J×K×L×M×N×O):=fa x.2.2.2.2
abbrev Pl (x:A×B×C×D×E×F×G×H×I×J×K×L×M×N×O×P):=fa x.2.2.2.2.2
abbrev qUk (x:A×B×C×D×E×F×G×H×I×J×K×L×M×N×O×P×Q):=fa x.2.2.2.2.2.2
abbrev vMp (x:A×B×C×D×E×F×G×H×I×J×K×L×M×N×O×P×Q×R×S×U×V×W×X):=qZ x.2.2.2.2.2.2.2.2.2.2.2
abbrev rf (x:A×B×C×D×E×F×G×H×I×J×K×L×M×N×O×P×Q):=qZ x.2.2.2.2.2
abbrev vW3 (x:A×B×C×D×E×F×G×H×I×J×K×L×M×N×O×P×Q×R×S):=qZ x.2.2.2.2.2.2.2
abbrev vLy (x:A×B×C×D×E×F×G×H×I×J×K×L×M×N×O×P×Q×R×S×U×V×W×X×Z×a×b×Aa×Ab×Ac×Ad×Ae):=jQ x.2.2.2.2.2.2.2.2.2.2.2.2
abbrev vGp (x:A×B×C×D×E×F×G×H×I×J×K×L×M×N×O×P×Q×R×S×U×V×W×X×Z×a×b×Aa×Ab×Ac×Ad×Ae×Af):=jQ x.2.2.2.2.2.2.2.2.2.2.2.2.2
abbrev iV (x:A×B×C×D×E×F×G×H×I×J×K×L×M×N×O×P×Q×R×S×U):=jQ x.2
abbrev qMq (x:A×B×C×D×E×F×G×H×I×J×K×L×M×N×O×P×Q×R×S×U×V):=jQ x.2.2
abbrev A4 (x:A×B×C×D×E×F×G×H×I×J×K×L×M×N×O×P×Q×R×S×U×V):=Pd x.2
abbrev F4 (x:A×B×C×D×E×F×G×H×I×J×K×L×M×N×O)(t:T):=vO x.2.2.2.2.2.2.2.2.2.2 t
abbrev PX (x:A×B×C×D×E×F×G×H×I×J×K×L×M×N×O×P×Q×R)(t:T):=vO x.2.2.2.2.2.2.2.2.2.2.2.2.2 t
abbrev gP (x:A×B×C×D×E×F)(t:T):=vO x.2 t
abbrev OT (x:A×B×C×D×E×F×G)(t:T):=vO x.2.2 t
abbrev vMf (x:A×B×C×D×E×F×G×H×I×J)(t:T):=vO x.2.2.2.2.2 t
abbrev yZq (x:A×B×C×D×E×F×G×H×I×J×K×L×M×N×O×P×Q×R)(t:T):=nR x.2.2.2.2.2.2.2.2.2.2.2.2 t
abbrev yH2 (x:A×B×C×D×E×F×G×H×I×J×K×L×M×N×O×P×Q×R)(t:T):=wX x.2.2.2.2.2.2.2.2.2.2.2 t
abbrev F7 (x:A×B×C×D×E×F×G×H×I×J×K)(t:T):=wX x.2.2.2.2 t
abbrev qMe (x:A×B×C×D×E×F×G×H×I×J×K×L×M×N×O×P×Q×R)(t:T):=iT x.2.2.2.2.2.2.2.2.2.2 t
abbrev vIu (x:A×B×C×D×E×F×G×H×I×J×K×L×M×N×O×P×Q×R×S×U)(t:T):=iT x.2.2.2.2.2.2.2.2.2.2.2.2 t
abbrev qX0 (x:A×B×C×D×E×F×G×H×I)(t:T):=iT x.2 t
abbrev vIi (x:A×B×C×D×E×F×G×H×I×J×K×L×M)(t:T):=iT x.2.2.2.2.2 t
abbrev vJj (x:A×B×C×D×E×F×G×H×I×J×K×L×M)(t:T):=yPn x.2.2.2.2 t
abbrev vKl (x:A×B×C×D×E×F×G×H×I×J×K×L×M×N×O×P×Q)(t:T):=xd x.2.2.2.2.2 t
abbrev aar (x:A×B×C×D×E×F×G×H×I×J×K×L×M×N×O×P×Q×R×S×U×V)(t:T):=qIg x.2.2.2.2.2.2 t
abbrev NR (x:A×B×C×D×E×F×G×H×I×J×K×L×M×N×O×P×Q×R×S)(t:T):=yD x.2 t
end
abbrev XJ:Type:=(List iw)×Int
abbrev XH:Type:=List iw→Int→Int→Option XJ
def FN (k:Nat)(rec:XH)(s0:List iw)(s3 s4:Int):Option XJ:=
 bif decide (s4 < (s0.length : Int)) then (bif decide (s4 < 200) then (bif zB s4 s0.length then(rec s0 (zA (s3+((s0.getD s4.toNat (0,0,[],0,0)).2.2.1.length:Int))) (zA (s4+1)))
   else none)
  else some (s0,s3))
 else some (s0,s3)
def FM (k:Nat):Nat→XH:=yC (fun _ _ _=>none) (FN k)
def Og (k:Nat)(a0:List iw):Option Bool:=
 (FM k k a0 0 0).bind fun z=>
 bif decide ((z.1.length:Int)>100) then some true
 else some (decide (z.2>8000))
def JP (k:Nat)(a0:Int):Option yO:=
 bif decide ((yJ .i64 a0 3)=1) then some (4,[(100,1000),(7,0)],12,20,100)
 else bif decide ((yJ .i64 a0 3)=2) then some (3,[],20,20,4)
 else bif decide ((yJ .i64 a0 3)=3) then some (3,[(100,1000),(7,0)],0,6,1)
 else some (3,[(100,1000),(7,0)],12,20,4)
def We (k:Nat)(a0:Int):Option (vN⊕Unit):=
 bif decide (a0<0) then some (.inr ())
 else bif decide (a0>200000) then some (.inr ())
 else some (.inl (a0,[],0,[],0,0,0,false,false,0))
def ru (k:Nat)(a0 a1 a2:Int):Option Bool:=
 bif decide (a0≥a1) then some (decide (a0≤a2))
 else some false
def yE3 (k:Nat)(a0:vI):Option Bool:=
 (ru k a0.1 0 1048576).bind fun x0=>
 bif !x0 then some true
 else(ru k a0.2 0 10000).bind fun x1=>
 some (!x1)
abbrev XK:Type:=List vI→Int→Int→Option (Unit⊕Int)
def yFn (k:Nat)(rec:XK)(s0:List vI)(s7 s8:Int):Option (Unit⊕Int):=
 bif decide (s8 < s7) then (bif zB s8 s0.length then ((yE3 k (s0.getD s8.toNat (0,0))).bind fun x0=>
   bif x0 then some (.inr s8)
   else rec s0 s7 (zA (s8+1)))
  else none)
 else some (.inl ())
def XN (k:Nat):Nat→XK:=yC (fun _ _ _=>none) (yFn k)
def vBh (k:Nat)(a0:List vI):Option Int:=
 (XN k k a0 (a0.length:Int) 0).bind fun z=>
 match z with
 |.inl z1=>some (-1)
 |.inr z2=>some z2
def yE6 (k:Nat)(a0:List vI):Option Bool:=
 (vBh k a0).bind fun x0=>
 some (decide (x0≥0))
def AY (k:Nat)(a0:yO):Option Bool:=
 (ru k a0.1 1 6).bind fun x0=>
 bif x0 then ((ru k a0.2.2.2.1 1 1048576).bind fun x1=>
  bif x1 then ((ru k a0.2.2.1 0 a0.2.2.2.1).bind fun x2=>
   bif x2 then ((ru k a0.2.2.2.2 1 1048576).bind fun x3=>
    bif decide ((a0.2.1.length : Int) ≤ 3) then (bif x3 then ((yE6 k a0.2.1).bind fun x4=>
      some (!x4))
     else some false)
    else some false)
   else bif decide ((a0.2.1.length:Int)≤3) then some false
   else some false)
  else bif decide ((a0.2.1.length:Int)≤3) then some false
  else some false)
 else(ru k a0.2.2.2.1 1 1048576).bind fun x5=>
 bif x5 then ((ru k a0.2.2.1 0 a0.2.2.2.1).bind fun x6=>
  bif x6 then ((ru k a0.2.2.2.2 1 1048576).bind fun x7=>
   some false)
  else some false)
 else some false
def Ox (k:Nat)(a0:Int):Option Bool:=
 bif decide (a0≥0) then some (decide (a0<2))
 else some false
def XP (k:Nat)(a0:AC):Option AC:=
 bif zO (0+a0.length) 1 then some a0
 else none
def yB3 (k:Nat)(a0:vN)(a1:Int):Option AC:=
 (Ox k a1).bind fun x0=>
 bif !x0 then some []
 else bif decide (a1 = 0) then ((XP k a0.2.1).bind fun x1=>
  some x1)
 else bif decide (a1 = 1) then ((XP k a0.2.2.2.1).bind fun x2=>
  some x2)
 else none
abbrev XT:Type:=AC×EQ
abbrev XR:Type:=AC→EQ→Option XT
def yLt (k:Nat)(rec:XR)(s0:AC)(r0:EQ):Option XT:=
 bif decide ((s0.length : Int) ≥ 2) then (bif zB 0 s0.length then (bif zB 1 s0.length then (bif decide ((wK .i64 (shl .i64 (zA ((s0.getD 0 0))) 8) (zA ((s0.getD 1 0))))>60000) then some (s0,r0)
    else bif decide ((wK .i64 (shl .i64 (zA ((s0.getD 0 0))) 8) (zA ((s0.getD 1 0))))>(zA ((s0.length:Int)-2))) then some (s0,r0)
    else bif (decide (2 ≤ (zA (2 + (wK .i64 (shl .i64 (zA ((s0.getD 0 0))) 8) (zA ((s0.getD 1 0)))))))) && (decide ((zA (2 + (wK .i64 (shl .i64 (zA ((s0.getD 0 0))) 8) (zA ((s0.getD 1 0)))))) ≤ (s0.length : Int))) then (bif zO (0 + (qW s0 2 ((zA (2 + (wK .i64 (shl .i64 (zA ((s0.getD 0 0))) 8) (zA ((s0.getD 1 0)))))).toNat - 2)).length) 1 then (let y0:AC:=(qW s0 2 ((zA (2+(wK .i64 (shl .i64 (zA ((s0.getD 0 0))) 8) (zA ((s0.getD 1 0)))))).toNat-2))
      bif zO (r0.length + 1) 24 then (bif (decide (0≤(zA (2+(wK .i64 (shl .i64 (zA ((s0.getD 0 0))) 8) (zA ((s0.getD 1 0))))))))&&(decide ((zA (2+(wK .i64 (shl .i64 (zA ((s0.getD 0 0))) 8) (zA ((s0.getD 1 0))))))≤(s0.length:Int))) then(rec (List.drop (zA (2+(wK .i64 (shl .i64 (zA ((s0.getD 0 0))) 8) (zA ((s0.getD 1 0)))))).toNat s0) (r0++[y0]))
       else none)
      else none)
     else none)
    else none)
   else none)
  else none)
 else some (s0,r0)
def XU (k:Nat):Nat→XR:=yC (fun _ _=>none) (yLt k)
def XV (k:Nat)(a0:AC):Option (EQ×Int):=
 (XU k k a0 []).bind fun z=>
 some (z.2,(z.1.length:Int))
abbrev XY:Type:=AC×Int×AC
abbrev XW:Type:=AC→Int→AC→Int→Int→AC→Option XY
def NV (k:Nat)(rec:XW)(s0:AC)(s5:Int)(bR:AC)(bc kj:Int)(r0:AC):Option XY:=
 bif decide (kj < bc) then (bif zB kj bR.length then(rec s0 (wK .u64 (shl .u64 s5 8) (IntKind.wrap .u64 ((bR.getD kj.toNat 0)))) bR bc (zA (kj+1)) r0)
  else none)
 else some (s0,s5,r0)
def Fx (k:Nat):Nat→XW:=yC (fun _ _ _ _ _ _=>none) (NV k)
def Fz (k:Nat)(rec:AC→AC→Option AC)(s0 r0:AC):Option AC:=
 bif decide ((s0.length : Int) > 0) then (bif decide (8 ≤ (s0.length : Int)) then ((Fx k k s0 0 (List.take 8 s0) ((List.take 8 s0).length:Int) 0 r0).bind fun z=>
   bif zO (z.2.2.length + 1) 8 then (bif decide (8≤(z.1.length:Int)) then(rec (List.drop 8 z.1) (z.2.2++[(zA (z.2.1))]))
    else none)
   else none)
  else none)
 else some r0
def Fy (k:Nat):Nat→AC→AC→Option AC:=yC (fun _ _=>none) (Fz k)
def tC (k:Nat)(a0:AC):Option (AC×Int):=
 bif !(decide ((Int.tmod (a0.length:Int) 8)=0)) then some ([],2)
 else(Fy k k a0 []).bind fun z1=>
 some (z1,0)
def Oy (k:Nat)(a0:vN)(a1:Int):Option (Int×AC×EQ):=
 (yB3 k a0 a1).bind fun x0=>
 (XV k x0).bind fun x1=>
 bif decide ((x1.1.length:Int)=0) then some (0,[],[])
 else bif zB 0 x1.1.length then (bif decide (((x1.1.getD 0 []).length:Int)<8) then some (0,[],[])
  else bif zB 0 x1.1.length then (bif decide (8 ≤ ((x1.1.getD 0 []).length : Int)) then ((tC k (List.take 8 (x1.1.getD 0 []))).bind fun x2=>
    bif zB 0 x2.1.length then (bif decide ((x2.1.getD 0 0)<1) then some (0,[],[])
     else bif zB 0 x2.1.length then (bif decide ((x2.1.getD 0 0)>4611686018427387904) then some (0,[],[])
      else bif zB 0 x2.1.length then (bif zB 0 x1.1.length then (bif decide (8 ≤ ((x1.1.getD 0 []).length : Int)) then (bif decide (1≤(x1.1.length:Int)) then some ((x2.1.getD 0 0),(List.drop 8 (x1.1.getD 0 [])),(qW x1.1 1 (x1.1.length-1)))
         else none)
        else none)
       else none)
      else none)
     else none)
    else none)
   else none)
  else none)
 else none
def X2 (k:Nat)(a0:vN):Option (Int×Int×AC×EQ×Bool):=
 (Oy k a0 0).bind fun x0=>
 bif decide (x0.1 > 0) then ((Oy k a0 1).bind fun x1=>
  bif decide (x1.1>x0.1) then some (x1.1,1,x1.2.1,x1.2.2,true)
  else some (x0.1,0,x0.2.1,x0.2.2,true))
 else(Oy k a0 1).bind fun x2=>
 bif decide (x2.1>0) then some (x2.1,1,x2.2.1,x2.2.2,true)
 else some (0,0,[],[],false)
def H8 (k:Nat)(a0:Int):Option Bool:=
 bif decide (a0≥0) then some (decide (a0≤6))
 else some false
abbrev X4:Type:=Int→Int→Int→AC→Option AC
def Dc (k:Nat)(rec:X4)(s1 bo bA:Int)(r0:AC):Option AC:=
 bif decide (bA < bo) then (bif zB bA r0.length then(rec s1 bo (zA (bA+1)) (r0.set bA.toNat s1))
  else none)
 else some r0
def H9 (k:Nat):Nat→X4
 |0,_,_,_,_=>none
 |n+1,s1,bo,bA,r0=>Dc k (H9 k n) s1 bo bA r0
def yx (k:Nat)(a0 a1:Int):Option AC:=
 (H8 k a0).bind fun x0=>
 bif !x0 then some []
 else bif pV a0 a0 8 then ((H9 k k a1 ((List.replicate a0.toNat (0:Int)).length:Int) 0 (List.replicate a0.toNat (0:Int))).bind fun z=>
  some z)
 else none
abbrev X6:Type:=Int→Int→Int→Int→EQ→Option EQ
def De (k:Nat)(rec:X6)(s0 s1 bo bA:Int)(m0:EQ):Option EQ:=
 bif decide (bA < bo) then ((yx k s0 s1).bind fun x1=>
  bif zB bA m0.length then(rec s0 s1 bo (zA (bA+1)) (m0.set bA.toNat x1))
  else none)
 else some m0
def Ia (k:Nat):Nat→X6
 |0,_,_,_,_,_=>none
 |n+1,s0,s1,bo,bA,m0=>De k (Ia k n) s0 s1 bo bA m0
def Dd (k:Nat)(a0 a1:Int):Option EQ:=
 (H8 k a0).bind fun x0=>
 bif !x0 then some []
 else bif pV a0 a0 24 then ((Ia k k a0 a1 ((List.replicate a0.toNat ([]:AC)).length:Int) 0 (List.replicate a0.toNat ([]:AC))).bind fun z=>
  some z)
 else none
abbrev X9:Type:=Int×yO×vH×vH×(List zK)×EQ×AC×EQ×AC
abbrev X8:Type:=Int→List vI→Int→Int→yO→vH→vH→List zK→EQ→AC→EQ→AC→Option X9
def yRj (k:Nat)(rec:X8)(s3:Int)(cH:List vI)(s21 PZ:Int)(b0:yO)(b1 b2:vH)(r3:List zK)(m4:EQ)(r5:AC)(m6:EQ)(r7:AC):Option X9:=
 bif decide (PZ < s21) then (bif zB PZ cH.length then (bif zO (r7.length+1) 8 then(rec s3 cH s21 (zA (PZ+1)) b0 b1 b2 r3 m4 r5 m6 (r7++[(cH.getD PZ.toNat (0,0)).1]))
   else none)
  else none)
 else some (s3,b0,b1,b2,r3,m4,r5,m6,r7)
def Ya (k:Nat):Nat→X8:=yC (fun _ _ _ _ _ _ _ _ _ _ _ _=>none) (yRj k)
abbrev Yc:Type:=vH×vH×(List zK)×EQ×AC×EQ×AC×EQ
abbrev Yb:Type:=Int→Int→yO→vH→vH→List zK→EQ→AC→EQ→AC→EQ→Option Yc
def vAd (k:Nat)(rec:Yb)(Bc rD:Int)(b0:yO)(b1 b2:vH)(r3:List zK)(m4:EQ)(r5:AC)(m6:EQ)(r7:AC)(m8:EQ):Option Yc:=
 bif decide (rD < Bc) then (bif pV (b0.2.1.length : Int) (b0.2.1.length : Int) 8 then (bif zO (m8.length+1) 24 then(rec Bc (zA (rD+1)) b0 b1 b2 r3 m4 r5 m6 r7 (m8++[(List.replicate b0.2.1.length (0:Int))]))
   else none)
  else none)
 else some (b1,b2,r3,m4,r5,m6,r7,m8)
def Yd (k:Nat):Nat→Yb:=yC (fun _ _ _ _ _ _ _ _ _ _ _=>none) (vAd k)
def oV (k:Nat)(a0:yO):Option yT:=
 bif pV a0.1 a0.1 24 then ((Dd k a0.1 (-1)).bind fun x0=>
  (yx k a0.1 (-1)).bind fun x1=>
  (Dd k a0.1 0).bind fun x2=>
  (Ya k k a0.1 a0.2.1 (a0.2.1.length:Int) 0 a0 (0,0,false) (0,0,false) (List.replicate a0.1.toNat ((0,0,0):Int×Int×Int)) x0 x1 x2 []).bind fun z=>
  (Yd k k z.1 0 z.2.1 z.2.2.1 z.2.2.2.1 z.2.2.2.2.1 z.2.2.2.2.2.1 z.2.2.2.2.2.2.1 z.2.2.2.2.2.2.2.1 z.2.2.2.2.2.2.2.2 []).bind fun z1=>
  some (z1.2.1.1,(yQ6 z1 ([],[],z1.2.1.2))))
 else none
def N6 (k:Nat)(a0:Bool):Option Int:=
 bif a0 then some 1
 else some 0
abbrev Yj:Type:=AC×Int×Int×AC
abbrev Yh:Type:=Int→Int→AC→Int→Int→AC→Option Yj
def N4 (k:Nat)(rec:Yh)(s5 s6:Int)(aO:AC)(bx bo:Int)(r0:AC):Option Yj:=
 bif decide (s6 ≥ 0) then (bif !(decide ((zA (8 * s6)) < 0)) then (bif zO (r0.length+1) 1 then(rec s5 (zA (s6-1)) aO bx bo (r0++[(IntKind.wrap .u8 ((shr .i64 s5 (zA (8*s6)))))]))
   else none)
  else none)
 else some (aO,bx,bo,r0)
def wj (k:Nat):Nat→Yh:=yC (fun _ _ _ _ _ _=>none) (N4 k)
abbrev Yk:Type:=AC→Int→Int→AC→Option AC
def FC (k:Nat)(rec:Yk)(aO:AC)(bx bo:Int)(r0:AC):Option AC:=
 bif decide (bo < bx) then (bif zB bo aO.length then ((wj k k (aO.getD bo.toNat 0) 7 aO bx bo r0).bind fun z=>
   rec z.1 z.2.1 (zA (z.2.2.1+1)) z.2.2.2)
  else none)
 else some r0
def AN (k:Nat):Nat→Yk:=yC (fun _ _ _ _=>none) (FC k)
def wk (k:Nat)(a0:AC):Option AC:=
 bif pV 0 (zA (8 * (a0.length : Int))) 1 then ((AN k k a0 (a0.length:Int) 0 []).bind fun z1=>
  some z1)
 else none
def N5 (k:Nat)(a0:AC):Option AC:=
 (wk k [(a0.length:Int)]).bind fun x0=>
 (wk k a0).bind fun x1=>
 bif zO (x0.length+x1.length) 1 then some (x0++x1)
 else none
abbrev Yo:Type:=EQ→Int→Int→AC→Option AC
def FE (k:Nat)(rec:Yo)(s6:EQ)(s7 s8:Int)(r0:AC):Option AC:=
 bif decide (s8 < s7) then (bif zB s8 s6.length then ((N5 k (s6.getD s8.toNat [])).bind fun x0=>
   bif zO (r0.length+x0.length) 1 then(rec s6 s7 (zA (s8+1)) (r0++x0))
   else none)
  else none)
 else some r0
def FD (k:Nat):Nat→Yo:=yC (fun _ _ _ _=>none) (FE k)
def JL (k:Nat)(a0:EQ):Option AC:=
 (FD k k a0 (a0.length:Int) 0 []).bind fun z=>
 some z
abbrev Yt:Type:=yT×Kl×EQ
abbrev Ys:Type:=List zK→Int→Int→yT→Kl→EQ→Option Yt
def FH (k:Nat)(rec:Ys)(kI:List zK)(ga ix:Int)(b0:yT)(b1:Kl)(r2:EQ):Option Yt:=
 bif decide (ix < ga) then (bif zB ix kI.length then (bif zO (r2.length + 1) 24 then (let y0:EQ:=(r2++[[(kI.getD ix.toNat (0,0,0)).1,(kI.getD ix.toNat (0,0,0)).2.1,(kI.getD ix.toNat (0,0,0)).2.2]])
    rec kI ga (zA (ix+1)) b0 b1 y0)
   else none)
  else none)
 else some (b0,b1,r2)
def AQ (k:Nat):Nat→Ys:=yC (fun _ _ _ _ _ _=>none) (FH k)
abbrev Yv:Type:=yT×EQ
abbrev Yu:Type:=List zC→Int→Int→yT→EQ→Option Yv
def FI (k:Nat)(rec:Yu)(tM:List zC)(s80 rE:Int)(b0:yT)(r1:EQ):Option Yv:=
 bif decide (rE < s80) then (bif zB rE tM.length then (bif zO (r1.length + 1) 24 then (let y3:EQ:=(r1++[[(tM.getD rE.toNat (0,0,0,0,0,0,0)).1,(tM.getD rE.toNat (0,0,0,0,0,0,0)).2.1,(tM.getD rE.toNat (0,0,0,0,0,0,0)).2.2.1,(tM.getD rE.toNat (0,0,0,0,0,0,0)).2.2.2.1,(tM.getD rE.toNat (0,0,0,0,0,0,0)).2.2.2.2.1,(tM.getD rE.toNat (0,0,0,0,0,0,0)).2.2.2.2.2.1,(tM.getD rE.toNat (0,0,0,0,0,0,0)).2.2.2.2.2.2]])
    rec tM s80 (zA (rE+1)) b0 y3)
   else none)
  else none)
 else some (b0,r1)
def AR (k:Nat):Nat→Yu:=yC (fun _ _ _ _ _=>none) (FI k)
def kB (k:Nat)(a0:yT):Option AC:=
 (N6 k a0.2.2.2.2.2.2.2.2.2.2).bind fun x0=>
 (AQ k k a0.2.1 (a0.2.1.length:Int) 0 a0 (Pk a0) [[a0.1,a0.2.2.2.2.2.2.2.2.2.1,x0,(a0.2.1.length:Int),(a0.2.2.1.length:Int),(a0.2.2.2.1.length:Int),(a0.2.2.2.2.1.length:Int),(a0.2.2.2.2.2.2.1.length:Int),(a0.2.2.2.2.2.2.2.1.length:Int)]]).bind fun z=>
 bif zO (z.2.2.length + z.2.1.2.1.length) 24 then (bif zO ((z.2.2 ++ z.2.1.2.1).length + 1) 24 then (let y1:EQ:=((z.2.2++z.2.1.2.1)++[z.2.1.2.2.1])
   bif zO (y1.length + z.2.1.2.2.2.length) 24 then (bif zO ((y1 ++ z.2.1.2.2.2).length + 1) 24 then (let y2:EQ:=((y1++z.2.1.2.2.2)++[z.1.2.2.2.2.2.1])
     bif zO (y2.length + z.1.2.2.2.2.2.2.1.length) 24 then ((AR k k z.1.2.2.2.2.2.2.2.1 (z.1.2.2.2.2.2.2.2.1.length:Int) 0 z.1 (y2++z.1.2.2.2.2.2.2.1)).bind fun z1=>
      bif zO (z1.2.length + 1) 24 then (let y4:EQ:=(z1.2++[z1.1.2.2.2.2.2.2.2.2.1])
       (JL k y4).bind fun x1=>
       some x1)
      else none)
     else none)
    else none)
   else none)
  else none)
 else none
def JJ (k:Nat)(a0:AC):Option kG:=
 bif decide ((a0.length:Int)>60000) then some ([],false)
 else bif zO (2+a0.length) 1 then some (([(IntKind.wrap .u8 ((shr .i64 (a0.length:Int) 8))),(IntKind.wrap .u8 ((a0.length:Int)))]++a0),true)
 else none
def V3 (k:Nat)(a0:vN):Option Int:=
 some a0.1
def OH (k:Nat)(a0:vN):Option Bool:=
 some a0.2.2.2.2.2.2.2.2.1
def J2 (k:Nat)(a0:vN):Option (Bool×vN):=
 bif !a0.2.2.2.2.2.2.2.1 then some (false,(qHm a0 (zA (a0.2.2.2.2.2.2.2.2.2+1))))
 else bif decide (a0.2.2.2.2.2.2.2.2.2<a0.2.2.2.2.2.1) then some (false,(qHm a0 (zA (a0.2.2.2.2.2.2.2.2.2+1))))
 else bif (decide (0 ≤ (zA (a0.2.2.1 + (wN true (wN false a0.2.2.2.2.2.2.1 0) (zA ((a0.2.1.length : Int) - a0.2.2.1))))))) && (decide ((zA (a0.2.2.1 + (wN true (wN false a0.2.2.2.2.2.2.1 0) (zA ((a0.2.1.length : Int) - a0.2.2.1))))) ≤ (a0.2.1.length : Int))) then (bif (decide (0≤(zA (a0.2.2.2.2.1+(wN true (zA ((wN false a0.2.2.2.2.2.2.1 0)-(wN true (wN false a0.2.2.2.2.2.2.1 0) (zA ((a0.2.1.length:Int)-a0.2.2.1))))) (zA ((a0.2.2.2.1.length:Int)-a0.2.2.2.2.1)))))))&&(decide ((zA (a0.2.2.2.2.1+(wN true (zA ((wN false a0.2.2.2.2.2.2.1 0)-(wN true (wN false a0.2.2.2.2.2.2.1 0) (zA ((a0.2.1.length:Int)-a0.2.2.1))))) (zA ((a0.2.2.2.1.length:Int)-a0.2.2.2.2.1)))))≤(a0.2.2.2.1.length:Int))) then some (true,a0.1,(List.take ((zA (a0.2.2.1+(wN true (wN false a0.2.2.2.2.2.2.1 0) (zA ((a0.2.1.length:Int)-a0.2.2.1))))).toNat-0) a0.2.1),(zA (a0.2.2.1+(wN true (wN false a0.2.2.2.2.2.2.1 0) (zA ((a0.2.1.length:Int)-a0.2.2.1))))),(List.take ((zA (a0.2.2.2.2.1+(wN true (zA ((wN false a0.2.2.2.2.2.2.1 0)-(wN true (wN false a0.2.2.2.2.2.2.1 0) (zA ((a0.2.1.length:Int)-a0.2.2.1))))) (zA ((a0.2.2.2.1.length:Int)-a0.2.2.2.2.1))))).toNat-0) a0.2.2.2.1),(zA (a0.2.2.2.2.1+(wN true (zA ((wN false a0.2.2.2.2.2.2.1 0)-(wN true (wN false a0.2.2.2.2.2.2.1 0) (zA ((a0.2.1.length:Int)-a0.2.2.1))))) (zA ((a0.2.2.2.1.length:Int)-a0.2.2.2.2.1))))),a0.2.2.2.2.2.1,a0.2.2.2.2.2.2.1,a0.2.2.2.2.2.2.2.1,true,a0.2.2.2.2.2.2.2.2.2)
  else none)
 else none
def N3 (k:Nat)(a0:vN)(a1:Int):Option (Int×vN):=
 (OH k a0).bind fun x0=>
 bif x0 then some (11,a0)
 else(Ox k a1).bind fun x1=>
 bif !x1 then some (1,a0)
 else(J2 k a0).bind fun x2=>
 bif x2.1 then some (11,x2.2)
 else bif decide (a1 = 0) then (bif decide (a1=0) then some (0,x2.2.1,[],0,x2.2.2.2.2)
  else bif decide (a1=1) then some (0,x2.2.1,[],x2.2.2.2.1,x2.2.2.2.2.1,0,x2.2.2.2.2.2.2)
  else none)
 else bif decide (a1 = 1) then (bif decide (a1=0) then some (0,x2.2.1,x2.2.2.1,0,[],x2.2.2.2.2.2)
  else bif decide (a1=1) then some (0,x2.2.1,x2.2.2.1,x2.2.2.2.1,[],0,x2.2.2.2.2.2.2)
  else none)
 else none
def tF (k:Nat)(a0:vN)(a1:Int)(a2:AC):Option (Int×vN):=
 (OH k a0).bind fun x0=>
 bif x0 then some (11,a0)
 else(Ox k a1).bind fun x1=>
 bif !x1 then some (1,a0)
 else bif decide (a1 = 0) then (bif decide ((a2.length:Int)>(zA (a0.1-(a0.2.1.length:Int)))) then some (3,a0)
  else(J2 k a0).bind fun x2=>
  bif x2.1 then some (11,x2.2)
  else bif decide (a1 = 0) then (bif zO (x2.2.2.1.length+a2.length) 1 then some (0,x2.2.1,(x2.2.2.1++a2),x2.2.2.2)
   else none)
  else bif decide (a1 = 1) then (bif zO (x2.2.2.2.2.1.length+a2.length) 1 then some (0,x2.2.1,x2.2.2.1,x2.2.2.2.1,(x2.2.2.2.2.1++a2),x2.2.2.2.2.2)
   else none)
  else none)
 else bif decide (a1 = 1) then (bif decide ((a2.length:Int)>(zA (a0.1-(a0.2.2.2.1.length:Int)))) then some (3,a0)
  else(J2 k a0).bind fun x3=>
  bif x3.1 then some (11,x3.2)
  else bif decide (a1 = 0) then (bif zO (x3.2.2.1.length+a2.length) 1 then some (0,x3.2.1,(x3.2.2.1++a2),x3.2.2.2)
   else none)
  else bif decide (a1 = 1) then (bif zO (x3.2.2.2.2.1.length+a2.length) 1 then some (0,x3.2.1,x3.2.2.1,x3.2.2.2.1,(x3.2.2.2.2.1++a2),x3.2.2.2.2.2)
   else none)
  else none)
 else none
def JH (k:Nat)(a0:vN):Option (Int×vN):=
 (OH k a0).bind fun x0=>
 bif x0 then some (11,a0)
 else(J2 k a0).bind fun x1=>
 bif x1.1 then some (11,x1.2)
 else some (0,x1.2.1,x1.2.2.1,(x1.2.2.1.length:Int),x1.2.2.2.2.1,(x1.2.2.2.2.1.length:Int),x1.2.2.2.2.2.2)
def N8 (k:Nat)(a0:vN)(a1 a2:Int)(a3:AC):Option (Int×vN):=
 (wk k [a2]).bind fun x0=>
 bif zO (x0.length + a3.length) 1 then ((JJ k (x0++a3)).bind fun x1=>
  bif !x1.2 then some (10,a0)
  else bif decide (a2>4611686018427387904) then some (10,a0)
  else(V3 k a0).bind fun x2=>
  bif decide ((x1.1.length:Int)>x2) then some (10,a0)
  else(N3 k a0 a1).bind fun x3=>
  bif !(decide (x3.1=0)) then some (x3.1,x3.2)
  else(tF k x3.2 a1 x1.1).bind fun x4=>
  bif !(decide (x4.1=0)) then some (x4.1,x4.2)
  else(JH k x4.2).bind fun x5=>
  some (x5.1,x5.2))
 else none
def yS3 (k:Nat)(a0:vN)(a1:AC):Option ((AC×EQ×Int×vN×fZ)⊕(AC×EQ×Int×vN)):=
 (X2 k a0).bind fun x0=>
 bif x0.2.2.2.2 then some (.inl (x0.2.2.1,x0.2.2.2.1,0,a0,x0.2.1,x0.1,(x0.2.2.2.1.length:Int),true))
 else(N8 k a0 0 1 a1).bind fun x1=>
 bif !(decide (x1.1=0)) then some (.inr ([],[],x1.1,x1.2))
 else bif zO (0+a1.length) 1 then some (.inl (a1,[],0,x1.2,0,1,0,false))
 else none
def vBz (k:Nat)(a0:AC):Option (AC×AC×Bool):=
 bif decide ((a0.length:Int)<8) then some ([],[],false)
 else bif decide (8 ≤ (a0.length : Int)) then ((tC k (List.take 8 a0)).bind fun x0=>
  bif decide (8 ≤ (a0.length : Int)) then (bif zB 0 x0.1.length then (bif decide ((x0.1.getD 0 0)<0) then some ([],[],false)
    else bif zB 0 x0.1.length then (bif decide ((x0.1.getD 0 0)>(zA (Int.tdiv ((List.drop 8 a0).length:Int) 8))) then some ([],[],false)
     else bif zB 0 x0.1.length then (bif (decide (0 ≤ (zA (8 * (x0.1.getD 0 0))))) && (decide ((zA (8 * (x0.1.getD 0 0))) ≤ ((List.drop 8 a0).length : Int))) then ((tC k (List.take (zA (8*(x0.1.getD 0 0))).toNat (List.drop 8 a0))).bind fun x1=>
       bif (decide (0≤(zA (8*(x0.1.getD 0 0)))))&&(decide ((zA (8*(x0.1.getD 0 0)))≤((List.drop 8 a0).length:Int))) then some (x1.1,(List.drop (zA (8*(x0.1.getD 0 0))).toNat (List.drop 8 a0)),true)
       else none)
      else none)
     else none)
    else none)
   else none)
  else none)
 else none
def FT (k:Nat)(a0:kG):Option (AC×kG):=
 (vBz k a0.1).bind fun x0=>
 bif a0.2 then some (x0.1,x0.2.1,true)
 else some (x0.1,x0.2.1,(!x0.2.2))
def OJ (k:Nat)(a0:kG)(a1:Int):Option (AC×kG):=
 (FT k a0).bind fun x0=>
 bif !(decide ((x0.1.length : Int) = a1)) then (bif pV a1 a1 8 then some ((List.replicate a1.toNat (0:Int)),x0.2.1,true)
  else none)
 else some (x0.1,x0.2)
abbrev YE:Type:=kG×EQ
abbrev YC:Type:=Int→kG→EQ→Option YE
def yHf (k:Nat)(rec:YC)(s1:Int)(b0:kG)(r1:EQ):Option YE:=
 bif decide (s1 > 0) then (bif !b0.2 then ((FT k b0).bind fun x0=>
   bif zO (r1.length+1) 24 then(rec (zA (s1-1)) x0.2 (r1++[x0.1]))
   else none)
  else some (b0,r1))
 else some (b0,r1)
def YF (k:Nat):Nat→YC:=yC (fun _ _ _=>none) (yHf k)
def OK (k:Nat)(a0:kG)(a1:Int):Option (EQ×kG):=
 (YF k k a1 a0 []).bind fun z=>
 some (z.2,z.1)
def vB6 (k:Nat)(a0 a1:AC):Option Bool:=
 some (Ge a0 a1)
abbrev YK:Type:=AC×vH×kG×AC×vH×(List zK)
abbrev YJ:Type:=AC→Int→vH→kG→AC→vH→List zK→Option YK
def yNx (k:Nat)(rec:YJ)(s0:AC)(s7:Int)(b0:vH)(b1:kG)(r2:AC)(b3:vH)(r4:List zK):Option YK:=
 bif decide (s7 > 0) then (bif !b1.2 then ((OJ k b1 3).bind fun x1=>
   bif zB 0 x1.1.length then (bif zB 1 x1.1.length then (bif zB 2 x1.1.length then (bif zO (r4.length + 1) 24 then (let y0:List zK:=(r4++[((x1.1.getD 0 0),(x1.1.getD 1 0),(x1.1.getD 2 0))])
       rec s0 (zA (s7-1)) b0 x1.2 r2 b3 y0)
      else none)
     else none)
    else none)
   else none)
  else some (s0,b0,b1,r2,b3,r4))
 else some (s0,b0,b1,r2,b3,r4)
def YL (k:Nat):Nat→YJ:=yC (fun _ _ _ _ _ _ _=>none) (yNx k)
abbrev YN:Type:=AC×vH×kG×vH×(List zK)×EQ×AC×EQ×AC×EQ×(List zC)
abbrev YM:Type:=AC→Int→vH→kG→vH→List zK→EQ→AC→EQ→AC→EQ→List zC→Option YN
def yP6 (k:Nat)(rec:YM)(s0:AC)(s9:Int)(b0:vH)(b1:kG)(b2:vH)(r3:List zK)(r4:EQ)(r5:AC)(r6:EQ)(r7:AC)(r8:EQ)(r9:List zC):Option YN:=
 bif decide (s9 > 0) then (bif !b1.2 then ((OJ k b1 7).bind fun x7=>
   bif zB 0 x7.1.length then (bif zB 1 x7.1.length then (bif zB 2 x7.1.length then (bif zB 3 x7.1.length then (bif zB 4 x7.1.length then (bif zB 5 x7.1.length then (bif zB 6 x7.1.length then (bif zO (r9.length + 1) 56 then (let y1:List zC:=(r9++[((x7.1.getD 0 0),(x7.1.getD 1 0),(x7.1.getD 2 0),(x7.1.getD 3 0),(x7.1.getD 4 0),(x7.1.getD 5 0),(x7.1.getD 6 0))])
           rec s0 (zA (s9-1)) b0 x7.2 b2 r3 r4 r5 r6 r7 r8 y1)
          else none)
         else none)
        else none)
       else none)
      else none)
     else none)
    else none)
   else none)
  else some (s0,b0,b1,b2,r3,r4,r5,r6,r7,r8,r9))
 else some (s0,b0,b1,b2,r3,r4,r5,r6,r7,r8,r9)
def YO (k:Nat):Nat→YM:=yC (fun _ _ _ _ _ _ _ _ _ _ _ _=>none) (yP6 k)
def OO (k:Nat)(a0:AC):Option (yT×Bool):=
 (OJ k (a0,false) 9).bind fun x0=>
 bif zB 0 x0.1.length then (bif zB 1 x0.1.length then (bif zB 2 x0.1.length then (bif zB 3 x0.1.length then ((YL k k a0 (x0.1.getD 3 0) (0,0,false) x0.2 x0.1 ((x0.1.getD 0 0),(x0.1.getD 1 0),(decide ((x0.1.getD 2 0)=1))) []).bind fun z=>
     bif zB 4 z.2.2.2.1.length then ((OK k z.2.2.1 (z.2.2.2.1.getD 4 0)).bind fun x2=>
      (FT k x2.2).bind fun x3=>
      bif zB 6 z.2.2.2.1.length then ((OK k x3.2 (z.2.2.2.1.getD 6 0)).bind fun x4=>
       (FT k x4.2).bind fun x5=>
       bif zB 7 z.2.2.2.1.length then ((OK k x5.2 (z.2.2.2.1.getD 7 0)).bind fun x6=>
        bif zB 8 z.2.2.2.1.length then ((YO k k z.1 (z.2.2.2.1.getD 8 0) z.2.1 x6.2 z.2.2.2.2.1 z.2.2.2.2.2 x2.1 x3.1 x4.1 x5.1 x6.1 []).bind fun z1=>
         (FT k z1.2.2.1).bind fun x8=>
         bif x8.2.2 then some ((0,[],[],[],[],[],[],[],[],0,false),false)
         else(kB k (z1.2.2.2.1.1,(qRo z1 (x8.1,z1.2.2.2.1.2)))).bind fun x9=>
         (vB6 k x9 z1.1).bind fun di=>
         bif !di then some ((0,[],[],[],[],[],[],[],[],0,false),false)
         else some ((z1.2.2.2.1.1,(qRo z1 (x8.1,z1.2.2.2.1.2))),true))
        else none)
       else none)
      else none)
     else none)
    else none)
   else none)
  else none)
 else none
def tw (k:Nat)(a0:Int):Option Int:=
 bif decide (a0=9) then some 0
 else bif decide (a0=13) then some 0
 else bif decide (a0=14) then some 0
 else bif decide (a0=15) then some 0
 else bif decide (a0=2) then some 1
 else bif decide (a0=6) then some 1
 else bif decide (a0=7) then some 1
 else bif decide (a0=16) then some 1
 else bif decide (a0=19) then some 1
 else bif decide (a0=20) then some 1
 else bif decide (a0=21) then some 1
 else bif decide (a0=22) then some 1
 else bif decide (a0=23) then some 1
 else bif decide (a0=3) then some 2
 else bif decide (a0=4) then some 2
 else bif decide (a0=5) then some 2
 else bif decide (a0=8) then some 2
 else bif decide (a0=10) then some 2
 else bif decide (a0=11) then some 2
 else bif decide (a0=12) then some 2
 else bif decide (a0=18) then some 4
 else bif decide (a0=17) then some 5
 else bif decide (a0=1) then some 6
 else some (-1)
def nM (k:Nat)(a0:AC):Option (zC×Int):=
 bif decide ((a0.length:Int)=0) then some ((0,0,0,0,0,0,0),2)
 else bif decide (1 ≤ (a0.length : Int)) then ((tC k (List.drop 1 a0)).bind fun x0=>
  bif !(decide (x0.2=0)) then some ((0,0,0,0,0,0,0),2)
  else bif zB 0 a0.length then ((tw k (zA ((a0.getD 0 0)))).bind fun x1=>
   bif !(decide ((x0.1.length:Int)=x1)) then some ((0,0,0,0,0,0,0),2)
   else bif zB 0 a0.length then some (((zA ((a0.getD 0 0))),(bif (Nat.blt 0 x0.1.length) then(x0.1.getD 0 0) else 0),(bif (Nat.blt 1 x0.1.length) then(x0.1.getD 1 0) else 0),(bif (Nat.blt 2 x0.1.length) then(x0.1.getD 2 0) else 0),(bif (Nat.blt 3 x0.1.length) then(x0.1.getD 3 0) else 0),(bif (Nat.blt 4 x0.1.length) then(x0.1.getD 4 0) else 0),(bif (Nat.blt 5 x0.1.length) then(x0.1.getD 5 0) else 0)),0)
   else none)
  else none)
 else none
def YR (k:Nat)(a0:AC):Option (qA×Int):=
 bif decide ((a0.length:Int)<8) then some ((0,0,0,0,0,0,0,0),2)
 else bif decide (8 ≤ (a0.length : Int)) then ((tC k (List.take 8 a0)).bind fun x0=>
  bif decide (8 ≤ (a0.length : Int)) then ((nM k (List.drop 8 a0)).bind fun x1=>
   bif !(decide (x1.2=0)) then some ((0,0,0,0,0,0,0,0),2)
   else bif zB 0 x0.1.length then some (((x0.1.getD 0 0),x1.1),0)
   else none)
  else none)
 else none
def NM (k:Nat)(a0:Int):Option Bool:=
 bif decide (a0≥10) then some (decide (a0≤14))
 else some false
def Jx (k:Nat)(a0:Int):Option Bool:=
 bif decide (a0≥1) then some (decide (a0≤14))
 else some false
abbrev YU:Type:=AC→Int→Int→Option (Unit⊕Bool)
def wg (k:Nat)(rec:YU)(bo:AC)(bA aZ:Int):Option (Unit⊕Bool):=
 bif decide (aZ < bA) then (bif zB aZ bo.length then (bif !(decide ((bo.getD aZ.toNat 0)=0)) then some (.inr false)
   else rec bo bA (zA (aZ+1)))
  else none)
 else some (.inl ())
def tx (k:Nat):Nat→YU:=yC (fun _ _ _=>none) (wg k)
def qy (k:Nat)(a0:zC):Option Bool:=
 (tw k a0.1).bind fun x0=>
 bif decide (x0<0) then some false
 else bif (decide (0 ≤ x0)) && (decide (x0 ≤ 6)) then ((tx k k (qW [a0.2.1,a0.2.2.1,a0.2.2.2.1,a0.2.2.2.2.1,a0.2.2.2.2.2.1,a0.2.2.2.2.2.2] x0.toNat (6-x0.toNat)) ((qW [a0.2.1,a0.2.2.1,a0.2.2.2.1,a0.2.2.2.2.1,a0.2.2.2.2.2.1,a0.2.2.2.2.2.2] x0.toNat (6-x0.toNat)).length:Int) 0).bind fun z=>
  match z with
  |.inl z1=>some true
  |.inr z2=>some z2)
 else none
def tz (k:Nat)(a0:yO)(a1:yT)(a2:qA):Option Int:=
 (NM k a2.2.1).bind fun x0=>
 bif decide (a2.1 ≥ 0) then ((Jx k a2.2.1).bind fun x1=>
  bif !x1 then some 5
  else(qy k a2.2).bind fun x2=>
  bif !x2 then some 5
  else bif x0 then (bif !(decide (a2.1=(-1))) then some 5
   else bif !x0 then (bif !(decide (a2.1<a0.1)) then some 5
    else bif a1.2.2.2.2.2.2.2.2.2.2 then (bif !(decide (a2.2.1=9)) then some 7
     else some 0)
    else some 0)
   else bif a1.2.2.2.2.2.2.2.2.2.2 then (bif !(decide (a2.2.1=9)) then some 7
    else some 0)
   else some 0)
  else bif !x0 then (bif !(decide (a2.1<a0.1)) then some 5
   else bif a1.2.2.2.2.2.2.2.2.2.2 then (bif !(decide (a2.2.1=9)) then some 7
    else some 0)
   else some 0)
  else bif a1.2.2.2.2.2.2.2.2.2.2 then (bif !(decide (a2.2.1=9)) then some 7
   else some 0)
  else some 0)
 else(Jx k a2.2.1).bind fun x3=>
 bif !x3 then some 5
 else(qy k a2.2).bind fun x4=>
 bif !x4 then some 5
 else bif x0 then (bif !(decide (a2.1=(-1))) then some 5
  else bif !x0 then some 5
  else bif a1.2.2.2.2.2.2.2.2.2.2 then (bif !(decide (a2.2.1=9)) then some 7
   else some 0)
  else some 0)
 else bif !x0 then some 5
 else bif a1.2.2.2.2.2.2.2.2.2.2 then (bif !(decide (a2.2.1=9)) then some 7
  else some 0)
 else some 0
def UL (k:Nat)(bZ ba bq cn bH bU bJ a1:Int):Option Bool:=
 some (decide (ba=a1))
abbrev YY:Type:=List zC
abbrev YW:Type:=List zC→Int→Int→Int→List zC→Option YY
def Ej (k:Nat)(rec:YW)(s8:List zC)(s9 aw ae:Int)(r1:List zC):Option YY:=
 bif decide (aw < s9) then (bif zB aw s8.length then ((UL k (s8.getD aw.toNat (0,0,0,0,0,0,0)).1 (s8.getD aw.toNat (0,0,0,0,0,0,0)).2.1 (s8.getD aw.toNat (0,0,0,0,0,0,0)).2.2.1 (s8.getD aw.toNat (0,0,0,0,0,0,0)).2.2.2.1 (s8.getD aw.toNat (0,0,0,0,0,0,0)).2.2.2.2.1 (s8.getD aw.toNat (0,0,0,0,0,0,0)).2.2.2.2.2.1 (s8.getD aw.toNat (0,0,0,0,0,0,0)).2.2.2.2.2.2 ae).bind fun x0=>
   bif x0 then (bif zO (r1.length + 1) 56 then (let y0:List zC:=(r1++[(s8.getD aw.toNat (0,0,0,0,0,0,0))])
     rec s8 s9 (zA (aw+1)) ae y0)
    else none)
   else rec s8 s9 (zA (aw+1)) ae r1)
  else none)
 else some r1
def IS (k:Nat):Nat→YW
 |0,_,_,_,_,_=>none
 |n+1,s8,s9,aw,ae,r1=>Ej k (IS k n) s8 s9 aw ae r1
def UK (k:Nat)(a0:List zC)(cT:Int):Option (List zC):=
 (IS k k a0 (a0.length:Int) 0 cT []).bind fun z=>
 some z
def IQ (k:Nat)(a0:List zC)(a1:Int):Option (List zC):=
 (UK k a0 a1).bind fun x0=>
 some x0
def yJb (k:Nat)(a0:(Int×Int×Int×Int×Int×Int×Bool×Int))(a1:Int)(a2:AC):Option jC:=
 some (a0.1,[],(gP a0 ([],[],[],[],[],[],[],[],a0.2.2.2.2.2.1,a0.2.2.2.2.2.2.1,a0.2.2.2.2.2.2.2,[(a0.2.2.2.2.2.2.2,a1,(bif (Nat.blt 0 a2.length) then(a2.getD 0 0) else 0),(bif (Nat.blt 1 a2.length) then(a2.getD 1 0) else 0),(bif (Nat.blt 2 a2.length) then(a2.getD 2 0) else 0),(bif (Nat.blt 3 a2.length) then(a2.getD 3 0) else 0),(bif (Nat.blt 4 a2.length) then(a2.getD 4 0) else 0),(bif (Nat.blt 5 a2.length) then(a2.getD 5 0) else 0))])))
def Jz (k:Nat)(a0:yT)(a1:Int):Option (List qA):=
 bif zB a1 a0.2.1.length then ((IQ k a0.2.2.2.2.2.2.2.1 a1).bind fun x0=>
  (yJb k (0,0,0,0,0,0,false,a1) 17 [(a0.2.1.getD a1.toNat (0,0,0)).1,(a0.2.1.getD a1.toNat (0,0,0)).2.1,(a0.2.1.getD a1.toNat (0,0,0)).2.2,(x0.length:Int),a0.1]).bind fun x1=>
  some x1.2.2.2.2.2.2.2.2.2.2.2.2.2.2.2.2.2)
 else none
def NS (k:Nat)(a0:kH)(a1:Int)(a2:AC):Option jC:=
 some (vM a0 [(a0.2.2.2.2.2.2.2.2.2.2.2.2.2.2.2.2,a1,(bif (Nat.blt 0 a2.length) then(a2.getD 0 0) else 0),(bif (Nat.blt 1 a2.length) then(a2.getD 1 0) else 0),(bif (Nat.blt 2 a2.length) then(a2.getD 2 0) else 0),(bif (Nat.blt 3 a2.length) then(a2.getD 3 0) else 0),(bif (Nat.blt 4 a2.length) then(a2.getD 4 0) else 0),(bif (Nat.blt 5 a2.length) then(a2.getD 5 0) else 0))])
def vF (k:Nat)(a0 a1 a2:Int):Option Bool:=
 bif decide (a0≥a1) then some (decide (a0≤a2))
 else some false
def I2 (k:Nat)(a0:yO)(a1:Int):Option Bool:=
 bif decide (a1≥0) then some (decide (a1<a0.1))
 else some false
def Nc (k:Nat)(a0:yO)(a1:Int)(a2:zC):Option Bool:=
 (I2 k a0 a2.2.1).bind fun x0=>
 bif x0 then ((I2 k a0 a2.2.2.1).bind fun x1=>
  bif x1 then (bif decide (a2.1 ≥ 1) then (bif decide (a2.2.2.2.1 ≥ 1) then (bif decide (a2.2.2.2.1 ≤ 1099511627776) then (bif decide (a2.2.2.2.2.1 ≥ 1) then (bif !(decide (a2.2.1 = a2.2.2.1)) then (bif decide (a2.2.2.2.2.1 ≤ 3) then (bif decide (a2.2.2.2.2.2.1 ≥ 0) then (bif decide (a2.2.2.2.2.2.1 ≤ a2.2.2.2.2.2.2) then (bif decide (a2.2.2.2.2.2.2≥a1) then some (decide (a2.2.2.2.2.2.2≤1048576))
           else some false)
          else some false)
         else some false)
        else some false)
       else some false)
      else bif !(decide (a2.2.1=a2.2.2.1)) then some false
      else some false)
     else bif !(decide (a2.2.1=a2.2.2.1)) then some false
     else some false)
    else bif !(decide (a2.2.1=a2.2.2.1)) then some false
    else some false)
   else bif !(decide (a2.2.1=a2.2.2.1)) then some false
   else some false)
  else bif decide (a2.1 ≥ 1) then (bif decide (a2.2.2.2.1 ≥ 1) then (bif decide (a2.2.2.2.1 ≤ 1099511627776) then (bif decide (a2.2.2.2.2.1≥1) then some false
     else some false)
    else some false)
   else some false)
  else some false)
 else bif decide (a2.1 ≥ 1) then (bif decide (a2.2.2.2.1 ≥ 1) then (bif decide (a2.2.2.2.1 ≤ 1099511627776) then (bif decide (a2.2.2.2.2.1≥1) then some false
    else some false)
   else some false)
  else some false)
 else some false
def zt (k:Nat)(a0:yO)(a1 a2:Int):Option Int:=
 bif decide (a1≥a0.2.2.2.1) then some 7
 else bif decide (a2 = 3) then (bif decide (a1≥a0.2.2.1) then some 7
  else some 0)
 else some 0
def EE (k:Nat)(a0:yO)(a1:Int)(a2:zC):Option Int:=
 (Nc k a0 a1 a2).bind fun x0=>
 bif !x0 then some 1
 else(zt k a0 a1 a2.2.2.2.2.1).bind fun x1=>
 some x1
def MK (k:Nat)(a0:Int):Option Bool:=
 some (!(decide (a0=a0)))
def MJ (k:Nat)(a0 a1:Int):Option Bool:=
 (MK k a0).bind fun x0=>
 bif x0 then ((MK k a1).bind fun x1=>
  bif !x1 then some true
  else some (decide (a0<a1)))
 else some (decide (a0<a1))
def MM (k:Nat)(a0:Int):Option Bool:=
 some (!(decide (a0=a0)))
abbrev Y5:Type:=AC×Int×Int×Int
abbrev Y3:Type:=AC→Int→Int→Int→Int→Option Y5
def ML (k:Nat)(rec:Y3)(s0:AC)(s1 s6 s7 s8:Int):Option Y5:=
 bif decide (s7 < s8) then (bif zB (zA ((shr .u64 (IntKind.wrap .u64 ((zA (s7 + s8)))) 1))) s0.length then ((MJ k (s0.getD (zA ((shr .u64 (IntKind.wrap .u64 ((zA (s7+s8)))) 1))).toNat 0) s1).bind fun x0=>
   bif x0 then(rec s0 s1 s6 (zA ((zA ((shr .u64 (IntKind.wrap .u64 ((zA (s7+s8)))) 1)))+1)) s8)
   else rec s0 s1 s6 s7 (zA ((shr .u64 (IntKind.wrap .u64 ((zA (s7+s8)))) 1))))
  else none)
 else some (s0,s1,s6,s7)
def IB (k:Nat):Nat→Y3:=yC (fun _ _ _ _ _=>none) (ML k)
def DU (k:Nat)(a0:AC)(a1:Int):Option jX:=
 (IB k k a0 a1 (a0.length:Int) 0 (a0.length:Int)).bind fun z=>
 bif decide (z.2.2.2 < z.2.2.1) then (bif zB z.2.2.2 z.1.length then (bif decide ((z.1.getD z.2.2.2.toNat 0)=z.2.1) then some (z.2.2.2,true)
   else bif zB z.2.2.2 z.1.length then ((MM k (z.1.getD z.2.2.2.toNat 0)).bind fun x1=>
    bif x1 then ((MM k z.2.1).bind fun x2=>
     some (z.2.2.2,x2))
    else some (z.2.2.2,false))
   else none)
  else none)
 else some (z.2.2.2,false)
def oL (k:Nat)(a0:AC):Option AC:=
 bif zO (0+a0.length) 8 then some a0
 else none
abbrev yNv (k:Nat)(a0:AC)(a1:Int)(a2:AC):Option AC:=ins 8 a0 a1 a2
def DV (k:Nat)(a0:AC)(a1:Int):Option (AC×Int):=
 (DU k a0 a1).bind fun x0=>
 bif x0.2 then some (a0,6)
 else bif decide ((a0.length:Int)≥200) then some (a0,3)
 else(oL k a0).bind fun x1=>
 (yNv k x1 x0.1 [a1]).bind fun x2=>
 some (x2,0)
def Ui (k:Nat)(bZ ba bq cn bH bU bJ a1:Int):Option Bool:=
 some (decide (bZ=a1))
abbrev Zc:Type:=List zC→Int→Int→Int→Option (Unit⊕Int)
def DH (k:Nat)(rec:Zc)(s0:List zC)(s7 s8 ae:Int):Option (Unit⊕Int):=
 bif decide (s8 < s7) then (bif zB s8 s0.length then ((Ui k (s0.getD s8.toNat (0,0,0,0,0,0,0)).1 (s0.getD s8.toNat (0,0,0,0,0,0,0)).2.1 (s0.getD s8.toNat (0,0,0,0,0,0,0)).2.2.1 (s0.getD s8.toNat (0,0,0,0,0,0,0)).2.2.2.1 (s0.getD s8.toNat (0,0,0,0,0,0,0)).2.2.2.2.1 (s0.getD s8.toNat (0,0,0,0,0,0,0)).2.2.2.2.2.1 (s0.getD s8.toNat (0,0,0,0,0,0,0)).2.2.2.2.2.2 ae).bind fun x0=>
   bif x0 then some (.inr s8)
   else rec s0 s7 (zA (s8+1)) ae)
  else none)
 else some (.inl ())
def DG (k:Nat):Nat→Zc
 |0,_,_,_,_=>none
 |n+1,s0,s7,s8,ae=>DH k (DG k n) s0 s7 s8 ae
def Uj (k:Nat)(a0:List zC)(cT:Int):Option Int:=
 (DG k k a0 (a0.length:Int) 0 cT).bind fun z=>
 match z with
 |.inl z1=>some (-1)
 |.inr z2=>some z2
def nE (k:Nat)(a0:List zC)(a1:Int):Option Int:=
 (Uj k a0 a1).bind fun x0=>
 some x0
def MH (k:Nat)(a0:Int):Option Bool:=
 some (!(decide (a0=a0)))
def Iw (k:Nat)(a0 a1:Int):Option Int:=
 (MH k a0).bind fun x0=>
 (MH k a1).bind fun x1=>
 bif x0 then (bif x1 then some 0
  else some (-1))
 else bif x1 then some 1
 else bif decide (a0<a1) then some (-1)
 else bif decide (a0>a1) then some 1
 else some 0
abbrev Ze:Type:=Int→AC→Int→Int→Option (Int⊕Int)
def yR9 (k:Nat)(rec:Ze)(s3:Int)(s6:AC)(s7 s8:Int):Option (Int⊕Int):=
 bif decide (s8 < s7) then (bif zB s8 s6.length then (bif !(decide ((s6.getD s8.toNat 0)=s3)) then some (.inr (s6.getD s8.toNat 0))
   else rec s3 s6 s7 (zA (s8+1)))
  else none)
 else some (.inl s3)
def DI (k:Nat):Nat→Ze
 |0,_,_,_,_=>none
 |n+1,s3,s6,s7,s8=>yR9 k (DI k n) s3 s6 s7 s8
def MG (k:Nat)(a0:AC):Option Int:=
 (DI k k 0 a0 (a0.length:Int) 0).bind fun z=>
 match z with
 |.inl z1=>some z1
 |.inr z2=>some z2
def DJ (k:Nat)(bZ ba bq cn bH bU bJ gm cp dm dW dp il im:Int):Option Int:=
 (Iw k ba cp).bind fun x0=>
 (Iw k bH dp).bind fun x1=>
 (MG k [x0,x1]).bind fun x2=>
 some x2
def uX (k:Nat)(a0:List zC):Option (List zC):=
 bif zO (0+a0.length) 56 then some a0
 else none
abbrev MI (k:Nat)(a0:List zC)(a1:Int)(a2:List zC):Option (List zC):=ins 56 a0 a1 a2
abbrev Zj:Type:=(List zC)×Int×zC
abbrev Zh:Type:=List zC→Int→zC→Option Zj
def DN (k:Nat)(rec:Zh)(s0:List zC)(s6:Int)(b0:zC):Option Zj:=
 bif decide (s6 < (s0.length : Int)) then (bif zB s6 s0.length then ((DJ k (s0.getD s6.toNat (0,0,0,0,0,0,0)).1 (s0.getD s6.toNat (0,0,0,0,0,0,0)).2.1 (s0.getD s6.toNat (0,0,0,0,0,0,0)).2.2.1 (s0.getD s6.toNat (0,0,0,0,0,0,0)).2.2.2.1 (s0.getD s6.toNat (0,0,0,0,0,0,0)).2.2.2.2.1 (s0.getD s6.toNat (0,0,0,0,0,0,0)).2.2.2.2.2.1 (s0.getD s6.toNat (0,0,0,0,0,0,0)).2.2.2.2.2.2 b0.1 b0.2.1 b0.2.2.1 b0.2.2.2.1 b0.2.2.2.2.1 b0.2.2.2.2.2.1 b0.2.2.2.2.2.2).bind fun x1=>
   bif decide (x1≤0) then(rec s0 (zA (s6+1)) b0)
   else some (s0,s6,b0))
  else none)
 else some (s0,s6,b0)
def DM (k:Nat):Nat→Zh:=yC (fun _ _ _=>none) (DN k)
def uY (k:Nat)(a0:List zC)(a1:zC):Option ((List zC)×Int):=
 (nE k a0 a1.1).bind fun x0=>
 bif decide (x0≥0) then some (a0,6)
 else bif decide ((a0.length:Int)≥40) then some (a0,3)
 else(DM k k a0 0 a1).bind fun z=>
 (uX k z.1).bind fun x2=>
 (MI k x2 z.2.1 [z.2.2]).bind fun x3=>
 some (x3,0)
def Nd (k:Nat)(a0:jC)(a1:Km):Option (Int×jC):=
 (vF k a1.2.1 0 (zA (a0.1-1))).bind fun x0=>
 bif !x0 then some (1,a0)
 else(vF k a1.2.2.2.1 1 3).bind fun x1=>
 bif !x1 then some (1,a0)
 else(EE k (yG a0) a0.2.2.2.2.2.1 (a1.1,a0.2.2.2.2.2.2.2.2.2.2.2.2.2.2.2.2.1,a1.2)).bind fun x2=>
 bif !(decide (x2=0)) then some (x2,a0)
 else(DV k a0.2.2.2.2.2.2.2.2.2.2.2.2.2.1 a1.1).bind fun x3=>
 bif !(decide (x3.2=0)) then some (x3.2,a0)
 else(uY k a0.2.2.2.2.2.2.2.2.2.2.2.2.1 (a1.1,a0.2.2.2.2.2.2.2.2.2.2.2.2.2.2.2.2.1,a1.2)).bind fun x4=>
 bif !(decide (x4.2=0)) then some (x4.2,a0)
 else some (0,(iX a0 (x4.1,x3.1,a0.2.2.2.2.2.2.2.2.2.2.2.2.2.2)))
def Zm (k:Nat)(a0:jC)(a1:Int):Option (zC×Int):=
 (nE k a0.2.2.2.2.2.2.2.2.2.2.2.2.1 a1).bind fun x0=>
 bif decide (x0<0) then some ((0,0,0,0,0,0,0),4)
 else bif zB x0 a0.2.2.2.2.2.2.2.2.2.2.2.2.1.length then (bif !(decide ((a0.2.2.2.2.2.2.2.2.2.2.2.2.1.getD x0.toNat (0,0,0,0,0,0,0)).2.1=a0.2.2.2.2.2.2.2.2.2.2.2.2.2.2.2.2.1)) then some ((0,0,0,0,0,0,0),4)
  else bif zB x0 a0.2.2.2.2.2.2.2.2.2.2.2.2.1.length then some ((a0.2.2.2.2.2.2.2.2.2.2.2.2.1.getD x0.toNat (0,0,0,0,0,0,0)),0)
  else none)
 else none
def Iv (k:Nat)(a0:List zC)(a1 a2:Int):Option (List zC):=
 bif ((((decide (0 ≤ a1)) && (decide (a1 ≤ a2))) && (decide (a2 ≤ (a0.length : Int)))) && (decide (((a2.toNat : Nat) : Int) ≤ (a0.length : Int)))) && (decide ((a0.length : Int) ≤ (a0.length : Int))) then (bif decide (a1=a2) then some a0
  else bif (decide (0 ≤ a1)) && (decide (a1 ≤ (a0.length : Int))) then (bif (decide (0 ≤ a2)) && (decide (a2 ≤ (a0.length : Int))) then (bif Nat.ble (a1.toNat - 0) (0 + a2.toNat) then (let y0:List zC:=(((List.take (a1.toNat-0) a0)++(qW a0 (0+a2.toNat) (a0.length-a2.toNat)))++(List.drop ((a1.toNat-0)+(a0.length-a2.toNat)) a0))
     bif ((decide (0 ≤ ((qW y0 0 ((a1.toNat - 0) + (a0.length - a2.toNat))).length : Int))) && (decide (((qW y0 0 ((a1.toNat - 0) + (a0.length - a2.toNat))).length : Int) ≤ (a0.length : Int)))) && (decide ((a0.length : Int) ≤ (((y0.length - 0) : Nat) : Int))) then (let y1:List zC:=(((List.take (0+(qW y0 0 ((a1.toNat-0)+(a0.length-a2.toNat))).length) y0)++(List.replicate (a0.length-(qW y0 0 ((a1.toNat-0)+(a0.length-a2.toNat))).length) ((0,0,0,0,0,0,0):Int×Int×Int×Int×Int×Int×Int)))++(List.drop ((0+(qW y0 0 ((a1.toNat-0)+(a0.length-a2.toNat))).length)+(a0.length-(qW y0 0 ((a1.toNat-0)+(a0.length-a2.toNat))).length)) y0))
      some (List.take ((a1.toNat-0)+(a0.length-a2.toNat)) y1))
     else none)
    else none)
   else none)
  else none)
 else none
def oO (k:Nat)(a0:List zC)(a1:Int):Option qTm:=
 (nE k a0 a1).bind fun x0=>
 bif decide (x0<0) then some (a0,0,0,0,0,0,0,0,4)
 else(uX k a0).bind fun x1=>
 (Iv k x1 x0 (zA (x0+1))).bind fun x2=>
 bif zB x0 a0.length then some (x2,(eX (a0.getD x0.toNat (0,0,0,0,0,0,0)) 0))
 else none
def vt (k:Nat)(a0:jC)(a1:Int)(a2:AC):Option jC:=
 bif zO (a0.2.2.2.2.2.2.2.2.2.2.2.2.2.2.2.2.2.length + 1) 64 then (let y0:List qA:=(a0.2.2.2.2.2.2.2.2.2.2.2.2.2.2.2.2.2++[(a0.2.2.2.2.2.2.2.2.2.2.2.2.2.2.2.2.1,a1,(bif (Nat.blt 0 a2.length) then(a2.getD 0 0) else 0),(bif (Nat.blt 1 a2.length) then(a2.getD 1 0) else 0),(bif (Nat.blt 2 a2.length) then(a2.getD 2 0) else 0),(bif (Nat.blt 3 a2.length) then(a2.getD 3 0) else 0),(bif (Nat.blt 4 a2.length) then(a2.getD 4 0) else 0),(bif (Nat.blt 5 a2.length) then(a2.getD 5 0) else 0))])
  some (yD a0 y0))
 else none
def DO (k:Nat)(a0:List zC)(a1 a2:Int):Option ((List zC)×Int):=
 (oO k a0 a1).bind fun x0=>
 bif !(decide (x0.2.2.2.2.2.2.2.2=0)) then some (a0,x0.2.2.2.2.2.2.2.2)
 else(uY k x0.1 (gP x0 (a2,x0.2.2.2.2.2.2.1,x0.2.2.2.2.2.2.2.1))).bind fun x1=>
 some (x1.1,x1.2)
def Uq (k:Nat)(a0:List zC)(a1:Int):Option qTm:=
 (nE k a0 a1).bind fun x0=>
 bif decide (x0<0) then none
 else(uX k a0).bind fun x1=>
 (Iv k x1 x0 (zA (x0+1))).bind fun x2=>
 bif zB x0 a0.length then some (x2,(eX (a0.getD x0.toNat (0,0,0,0,0,0,0)) 0))
 else none
abbrev Zr:Type:=Int×(List zC)×zC
abbrev Zp:Type:=Int→List zC→zC→Option Zr
def DS (k:Nat)(rec:Zp)(s9:Int)(r0:List zC)(b1:zC):Option Zr:=
 bif decide (s9 < (r0.length : Int)) then (bif zB s9 r0.length then ((DJ k (r0.getD s9.toNat (0,0,0,0,0,0,0)).1 (r0.getD s9.toNat (0,0,0,0,0,0,0)).2.1 (r0.getD s9.toNat (0,0,0,0,0,0,0)).2.2.1 (r0.getD s9.toNat (0,0,0,0,0,0,0)).2.2.2.1 (r0.getD s9.toNat (0,0,0,0,0,0,0)).2.2.2.2.1 (r0.getD s9.toNat (0,0,0,0,0,0,0)).2.2.2.2.2.1 (r0.getD s9.toNat (0,0,0,0,0,0,0)).2.2.2.2.2.2 b1.1 b1.2.1 b1.2.2.1 b1.2.2.2.1 b1.2.2.2.2.1 b1.2.2.2.2.2.1 b1.2.2.2.2.2.2).bind fun x1=>
   bif decide (x1<0) then(rec (zA (s9+1)) r0 b1)
   else some (s9,r0,b1))
  else none)
 else some (s9,r0,b1)
def DR (k:Nat):Nat→Zp:=yC (fun _ _ _=>none) (DS k)
def DT (k:Nat)(a0:List zC)(a1:Int):Option ((List zC)×Int):=
 (Uq k a0 a1).bind fun x0=>
 bif !(decide (x0.2.2.2.2.2.2.2.2=0)) then some (a0,x0.2.2.2.2.2.2.2.2)
 else(DR k k 0 x0.1 (DQ x0)).bind fun z=>
 (MI k z.2.1 z.1 [z.2.2]).bind fun x2=>
 some (x2,0)
def DP (k:Nat)(a0:List zC)(a1:Int):Option ((List zC)×Int):=
 (oO k a0 a1).bind fun x0=>
 bif !(decide (x0.2.2.2.2.2.2.2.2=0)) then some (a0,x0.2.2.2.2.2.2.2.2)
 else(uY k x0.1 (DQ x0)).bind fun x1=>
 some (x1.1,x1.2)
def zu (k:Nat)(a0:jC)(a1:zC):Option (Int×jC):=
 (Zm k a0 a1.2.1).bind fun x0=>
 bif !(decide (x0.2=0)) then some (x0.2,a0)
 else bif decide (a1.1 = 2) then ((oO k a0.2.2.2.2.2.2.2.2.2.2.2.2.1 a1.2.1).bind fun x1=>
  (vt k (iX a0 (x1.1,a0.2.2.2.2.2.2.2.2.2.2.2.2.2)) 20 [a1.2.1]).bind fun x2=>
  some (x1.2.2.2.2.2.2.2.2,x2))
 else bif decide (a1.1 = 4) then ((vF k a1.2.2.1 1 3).bind fun x3=>
  bif !x3 then some (1,a0)
  else(zt k (yG a0) a0.2.2.2.2.2.1 a1.2.2.1).bind fun x4=>
  bif !(decide (x4=0)) then some (x4,a0)
  else(DO k a0.2.2.2.2.2.2.2.2.2.2.2.2.1 a1.2.1 a1.2.2.1).bind fun x5=>
  some (x5.2,(iX a0 (x5.1,a0.2.2.2.2.2.2.2.2.2.2.2.2.2))))
 else bif decide (a1.2.2.1 = 0) then ((DT k a0.2.2.2.2.2.2.2.2.2.2.2.2.1 a1.2.1).bind fun x6=>
  some (x6.2,(iX a0 (x6.1,a0.2.2.2.2.2.2.2.2.2.2.2.2.2))))
 else bif decide (a1.2.2.1 = 1) then ((DP k a0.2.2.2.2.2.2.2.2.2.2.2.2.1 a1.2.1).bind fun x7=>
  some (x7.2,(iX a0 (x7.1,a0.2.2.2.2.2.2.2.2.2.2.2.2.2))))
 else some (1,a0)
def TF (k:Nat)(a0:List zK):Option (List zK):=
 bif zO (0+a0.length) 24 then some a0
 else none
def TA (k:Nat)(a0:EQ):Option Nat:=
 bif zO (0+a0.length) 24 then some a0.length
 else none
abbrev Zt:Type:=EQ→Int→Int→EQ→Nat→Option (EQ×Nat)
def CL (k:Nat)(rec:Zt)(s8:EQ)(s9 aw:Int)(m0:EQ)(n0:Nat):Option (EQ×Nat):=
 bif decide (aw < s9) then (bif zB aw s8.length then ((oL k (s8.getD aw.toNat [])).bind fun x1=>
   bif zB aw n0 then (bif Nat.beq aw.toNat m0.length then(rec s8 s9 (zA (aw+1)) (m0++[x1]) n0)
    else none)
   else none)
  else none)
 else some (m0,n0)
def HQ (k:Nat):Nat→Zt
 |0,_,_,_,_,_=>none
 |n+1,s8,s9,aw,m0,n0=>CL k (HQ k n) s8 s9 aw m0 n0
def HR (k:Nat)(a0:EQ):Option EQ:=
 (TA k a0).bind fun x0=>
 (HQ k k a0 (a0.length:Int) 0 [] x0).bind fun z=>
 SC z.1 z.2
def fU (k:Nat)(au:List zK)(az:EQ)(ay:AC)(ax:EQ):Option Kl:=
 (TF k au).bind fun x0=>
 (HR k az).bind fun x1=>
 (oL k ay).bind fun x2=>
 (HR k ax).bind fun x3=>
 some (x0,x1,x2,x3)
def Zw (k:Nat)(a0:jC)(a1:Int):Option Bool:=
 (vF k a1 0 (zA (a0.1-1))).bind fun x0=>
 bif x0 then some (!(decide (a1=a0.2.2.2.2.2.2.2.2.2.2.2.2.2.2.2.2.1)))
 else some false
def zv (k:Nat)(a0:jC)(a1:zC):Option (Int×jC):=
 (fU k a0.2.2.2.2.2.2.1 a0.2.2.2.2.2.2.2.1 a0.2.2.2.2.2.2.2.2.1 a0.2.2.2.2.2.2.2.2.2.1).bind fun x0=>
 bif decide (a1.1 = 5) then ((Zw k a0 a1.2.1).bind fun x1=>
  bif !x1 then some (1,a0)
  else(vF k a1.2.2.1 (-1) 1152921504606846976).bind fun x2=>
  bif !x2 then some (1,a0)
  else bif zB a0.2.2.2.2.2.2.2.2.2.2.2.2.2.2.2.2.1 x0.2.1.length then (bif zB a1.2.1 (x0.2.1.getD a0.2.2.2.2.2.2.2.2.2.2.2.2.2.2.2.2.1.toNat []).length then (let y0:EQ:=(x0.2.1.set a0.2.2.2.2.2.2.2.2.2.2.2.2.2.2.2.2.1.toNat ((x0.2.1.getD a0.2.2.2.2.2.2.2.2.2.2.2.2.2.2.2.2.1.toNat []).set a1.2.1.toNat a1.2.2.1))
    some (0,(wX a0 (x0.1,y0,x0.2.2.1,x0.2.2.2,a0.2.2.2.2.2.2.2.2.2.2))))
   else none)
  else none)
 else bif decide (a1.1 = 6) then ((vF k a1.2.1 (-1) 1152921504606846976).bind fun x3=>
  bif !x3 then some (1,a0)
  else bif zB a0.2.2.2.2.2.2.2.2.2.2.2.2.2.2.2.2.1 x0.2.2.1.length then (let y1:AC:=(x0.2.2.1.set a0.2.2.2.2.2.2.2.2.2.2.2.2.2.2.2.2.1.toNat a1.2.1)
   some (0,(wX a0 (x0.1,x0.2.1,y1,x0.2.2.2,a0.2.2.2.2.2.2.2.2.2.2))))
  else none)
 else(vF k a1.2.1 0 1152921504606846976).bind fun x4=>
 bif !x4 then some (1,a0)
 else bif zB a0.2.2.2.2.2.2.2.2.2.2.2.2.2.2.2.2.1 x0.1.length then (let y2:List zK:=(x0.1.set a0.2.2.2.2.2.2.2.2.2.2.2.2.2.2.2.2.1.toNat ((x0.1.getD a0.2.2.2.2.2.2.2.2.2.2.2.2.2.2.2.2.1.toNat (0,0,0)).1,(x0.1.getD a0.2.2.2.2.2.2.2.2.2.2.2.2.2.2.2.2.1.toNat (0,0,0)).2.1,a1.2.1))
  some (0,(wX a0 (y2,x0.2.1,x0.2.2.1,x0.2.2.2,a0.2.2.2.2.2.2.2.2.2.2))))
 else none
def J6 (k:Nat)(a0:jC)(a1:Int):Option Bool:=
 (vF k a1 0 (zA ((a0.2.1.length:Int)-1))).bind fun x0=>
 some x0
def EG (k:Nat)(a0:EQ):Option EQ:=
 bif zO (0+a0.length) 24 then some a0
 else none
def oR (k:Nat)(a0:AC)(a1 a2:Int):Option AC:=
 (oL k a0).bind fun x0=>
 bif decide (a1 ≥ 0) then (bif decide (a1 < (x0.length : Int)) then (bif zB a1 x0.length then some (x0.set a1.toNat a2)
   else none)
  else some x0)
 else some x0
def Uw (k:Nat)(a0:Int):Option Bool:=
 bif decide (a0≥0) then some (decide (a0≤10000))
 else some false
def ID (k:Nat)(a0 a1:Int):Option vI:=
 some ((IntKind.wrap .u64 ((IntKind.wrap .u64 ((IntKind.wrap .u64 ((shr .u64 a0 32)*(shr .u64 a1 32)))+(shr .u64 (IntKind.wrap .u64 ((IntKind.wrap .u64 ((shr .u64 a0 32)*(yJ .u64 a1 4294967295)))+(shr .u64 (IntKind.wrap .u64 ((yJ .u64 a0 4294967295)*(yJ .u64 a1 4294967295))) 32))) 32)))+(shr .u64 (IntKind.wrap .u64 ((yJ .u64 (IntKind.wrap .u64 ((IntKind.wrap .u64 ((shr .u64 a0 32)*(yJ .u64 a1 4294967295)))+(shr .u64 (IntKind.wrap .u64 ((yJ .u64 a0 4294967295)*(yJ .u64 a1 4294967295))) 32))) 4294967295)+(IntKind.wrap .u64 ((yJ .u64 a0 4294967295)*(shr .u64 a1 32))))) 32))),(IntKind.wrap .u64 (a0*a1)))
def yRn (k:Nat)(a0:Int):Option Int:=
 bif decide (a0 ≥ 4294967296) then (bif decide ((shr .u64 a0 32) ≥ 65536) then (bif decide ((shr .u64 (shr .u64 a0 32) 16)≥256) then none
   else none)
  else bif decide ((shr .u64 a0 32)≥256) then none
  else none)
 else bif decide (a0 ≥ 65536) then (bif decide ((shr .u64 a0 16)≥256) then none
  else none)
 else bif decide (a0≥256) then none
 else none
def yFd (k:Nat)(a0:Int):Option Int:=
 (yRn k a0).bind fun x0=>
 some (zA (64-x0))
abbrev ZD:Type:=Int×Int×Int×Int×Int×Int×Int×Int
abbrev ZC:Type:=Int→Int→Int→Int→Int→Int→Int→Int→Int→Option ZD
def vBt (k:Nat)(rec:ZC)(s2 s8 s9 aw aO bo bA aZ bR:Int):Option ZD:=
 bif decide (aZ ≥ 4294967296) then (bif decide ((IntKind.wrap .u64 (bR+s9))≥4294967296) then some (s2,s8,s9,aw,aO,bo,bA,(IntKind.wrap .u64 (aZ-1)))
  else rec s2 s8 s9 aw aO bo bA (IntKind.wrap .u64 (aZ-1)) (IntKind.wrap .u64 (bR+s9)))
 else bif decide ((IntKind.wrap .u64 (aZ * aw)) > (IntKind.wrap .u64 ((IntKind.wrap .u64 (4294967296 * bR)) + bo))) then (bif decide ((IntKind.wrap .u64 (bR+s9))≥4294967296) then some (s2,s8,s9,aw,aO,bo,bA,(IntKind.wrap .u64 (aZ-1)))
  else rec s2 s8 s9 aw aO bo bA (IntKind.wrap .u64 (aZ-1)) (IntKind.wrap .u64 (bR+s9)))
 else some (s2,s8,s9,aw,aO,bo,bA,aZ)
def ZE (k:Nat):Nat→ZC:=yC (fun _ _ _ _ _ _ _ _ _=>none) (vBt k)
abbrev ZG:Type:=Int×Int×Int×Int×Int×Int
abbrev ZF:Type:=Int→Int→Int→Int→Int→Int→Int→Int→Int→Option ZG
def yAp (k:Nat)(rec:ZF)(s2 s8 s9 aw bA aZ bR bc kj:Int):Option ZG:=
 bif decide (kj ≥ 4294967296) then (bif decide ((IntKind.wrap .u64 (bR+s9))≥4294967296) then some (s2,s8,bA,aZ,bc,(IntKind.wrap .u64 (kj-1)))
  else rec s2 s8 s9 aw bA aZ (IntKind.wrap .u64 (bR+s9)) bc (IntKind.wrap .u64 (kj-1)))
 else bif decide ((IntKind.wrap .u64 (kj * aw)) > (IntKind.wrap .u64 ((IntKind.wrap .u64 (4294967296 * bR)) + bA))) then (bif decide ((IntKind.wrap .u64 (bR+s9))≥4294967296) then some (s2,s8,bA,aZ,bc,(IntKind.wrap .u64 (kj-1)))
  else rec s2 s8 s9 aw bA aZ (IntKind.wrap .u64 (bR+s9)) bc (IntKind.wrap .u64 (kj-1)))
 else some (s2,s8,bA,aZ,bc,kj)
def ZH (k:Nat):Nat→ZF:=yC (fun _ _ _ _ _ _ _ _ _=>none) (yAp k)
def MO (k:Nat)(a0 a1 a2:Int):Option vI:=
 bif decide (a2=0) then none
 else bif decide (a2≤a0) then none
 else bif decide (a0 = 0) then (bif !(decide (a2 = 0)) then (bif !(decide (a2=0)) then some ((IntKind.wrap .u64 (Int.tdiv a1 a2)),(Int.tmod a1 a2))
   else none)
  else none)
 else(yFd k a2).bind fun x0=>
 bif !(decide ((IntKind.wrap .u64 (x0)) < 0)) then (bif !(decide ((IntKind.wrap .u64 (x0)) < 0)) then (bif !(decide ((IntKind.wrap .u64 (64 - (IntKind.wrap .u64 (x0)))) < 0)) then (bif !(decide ((IntKind.wrap .u64 (x0)) < 0)) then (bif !(decide ((shr .u64 (shl .u64 a2 (IntKind.wrap .u64 (x0))) 32) = 0)) then ((ZE k k (shl .u64 a2 (IntKind.wrap .u64 (x0))) (IntKind.wrap .u64 (x0)) (shr .u64 (shl .u64 a2 (IntKind.wrap .u64 (x0))) 32) (yJ .u64 (shl .u64 a2 (IntKind.wrap .u64 (x0))) 4294967295) (wK .u64 (shl .u64 a0 (IntKind.wrap .u64 (x0))) (shr .u64 a1 (IntKind.wrap .u64 (64-(IntKind.wrap .u64 (x0)))))) (shr .u64 (shl .u64 a1 (IntKind.wrap .u64 (x0))) 32) (yJ .u64 (shl .u64 a1 (IntKind.wrap .u64 (x0))) 4294967295) (IntKind.wrap .u64 (Int.tdiv (wK .u64 (shl .u64 a0 (IntKind.wrap .u64 (x0))) (shr .u64 a1 (IntKind.wrap .u64 (64-(IntKind.wrap .u64 (x0)))))) (shr .u64 (shl .u64 a2 (IntKind.wrap .u64 (x0))) 32))) (IntKind.wrap .u64 ((wK .u64 (shl .u64 a0 (IntKind.wrap .u64 (x0))) (shr .u64 a1 (IntKind.wrap .u64 (64-(IntKind.wrap .u64 (x0))))))-(IntKind.wrap .u64 ((IntKind.wrap .u64 (Int.tdiv (wK .u64 (shl .u64 a0 (IntKind.wrap .u64 (x0))) (shr .u64 a1 (IntKind.wrap .u64 (64-(IntKind.wrap .u64 (x0)))))) (shr .u64 (shl .u64 a2 (IntKind.wrap .u64 (x0))) 32)))*(shr .u64 (shl .u64 a2 (IntKind.wrap .u64 (x0))) 32)))))).bind fun z=>
      bif !(decide (z.2.2.1 = 0)) then ((ZH k k z.1 z.2.1 z.2.2.1 z.2.2.2.1 z.2.2.2.2.2.2.1 z.2.2.2.2.2.2.2 (IntKind.wrap .u64 ((IntKind.wrap .u64 ((IntKind.wrap .u64 ((IntKind.wrap .u64 (z.2.2.2.2.1*4294967296))+z.2.2.2.2.2.1))-(IntKind.wrap .u64 (z.2.2.2.2.2.2.2*z.1))))-(IntKind.wrap .u64 ((IntKind.wrap .u64 (Int.tdiv (IntKind.wrap .u64 ((IntKind.wrap .u64 ((IntKind.wrap .u64 (z.2.2.2.2.1*4294967296))+z.2.2.2.2.2.1))-(IntKind.wrap .u64 (z.2.2.2.2.2.2.2*z.1)))) z.2.2.1))*z.2.2.1)))) (IntKind.wrap .u64 ((IntKind.wrap .u64 ((IntKind.wrap .u64 (z.2.2.2.2.1*4294967296))+z.2.2.2.2.2.1))-(IntKind.wrap .u64 (z.2.2.2.2.2.2.2*z.1)))) (IntKind.wrap .u64 (Int.tdiv (IntKind.wrap .u64 ((IntKind.wrap .u64 ((IntKind.wrap .u64 (z.2.2.2.2.1*4294967296))+z.2.2.2.2.2.1))-(IntKind.wrap .u64 (z.2.2.2.2.2.2.2*z.1)))) z.2.2.1))).bind fun z1=>
       bif !(decide (z1.2.1<0)) then some ((IntKind.wrap .u64 ((IntKind.wrap .u64 (z1.2.2.2.1*4294967296))+z1.2.2.2.2.2)),(shr .u64 (IntKind.wrap .u64 ((IntKind.wrap .u64 ((IntKind.wrap .u64 (z1.2.2.2.2.1*4294967296))+z1.2.2.1))-(IntKind.wrap .u64 (z1.2.2.2.2.2*z1.1)))) z1.2.1))
       else none)
      else none)
     else none)
    else none)
   else none)
  else none)
 else none
def MP (k:Nat)(a0 a1 a2:Int):Option jX:=
 bif decide (a0<0) then some (0,false)
 else bif decide (a1<0) then some (0,false)
 else(Uw k a2).bind fun x0=>
 bif !x0 then some (0,false)
 else(ID k (IntKind.wrap .u64 (a0)) (IntKind.wrap .u64 (a1))).bind fun x1=>
 (MO k (Int.tmod x1.1 10000) x1.2 10000).bind fun x2=>
 (ID k x2.1 (IntKind.wrap .u64 ((zA (10000-a2))))).bind fun x3=>
 (Cq k x3.2 (IntKind.wrap .u64 (Int.tdiv (IntKind.wrap .u64 (x2.2*(IntKind.wrap .u64 ((zA (10000-a2)))))) 10000)) 0).bind fun x4=>
 bif decide ((IntKind.wrap .u64 (Int.tdiv x1.1 10000)) > 0) then (bif decide ((IntKind.wrap .u64 ((zA (10000-a2))))>0) then some (0,false)
  else bif decide ((IntKind.wrap .u64 (x3.1+x4.2))>0) then some (0,false)
  else bif decide (x4.1>9223372036854775807) then some (0,false)
  else some ((zA (x4.1)),true))
 else bif decide ((IntKind.wrap .u64 (x3.1+x4.2))>0) then some (0,false)
 else bif decide (x4.1>9223372036854775807) then some (0,false)
 else some ((zA (x4.1)),true)
abbrev ZL:Type:=Int→Int→AC→Int→Int→Option vI
def DY (k:Nat)(rec:ZL)(s4 s5:Int)(s9:AC)(aw aO:Int):Option vI:=
 bif decide (aO < aw) then (bif zB aO s9.length then ((Cq k s5 (IntKind.wrap .u64 ((s9.getD aO.toNat 0))) 0).bind fun x0=>
   rec (zA (s4+(zA ((shr .i64 (s9.getD aO.toNat 0) 63)+(zA (x0.2)))))) x0.1 s9 aw (zA (aO+1)))
  else none)
 else some (s4,s5)
def DX (k:Nat):Nat→ZL
 |0,_,_,_,_,_=>none
 |n+1,s4,s5,s9,aw,aO=>DY k (DX k n) s4 s5 s9 aw aO
def IC (k:Nat)(a0:AC):Option jX:=
 (DX k k 0 0 a0 (a0.length:Int) 0).bind fun z=>
 bif !(decide (z.1=(shr .i64 (zA (z.2)) 63))) then some (0,false)
 else some ((zA (z.2)),true)
abbrev ZO:Type:=AC→AC→List vI→Int→Int→AC→Option (AC⊕jX)
def D3 (k:Nat)(rec:ZO)(s1 s2:AC)(iZ:List vI)(aT fe:Int)(r0:AC):Option (AC⊕jX):=
 bif decide (fe < aT) then (bif zB fe iZ.length then (bif zB fe s1.length then (bif zB fe s2.length then ((MP k (s1.getD fe.toNat 0) (s2.getD fe.toNat 0) (iZ.getD fe.toNat (0,0)).2).bind fun x0=>
     bif !x0.2 then some (.inr (0,false))
     else bif zO (r0.length+1) 8 then(rec s1 s2 iZ aT (zA (fe+1)) (r0++[x0.1]))
     else none)
    else none)
   else none)
  else none)
 else some (.inl r0)
def DZ (k:Nat):Nat→ZO:=yC (fun _ _ _ _ _ _=>none) (D3 k)
def qn (k:Nat)(a0:List vI)(a1 a2:AC):Option jX:=
 bif !(decide ((a1.length:Int)=(a0.length:Int))) then some (0,false)
 else bif !(decide ((a2.length:Int)=(a0.length:Int))) then some (0,false)
 else(DZ k k a1 a2 a0 (a0.length:Int) 0 []).bind fun z=>
 match z with
 |.inl z1=>(IC k z1).bind fun x1=>
  some (x1.1,x1.2)
 |.inr z2=>some (z2.1,z2.2)
def Nf (k:Nat)(a0:jC)(a1 a2:Int):Option (Int×jC):=
 (J6 k a0 a1).bind fun x0=>
 bif !x0 then some (1,a0)
 else(vF k a2 0 1099511627776).bind fun x1=>
 bif !x1 then some (1,a0)
 else(EG k a0.2.2.2.2.2.2.2.2.2.2.2.1).bind fun x2=>
 bif zB a0.2.2.2.2.2.2.2.2.2.2.2.2.2.2.2.2.1 x2.length then ((oR k (x2.getD a0.2.2.2.2.2.2.2.2.2.2.2.2.2.2.2.2.1.toNat []) a1 a2).bind fun x3=>
  bif zB a0.2.2.2.2.2.2.2.2.2.2.2.2.2.2.2.2.1 x2.length then (let y0:EQ:=(x2.set a0.2.2.2.2.2.2.2.2.2.2.2.2.2.2.2.2.1.toNat x3)
   bif zB a0.2.2.2.2.2.2.2.2.2.2.2.2.2.2.2.2.1 y0.length then ((qn k a0.2.1 a0.2.2.2.2.2.2.2.2.2.2.1 (y0.getD a0.2.2.2.2.2.2.2.2.2.2.2.2.2.2.2.2.1.toNat [])).bind fun x4=>
    bif zB a0.2.2.2.2.2.2.2.2.2.2.2.2.2.2.2.2.1 a0.2.2.2.2.2.2.1.length then (bif !x4.2 then some (8,a0)
     else bif decide (x4.1>1152921504606846976) then some (8,a0)
     else bif decide (x4.1 < (a0.2.2.2.2.2.2.1.getD a0.2.2.2.2.2.2.2.2.2.2.2.2.2.2.2.2.1.toNat (0, 0, 0)).2.1) then (bif decide ((zA ((a0.2.2.2.2.2.2.1.getD a0.2.2.2.2.2.2.2.2.2.2.2.2.2.2.2.2.1.toNat (0,0,0)).1+x4.1))<0) then some (9,a0)
      else(fU k a0.2.2.2.2.2.2.1 a0.2.2.2.2.2.2.2.1 a0.2.2.2.2.2.2.2.2.1 a0.2.2.2.2.2.2.2.2.2.1).bind fun x5=>
      bif zB a0.2.2.2.2.2.2.2.2.2.2.2.2.2.2.2.2.1 x5.1.length then (let y1:List zK:=(x5.1.set a0.2.2.2.2.2.2.2.2.2.2.2.2.2.2.2.2.1.toNat ((x5.1.getD a0.2.2.2.2.2.2.2.2.2.2.2.2.2.2.2.2.1.toNat (0,0,0)).1,x4.1,(x5.1.getD a0.2.2.2.2.2.2.2.2.2.2.2.2.2.2.2.2.1.toNat (0,0,0)).2.2))
       some (0,(wX a0 (y1,x5.2.1,x5.2.2.1,x5.2.2.2,a0.2.2.2.2.2.2.2.2.2.2.1,y0,a0.2.2.2.2.2.2.2.2.2.2.2.2))))
      else none)
     else(fU k a0.2.2.2.2.2.2.1 a0.2.2.2.2.2.2.2.1 a0.2.2.2.2.2.2.2.2.1 a0.2.2.2.2.2.2.2.2.2.1).bind fun x6=>
     bif zB a0.2.2.2.2.2.2.2.2.2.2.2.2.2.2.2.2.1 x6.1.length then (let y2:List zK:=(x6.1.set a0.2.2.2.2.2.2.2.2.2.2.2.2.2.2.2.2.1.toNat ((x6.1.getD a0.2.2.2.2.2.2.2.2.2.2.2.2.2.2.2.2.1.toNat (0,0,0)).1,x4.1,(x6.1.getD a0.2.2.2.2.2.2.2.2.2.2.2.2.2.2.2.2.1.toNat (0,0,0)).2.2))
      some (0,(wX a0 (y2,x6.2.1,x6.2.2.1,x6.2.2.2,a0.2.2.2.2.2.2.2.2.2.2.1,y0,a0.2.2.2.2.2.2.2.2.2.2.2.2))))
     else none)
    else none)
   else none)
  else none)
 else none
def Ng (k:Nat)(a0 a1:Int):Option jX:=
 bif decide (a1 > 0) then (bif decide (a0>(zA (9223372036854775807-a1))) then some (0,false)
  else bif decide (a1 < 0) then (bif decide (a0<(zA ((-9223372036854775808)-a1))) then some (0,false)
   else some ((zA (a0+a1)),true))
  else some ((zA (a0+a1)),true))
 else bif decide (a1 < 0) then (bif decide (a0<(zA ((-9223372036854775808)-a1))) then some (0,false)
  else some ((zA (a0+a1)),true))
 else some ((zA (a0+a1)),true)
def LQ (k:Nat)(ij ik eK:Int):Option Bool:=
 bif decide (ij > (-4611686018427387904)) then (bif decide (ij < 4611686018427387904) then (bif decide (ik ≥ 0) then (bif decide (ik ≤ 2305843009213693952) then (bif decide (eK≥0) then some (decide (eK≤2305843009213693952))
     else some false)
    else some false)
   else some false)
  else some false)
 else some false
def I4 (k:Nat)(a0:zK)(a1:Int):Option (zK×Int):=
 (Ng k a0.1 a1).bind fun x0=>
 bif !x0.2 then some (a0,8)
 else(LQ k x0.1 a0.2.1 a0.2.2).bind fun x1=>
 bif !x1 then some (a0,8)
 else some ((x0.1,a0.2),0)
def EW (k:Nat)(a0:zK)(a1:Int):Option (zK×Int):=
 (I4 k a0 a1).bind fun x0=>
 some (x0.1,x0.2)
def uS (k:Nat)(ij ik eK a1:Int):Option Int:=
 some (wN false (zA (eK-a1)) 0)
def EX (k:Nat)(a0:zK)(a1 a2:Int):Option (zK×Int):=
 (I4 k a0 (zA (0-a1))).bind fun x0=>
 bif decide (x0.2 = 0) then (bif decide (a2 = 1) then ((uS k a0.1 a0.2.1 a0.2.2 a1).bind fun x1=>
   some ((x0.1.1,x0.1.2.1,x1),x0.2))
  else bif decide (a2 = 2) then ((uS k a0.1 a0.2.1 a0.2.2 a1).bind fun x2=>
   some ((x0.1.1,x0.1.2.1,x2),x0.2))
  else some (x0.1,x0.2))
 else some (x0.1,x0.2)
def EY (k:Nat)(a0:zK)(a1:Int):Option Int:=
 bif decide (a1=3) then some (zA ((zA (a0.1+a0.2.1))-a0.2.2))
 else some (zA (a0.1+a0.2.1))
def ZU (k:Nat)(a0:jC)(a1 a2 a3:Int):Option (Int×jC):=
 (vF k a2 0 (zA (a0.1-1))).bind fun x0=>
 bif !x0 then some (1,a0)
 else(vF k a3 1 1099511627776).bind fun x1=>
 bif !x1 then some (1,a0)
 else bif zB a2 a0.2.2.2.2.2.2.1.length then ((EW k (a0.2.2.2.2.2.2.1.getD a2.toNat (0,0,0)) a3).bind fun x2=>
  bif decide (a1 = 11) then ((EX k (a0.2.2.2.2.2.2.1.getD a2.toNat (0,0,0)) a3 3).bind fun x3=>
   (EY k (a0.2.2.2.2.2.2.1.getD a2.toNat (0,0,0)) 3).bind fun x4=>
   bif decide (x4<a3) then some (9,a0)
   else bif decide ((zA (a0.2.2.2.2.2.2.2.2.2.2.2.2.2.2.1-a3))<0) then some (9,a0)
   else bif !(decide (x3.2=0)) then some (x3.2,a0)
   else bif decide ((zA (a0.2.2.2.2.2.2.2.2.2.2.2.2.2.2.1-a3))>1152921504606846976) then some (8,a0)
   else(fU k a0.2.2.2.2.2.2.1 a0.2.2.2.2.2.2.2.1 a0.2.2.2.2.2.2.2.2.1 a0.2.2.2.2.2.2.2.2.2.1).bind fun x5=>
   bif zB a2 x5.1.length then some (0,(wX a0 ((x5.1.set a2.toNat x3.1),x5.2.1,x5.2.2.1,x5.2.2.2,(F4 a0 ((zA (a0.2.2.2.2.2.2.2.2.2.2.2.2.2.2.1-a3)),a0.2.2.2.2.2.2.2.2.2.2.2.2.2.2.2)))))
   else none)
  else bif !(decide (x2.2=0)) then some (x2.2,a0)
  else bif decide ((zA (a0.2.2.2.2.2.2.2.2.2.2.2.2.2.2.1+a3))>1152921504606846976) then some (8,a0)
  else(fU k a0.2.2.2.2.2.2.1 a0.2.2.2.2.2.2.2.1 a0.2.2.2.2.2.2.2.2.1 a0.2.2.2.2.2.2.2.2.2.1).bind fun x6=>
  bif zB a2 x6.1.length then some (0,(wX a0 ((x6.1.set a2.toNat x2.1),x6.2.1,x6.2.2.1,x6.2.2.2,(F4 a0 ((zA (a0.2.2.2.2.2.2.2.2.2.2.2.2.2.2.1+a3)),a0.2.2.2.2.2.2.2.2.2.2.2.2.2.2.2)))))
  else none)
 else none
abbrev ZY:Type:=(kH×(List qA)×AC×(List zK)×EQ×AC×EQ)⊕(Int×kH×(List qA))
abbrev ZW:Type:=EQ→Int→Int→kH→List qA→AC→List zK→EQ→AC→EQ→Option ZY
def ySs (k:Nat)(rec:ZW)(ga:EQ)(ix kk:Int)(b0:kH)(r1:List qA)(r2:AC)(r4:List zK)(m5:EQ)(r6:AC)(m7:EQ):Option ZY:=
 bif decide (kk < ix) then (bif zB kk ga.length then ((qn k b0.2.1 r2 (ga.getD kk.toNat [])).bind fun x4=>
   bif !x4.2 then some (.inr (8,b0,r1))
   else bif decide (x4.1>1152921504606846976) then some (.inr (8,b0,r1))
   else bif zB kk r4.length then (let y0:List zK:=(r4.set kk.toNat ((r4.getD kk.toNat (0,0,0)).1,x4.1,(r4.getD kk.toNat (0,0,0)).2.2))
    rec ga ix (zA (kk+1)) b0 r1 r2 y0 m5 r6 m7)
   else none)
  else none)
 else some (.inl (b0,r1,r2,r4,m5,r6,m7))
def ZZ (k:Nat):Nat→ZW:=yC (fun _ _ _ _ _ _ _ _ _ _=>none) (ySs k)
def yN7 (k:Nat)(a0:jC)(a1 a2:Int):Option (Int×jC):=
 (J6 k a0 a1).bind fun x0=>
 bif !x0 then some (1,a0)
 else(vF k a2 0 1048576).bind fun x1=>
 bif !x1 then some (1,a0)
 else(oR k a0.2.2.2.2.2.2.2.2.2.2.1 a1 a2).bind fun x2=>
 (fU k a0.2.2.2.2.2.2.1 a0.2.2.2.2.2.2.2.1 a0.2.2.2.2.2.2.2.2.1 a0.2.2.2.2.2.2.2.2.2.1).bind fun x3=>
 (ZZ k k a0.2.2.2.2.2.2.2.2.2.2.2.1 (a0.2.2.2.2.2.2.2.2.2.2.2.1.length:Int) 0 (kE a0) a0.2.2.2.2.2.2.2.2.2.2.2.2.2.2.2.2.2 x2 x3.1 x3.2.1 x3.2.2.1 x3.2.2.2).bind fun z=>
 match z with
 |.inl z1=>some (0,(wX z1.1 (vUi z1 (z1.2.2.1,(Vj z1.1 z1.2.1)))))
 |.inr z2=>some (z2.1,(vM z2.2.1 z2.2.2))
def NP (k:Nat)(a0:jC)(a1:zC):Option (Int×jC):=
 bif decide (a1.1 = 1) then ((Nd k a0 a1.2).bind fun x0=>
  some (x0.1,x0.2))
 else bif decide (a1.1 = 2) then ((zu k a0 a1).bind fun x1=>
  some (x1.1,x1.2))
 else bif decide (a1.1 = 3) then ((zu k a0 a1).bind fun x2=>
  some (x2.1,x2.2))
 else bif decide (a1.1 = 4) then ((zu k a0 a1).bind fun x3=>
  some (x3.1,x3.2))
 else bif decide (a1.1 = 5) then ((zv k a0 a1).bind fun x4=>
  some (x4.1,x4.2))
 else bif decide (a1.1 = 6) then ((zv k a0 a1).bind fun x5=>
  some (x5.1,x5.2))
 else bif decide (a1.1 = 7) then ((zv k a0 a1).bind fun x6=>
  some (x6.1,x6.2))
 else bif decide (a1.1 = 8) then ((Nf k a0 a1.2.1 a1.2.2.1).bind fun x7=>
  some (x7.1,x7.2))
 else bif decide (a1.1 = 10) then ((ZU k a0 a1.1 a1.2.1 a1.2.2.1).bind fun x8=>
  some (x8.1,x8.2))
 else bif decide (a1.1 = 11) then ((ZU k a0 a1.1 a1.2.1 a1.2.2.1).bind fun x9=>
  some (x9.1,x9.2))
 else bif decide (a1.1 = 12) then ((yN7 k a0 a1.2.1 a1.2.2.1).bind fun di=>
  some (di.1,di.2))
 else some (0,a0)
def I1 (k:Nat)(cZ:Int)(dI:List vI)(dJ de ca a1:Int):Option Bool:=
 some (decide (a1=de))
def oT (k:Nat)(a0 a1:Int)(a2:AC):Option qA:=
 some (a0,a1,(bif (Nat.blt 0 a2.length) then(a2.getD 0 0) else 0),(bif (Nat.blt 1 a2.length) then(a2.getD 1 0) else 0),(bif (Nat.blt 2 a2.length) then(a2.getD 2 0) else 0),(bif (Nat.blt 3 a2.length) then(a2.getD 3 0) else 0),(bif (Nat.blt 4 a2.length) then(a2.getD 4 0) else 0),(bif (Nat.blt 5 a2.length) then(a2.getD 5 0) else 0))
abbrev Z1:Type:=Int×(List zK)×EQ×AC×EQ×AC×EQ×(List zC)×AC×Int×Bool×Int×Int×Bool×(List qA)
abbrev Z0:Type:=List zC→Int→Int→Int→List zK→EQ→AC→EQ→AC→EQ→List zC→AC→Int→Bool→Int→Int→Bool→List qA→Option Z1
def Ey (k:Nat)(rec:Z0)(aw:List zC)(aO bx ae:Int)(ah:List zK)(ai:EQ)(ag:AC)(aX:EQ)(bh:AC)(bj:EQ)(dK:List zC)(dL:AC)(dM:Int)(bS:Bool)(av bB:Int)(aS:Bool)(r2:List qA):Option Z1:=
 bif decide (bx < aO) then (bif zB bx aw.length then ((oT k (aw.getD bx.toNat (0,0,0,0,0,0,0)).2.1 22 [(aw.getD bx.toNat (0,0,0,0,0,0,0)).1]).bind fun x0=>
   bif zO (r2.length+1) 64 then(rec aw aO (zA (bx+1)) ae ah ai ag aX bh bj dK dL dM bS av bB aS (r2++[x0]))
   else none)
  else none)
 else some (ae,ah,ai,ag,aX,bh,bj,dK,dL,dM,bS,av,bB,aS,r2)
def Ew (k:Nat):Nat→Z0
 |0,_,_,_,_,_,_,_,_,_,_,_,_,_,_,_,_,_,_=>none
 |n+1,aw,aO,bx,ae,ah,ai,ag,aX,bh,bj,dK,dL,dM,bS,av,bB,aS,r2=>Ey k (Ew k n) aw aO bx ae ah ai ag aX bh bj dK dL dM bS av bB aS r2
abbrev Z3:Type:=Int×(List zK)×EQ×AC×EQ×AC×EQ×(List zC)×AC×Int×Bool×Int×Int×Bool×(List qA)
abbrev Z2:Type:=List zK→Int→Int→Int→List zK→EQ→AC→EQ→AC→EQ→List zC→AC→Int→Bool→Int→Int→Bool→List qA→Option Z3
def EA (k:Nat)(rec:Z2)(kJ:List zK)(fg lD ae:Int)(ah:List zK)(ai:EQ)(ag:AC)(aX:EQ)(bh:AC)(bj:EQ)(dK:List zC)(dL:AC)(dM:Int)(bS:Bool)(av bB:Int)(aS:Bool)(r2:List qA):Option Z3:=
 bif decide (lD < fg) then (bif zB lD kJ.length then ((oT k lD 23 [(kJ.getD lD.toNat (0,0,0)).1]).bind fun x1=>
   bif zO (r2.length+1) 64 then(rec kJ fg (zA (lD+1)) ae ah ai ag aX bh bj dK dL dM bS av bB aS (r2++[x1]))
   else none)
  else none)
 else some (ae,ah,ai,ag,aX,bh,bj,dK,dL,dM,bS,av,bB,aS,r2)
def Ez (k:Nat):Nat→Z2
 |0,_,_,_,_,_,_,_,_,_,_,_,_,_,_,_,_,_,_=>none
 |n+1,kJ,fg,lD,ae,ah,ai,ag,aX,bh,bj,dK,dL,dM,bS,av,bB,aS,r2=>EA k (Ez k n) kJ fg lD ae ah ai ag aX bh bj dK dL dM bS av bB aS r2
def Nb (k:Nat)(lz:Int)(o6:List zK)(o9:EQ)(pb:AC)(pc:EQ)(pf:AC)(pg:EQ)(lA:List zC)(ph:AC)(pj:Int)(pn:Bool):Option PW:=
 (Ew k k lA (lA.length:Int) 0 lz o6 o9 pb pc pf pg lA ph pj pn 0 0 false []).bind fun z=>
 (Ez k k z.2.1 (z.2.1.length:Int) 0 z.1 z.2.1 z.2.2.1 z.2.2.2.1 z.2.2.2.2.1 z.2.2.2.2.2.1 z.2.2.2.2.2.2.1 z.2.2.2.2.2.2.2.1 z.2.2.2.2.2.2.2.2.1 z.2.2.2.2.2.2.2.2.2.1 z.2.2.2.2.2.2.2.2.2.2.1 z.2.2.2.2.2.2.2.2.2.2.2.1 z.2.2.2.2.2.2.2.2.2.2.2.2.1 z.2.2.2.2.2.2.2.2.2.2.2.2.2.1 z.2.2.2.2.2.2.2.2.2.2.2.2.2.2).bind fun z1=>
 some (iT z1 ([],z1.2.2.2.2.2.2.2.2.1,z1.2.2.2.2.2.2.2.2.2.1,true,z1.2.2.2.2.2.2.2.2.2.2.2.2.2.2))
def US (k:Nat)(bZ ba bq cn bH bU bJ a1:Int):Option Bool:=
 some (decide (a1>bJ))
def ED (k:Nat)(cZ:Int)(dI:List vI)(dJ de ca a1:Int):Option Bool:=
 bif decide (a1 > 0) then (bif decide (a1 < de) then (bif !(decide (ca=0)) then some (decide ((Int.tmod a1 ca)=0))
   else none)
  else some false)
 else some false
def T8 (k:Nat)(bZ ba bq cn bH bU bJ a1:Int):Option Bool:=
 bif decide (a1≥bU) then some (decide (a1≤bJ))
 else some false
def T7 (k:Nat)(bZ ba bq cn bH bU bJ a1:Int):Option Bool:=
 (T8 k bZ ba bq cn bH bU bJ a1).bind fun x0=>
 some x0
abbrev Z7:Type:=List zC
abbrev Z5:Type:=List zC→Int→Int→Int→List zC→Option Z7
def Dt (k:Nat)(rec:Z5)(s8:List zC)(s9 aw ae:Int)(r1:List zC):Option Z7:=
 bif decide (aw < s9) then (bif zB aw s8.length then ((T7 k (s8.getD aw.toNat (0,0,0,0,0,0,0)).1 (s8.getD aw.toNat (0,0,0,0,0,0,0)).2.1 (s8.getD aw.toNat (0,0,0,0,0,0,0)).2.2.1 (s8.getD aw.toNat (0,0,0,0,0,0,0)).2.2.2.1 (s8.getD aw.toNat (0,0,0,0,0,0,0)).2.2.2.2.1 (s8.getD aw.toNat (0,0,0,0,0,0,0)).2.2.2.2.2.1 (s8.getD aw.toNat (0,0,0,0,0,0,0)).2.2.2.2.2.2 ae).bind fun x0=>
   bif x0 then (bif zO (r1.length + 1) 56 then (let y0:List zC:=(r1++[(s8.getD aw.toNat (0,0,0,0,0,0,0))])
     rec s8 s9 (zA (aw+1)) ae y0)
    else none)
   else rec s8 s9 (zA (aw+1)) ae r1)
  else none)
 else some r1
def Il (k:Nat):Nat→Z5
 |0,_,_,_,_,_=>none
 |n+1,s8,s9,aw,ae,r1=>Dt k (Il k n) s8 s9 aw ae r1
def T6 (k:Nat)(a0:List zC)(cT:Int):Option (List zC):=
 (Il k k a0 (a0.length:Int) 0 cT []).bind fun z=>
 some z
def Ds (k:Nat)(a0:List zC)(a1:Int):Option (List zC):=
 (T6 k a0 a1).bind fun x0=>
 some x0
def Uc (k:Nat)(bZ ba bq cn bH bU bJ gm cp dm dW dp il im:Int):Option Bool:=
 bif decide (ba=cp) then some (!(decide (bH=3)))
 else some false
abbrev qTi:Type:=List zC→Int→Int→Int→Int→Int→Int→Int→Int→Int→Option (Unit⊕Int)
def DB (k:Nat)(rec:qTi)(s0:List zC)(s7 s8 ae ah ai ag aX bh bj:Int):Option (Unit⊕Int):=
 bif decide (s8 < s7) then (bif zB s8 s0.length then ((Uc k (s0.getD s8.toNat (0,0,0,0,0,0,0)).1 (s0.getD s8.toNat (0,0,0,0,0,0,0)).2.1 (s0.getD s8.toNat (0,0,0,0,0,0,0)).2.2.1 (s0.getD s8.toNat (0,0,0,0,0,0,0)).2.2.2.1 (s0.getD s8.toNat (0,0,0,0,0,0,0)).2.2.2.2.1 (s0.getD s8.toNat (0,0,0,0,0,0,0)).2.2.2.2.2.1 (s0.getD s8.toNat (0,0,0,0,0,0,0)).2.2.2.2.2.2 ae ah ai ag aX bh bj).bind fun x0=>
   bif x0 then some (.inr s8)
   else rec s0 s7 (zA (s8+1)) ae ah ai ag aX bh bj)
  else none)
 else some (.inl ())
def DA (k:Nat):Nat→qTi
 |0,_,_,_,_,_,_,_,_,_,_=>none
 |n+1,s0,s7,s8,ae,ah,ai,ag,aX,bh,bj=>DB k (DA k n) s0 s7 s8 ae ah ai ag aX bh bj
def Ud (k:Nat)(a0:List zC)(lE fE lF dq dX dY fF:Int):Option Int:=
 (DA k k a0 (a0.length:Int) 0 lE fE lF dq dX dY fF).bind fun z=>
 match z with
 |.inl z1=>some (-1)
 |.inr z2=>some z2
def MC (k:Nat)(a0:List zC)(lE fE lF dq dX dY fF:Int):Option Bool:=
 (Ud k a0 lE fE lF dq dX dY fF).bind fun x0=>
 some (decide (x0≥0))
def Uf (k:Nat)(bZ ba bq cn bH bU bJ:Int)(a1:List jX)(a2:List zC):Option (Bool×(List jX)):=
 bif !(Option.getD (List.lookup ba a1) false) then some (true,((ba,true)::a1))
 else bif decide (bH = 3) then ((MC k a2 bZ ba bq cn bH bU bJ).bind fun x0=>
  some ((!x0),((ba,true)::a1)))
 else some (false,((ba,true)::a1))
abbrev qYx:Type:=(List jX)×(List zC)×(List zC)
abbrev qI1:Type:=List zC→Int→Int→List jX→List zC→List zC→Option qYx
def DD (k:Nat)(rec:qI1)(s8:List zC)(s9 aw:Int)(p1:List jX)(aY r3:List zC):Option qYx:=
 bif decide (aw < s9) then (bif zB aw s8.length then ((Uf k (s8.getD aw.toNat (0,0,0,0,0,0,0)).1 (s8.getD aw.toNat (0,0,0,0,0,0,0)).2.1 (s8.getD aw.toNat (0,0,0,0,0,0,0)).2.2.1 (s8.getD aw.toNat (0,0,0,0,0,0,0)).2.2.2.1 (s8.getD aw.toNat (0,0,0,0,0,0,0)).2.2.2.2.1 (s8.getD aw.toNat (0,0,0,0,0,0,0)).2.2.2.2.2.1 (s8.getD aw.toNat (0,0,0,0,0,0,0)).2.2.2.2.2.2 p1 aY).bind fun x0=>
   bif x0.1 then (bif zO (r3.length + 1) 56 then (let y0:List zC:=(r3++[(s8.getD aw.toNat (0,0,0,0,0,0,0))])
     rec s8 s9 (zA (aw+1)) x0.2 aY y0)
    else none)
   else rec s8 s9 (zA (aw+1)) x0.2 aY r3)
  else none)
 else some (p1,aY,r3)
def DC (k:Nat):Nat→qI1
 |0,_,_,_,_,_,_=>none
 |n+1,s8,s9,aw,p1,aY,r3=>DD k (DC k n) s8 s9 aw p1 aY r3
def Ue (k:Nat)(a0:List zC)(cT:List jX)(aby:List zC):Option ((List zC)×(List jX)):=
 (DC k k a0 (a0.length:Int) 0 cT aby []).bind fun z=>
 some (z.2.2,z.1)
def Is (k:Nat)(a0:List zC)(a1:Int):Option (List zC):=
 (Ds k a0 a1).bind fun x0=>
 (Ue k x0 [] x0).bind fun x1=>
 some x1.1
def CP (k:Nat)(au:List zK)(az:EQ)(ay:AC)(ax:EQ)(gm cp dm dW dp il im:Int):Option Bool:=
 bif decide (cp ≥ 0) then (bif decide (cp < (au.length : Int)) then (bif decide (dm ≥ 0) then (bif decide (dm < (au.length : Int)) then (bif !(decide (cp = dm)) then (bif decide (dW ≥ 1) then (bif decide (dW ≤ 1099511627776) then (bif decide (dp≥1) then some (decide (dp≤3))
        else some false)
       else some false)
      else some false)
     else some false)
    else some false)
   else some false)
  else some false)
 else some false
def T3 (k:Nat)(bZ ba bq cn bH bU bJ:Int)(cS:List zK)(iq:EQ)(ir:AC)(iu:EQ):Option Bool:=
 (CP k cS iq ir iu bZ ba bq cn bH bU bJ).bind fun x0=>
 some (!x0)
abbrev qRd:Type:=List zC→Int→Int→List zK→EQ→AC→EQ→Option (Unit⊕Int)
def Dr (k:Nat)(rec:qRd)(s0:List zC)(s7 s8:Int)(ae:List zK)(ah:EQ)(ai:AC)(ag:EQ):Option (Unit⊕Int):=
 bif decide (s8 < s7) then (bif zB s8 s0.length then ((T3 k (s0.getD s8.toNat (0,0,0,0,0,0,0)).1 (s0.getD s8.toNat (0,0,0,0,0,0,0)).2.1 (s0.getD s8.toNat (0,0,0,0,0,0,0)).2.2.1 (s0.getD s8.toNat (0,0,0,0,0,0,0)).2.2.2.1 (s0.getD s8.toNat (0,0,0,0,0,0,0)).2.2.2.2.1 (s0.getD s8.toNat (0,0,0,0,0,0,0)).2.2.2.2.2.1 (s0.getD s8.toNat (0,0,0,0,0,0,0)).2.2.2.2.2.2 ae ah ai ag).bind fun x0=>
   bif x0 then some (.inr s8)
   else rec s0 s7 (zA (s8+1)) ae ah ai ag)
  else none)
 else some (.inl ())
def Ij (k:Nat):Nat→qRd
 |0,_,_,_,_,_,_,_=>none
 |n+1,s0,s7,s8,ae,ah,ai,ag=>Dr k (Ij k n) s0 s7 s8 ae ah ai ag
def T4 (k:Nat)(a0:List zC)(bD:List zK)(cq:EQ)(ct:AC)(cw:EQ):Option Int:=
 (Ij k k a0 (a0.length:Int) 0 bD cq ct cw).bind fun z=>
 match z with
 |.inl z1=>some (-1)
 |.inr z2=>some z2
def Mx (k:Nat)(a0:List zC)(bD:List zK)(cq:EQ)(ct:AC)(cw:EQ):Option Bool:=
 (T4 k a0 bD cq ct cw).bind fun x0=>
 some (decide (x0≥0))
abbrev qW7:Type:=AC×AC×EQ
abbrev qU5:Type:=List zC→Int→Int→AC→AC→EQ→Option qW7
def Df (k:Nat)(rec:qU5)(aZ:List zC)(bR bc:Int)(r2 r3:AC)(m4:EQ):Option qW7:=
 bif decide (bc < bR) then (bif zB bc aZ.length then (bif zB (aZ.getD bc.toNat (0, 0, 0, 0, 0, 0, 0)).2.1 r2.length then (bif zB (aZ.getD bc.toNat (0, 0, 0, 0, 0, 0, 0)).2.1 r2.length then (let y0:AC:=(r2.set (aZ.getD bc.toNat (0,0,0,0,0,0,0)).2.1.toNat (zA ((r2.getD (aZ.getD bc.toNat (0,0,0,0,0,0,0)).2.1.toNat 0)-(aZ.getD bc.toNat (0,0,0,0,0,0,0)).2.2.2.1)))
     bif zB (aZ.getD bc.toNat (0, 0, 0, 0, 0, 0, 0)).2.2.1 y0.length then (bif zB (aZ.getD bc.toNat (0, 0, 0, 0, 0, 0, 0)).2.2.1 y0.length then (let y1:AC:=(y0.set (aZ.getD bc.toNat (0,0,0,0,0,0,0)).2.2.1.toNat (zA ((y0.getD (aZ.getD bc.toNat (0,0,0,0,0,0,0)).2.2.1.toNat 0)+(aZ.getD bc.toNat (0,0,0,0,0,0,0)).2.2.2.1)))
       bif zB (aZ.getD bc.toNat (0, 0, 0, 0, 0, 0, 0)).2.1 m4.length then (bif zB (aZ.getD bc.toNat (0, 0, 0, 0, 0, 0, 0)).2.2.1 (m4.getD (aZ.getD bc.toNat (0, 0, 0, 0, 0, 0, 0)).2.1.toNat []).length then (bif zB (aZ.getD bc.toNat (0, 0, 0, 0, 0, 0, 0)).2.2.1 (m4.getD (aZ.getD bc.toNat (0, 0, 0, 0, 0, 0, 0)).2.1.toNat []).length then (let y2:EQ:=(m4.set (aZ.getD bc.toNat (0,0,0,0,0,0,0)).2.1.toNat ((m4.getD (aZ.getD bc.toNat (0,0,0,0,0,0,0)).2.1.toNat []).set (aZ.getD bc.toNat (0,0,0,0,0,0,0)).2.2.1.toNat (zA (((m4.getD (aZ.getD bc.toNat (0,0,0,0,0,0,0)).2.1.toNat []).getD (aZ.getD bc.toNat (0,0,0,0,0,0,0)).2.2.1.toNat 0)+(aZ.getD bc.toNat (0,0,0,0,0,0,0)).2.2.2.1))))
          bif zB (aZ.getD bc.toNat (0, 0, 0, 0, 0, 0, 0)).2.2.1 y2.length then (bif zB (aZ.getD bc.toNat (0, 0, 0, 0, 0, 0, 0)).2.1 (y2.getD (aZ.getD bc.toNat (0, 0, 0, 0, 0, 0, 0)).2.2.1.toNat []).length then (bif zB (aZ.getD bc.toNat (0, 0, 0, 0, 0, 0, 0)).2.1 (y2.getD (aZ.getD bc.toNat (0, 0, 0, 0, 0, 0, 0)).2.2.1.toNat []).length then (let y3:EQ:=(y2.set (aZ.getD bc.toNat (0,0,0,0,0,0,0)).2.2.1.toNat ((y2.getD (aZ.getD bc.toNat (0,0,0,0,0,0,0)).2.2.1.toNat []).set (aZ.getD bc.toNat (0,0,0,0,0,0,0)).2.1.toNat (zA (((y2.getD (aZ.getD bc.toNat (0,0,0,0,0,0,0)).2.2.1.toNat []).getD (aZ.getD bc.toNat (0,0,0,0,0,0,0)).2.1.toNat 0)-(aZ.getD bc.toNat (0,0,0,0,0,0,0)).2.2.2.1))))
             bif !(decide ((aZ.getD bc.toNat (0, 0, 0, 0, 0, 0, 0)).2.2.2.2.1 = 3)) then (bif zB (aZ.getD bc.toNat (0, 0, 0, 0, 0, 0, 0)).2.1 r3.length then (bif zB (aZ.getD bc.toNat (0, 0, 0, 0, 0, 0, 0)).2.1 r3.length then (let y4:AC:=(r3.set (aZ.getD bc.toNat (0,0,0,0,0,0,0)).2.1.toNat (zA ((r3.getD (aZ.getD bc.toNat (0,0,0,0,0,0,0)).2.1.toNat 0)+(aZ.getD bc.toNat (0,0,0,0,0,0,0)).2.2.2.1)))
                rec aZ bR (zA (bc+1)) y1 y4 y3)
               else none)
              else none)
             else rec aZ bR (zA (bc+1)) y1 r3 y3)
            else none)
           else none)
          else none)
         else none)
        else none)
       else none)
      else none)
     else none)
    else none)
   else none)
  else none)
 else some (r2,r3,m4)
def Ie (k:Nat):Nat→qU5
 |0,_,_,_,_,_,_=>none
 |n+1,aZ,bR,bc,r2,r3,m4=>Df k (Ie k n) aZ bR bc r2 r3 m4
def Ms (k:Nat)(a0:Int)(a1:List zC):Option (AC×AC×EQ):=
 (yx k a0 0).bind fun x0=>
 (yx k a0 0).bind fun x1=>
 (Dd k a0 0).bind fun x2=>
 (Ie k k a1 (a1.length:Int) 0 x0 x1 x2).bind fun z=>
 some (z.1,z.2.1,z.2.2)
def TV (k:Nat)(bZ ba bq cn bH bU bJ a1:Int):Option Bool:=
 some (decide (ba=a1))
abbrev qXt:Type:=List zC→Int→Int→Int→Option (Unit⊕Int)
def Dg (k:Nat)(rec:qXt)(s0:List zC)(s7 s8 ae:Int):Option (Unit⊕Int):=
 bif decide (s8 < s7) then (bif zB s8 s0.length then ((TV k (s0.getD s8.toNat (0,0,0,0,0,0,0)).1 (s0.getD s8.toNat (0,0,0,0,0,0,0)).2.1 (s0.getD s8.toNat (0,0,0,0,0,0,0)).2.2.1 (s0.getD s8.toNat (0,0,0,0,0,0,0)).2.2.2.1 (s0.getD s8.toNat (0,0,0,0,0,0,0)).2.2.2.2.1 (s0.getD s8.toNat (0,0,0,0,0,0,0)).2.2.2.2.2.1 (s0.getD s8.toNat (0,0,0,0,0,0,0)).2.2.2.2.2.2 ae).bind fun x0=>
   bif x0 then some (.inr s8)
   else rec s0 s7 (zA (s8+1)) ae)
  else none)
 else some (.inl ())
def Ig (k:Nat):Nat→qXt
 |0,_,_,_,_=>none
 |n+1,s0,s7,s8,ae=>Dg k (Ig k n) s0 s7 s8 ae
def TW (k:Nat)(a0:List zC)(cT:Int):Option Int:=
 (Ig k k a0 (a0.length:Int) 0 cT).bind fun z=>
 match z with
 |.inl z1=>some (-1)
 |.inr z2=>some z2
def Mt (k:Nat)(a0:List zC)(cT:Int):Option Bool:=
 (TW k a0 cT).bind fun x0=>
 some (decide (x0≥0))
def Db (k:Nat)(rec:Int→AC→Int→Int→Option Int)(s5:Int)(bx:AC)(bo bA:Int):Option Int:=
 bif decide (bA < bo) then (bif zB bA bx.length then(rec (zA (s5+(bx.getD bA.toNat 0))) bx bo (zA (bA+1)))
  else none)
 else some s5
def Da (k:Nat):Nat→Int→AC→Int→Int→Option Int
 |0,_,_,_,_=>none
 |n+1,s5,bx,bo,bA=>Db k (Da k n) s5 bx bo bA
def Mp (k:Nat)(au:List zK)(az:EQ)(ay:AC)(ax:EQ)(a1:Int):Option Int:=
 bif zB a1 ax.length then ((Da k k 0 (ax.getD a1.toNat []) ((ax.getD a1.toNat []).length:Int) 0).bind fun z=>
  some z)
 else none
def Dl (k:Nat)(a0 a1:Int):Option Bool:=
 bif !(decide (a1=(-1))) then some (decide (a0>a1))
 else some false
def TX (k:Nat)(bZ ba bq cn bH bU bJ a1 mX pt mY:Int)(abz mo:AC)(dZ:EQ)(a4:Int)(P0:List zK)(gQ:EQ)(abM:AC)(gT:EQ):Option Bool:=
 bif !(decide (ba=a1)) then some false
 else bif zB a1 mo.length then ((uS k mX pt mY (mo.getD a1.toNat 0)).bind fun x0=>
  bif decide (bH = 3) then (bif decide (a4<x0) then some true
   else bif zB a1 gT.length then (bif zB bq (gT.getD a1.toNat []).length then (bif zB a1 dZ.length then (bif zB bq (dZ.getD a1.toNat []).length then (bif zB a1 gQ.length then (bif zB bq (gQ.getD a1.toNat []).length then ((Dl k (zA (((gT.getD a1.toNat []).getD bq.toNat 0)+((dZ.getD a1.toNat []).getD bq.toNat 0))) ((gQ.getD a1.toNat []).getD bq.toNat 0)).bind fun x1=>
         some x1)
        else none)
       else none)
      else none)
     else none)
    else none)
   else none)
  else bif zB a1 gT.length then (bif zB bq (gT.getD a1.toNat []).length then (bif zB a1 dZ.length then (bif zB bq (dZ.getD a1.toNat []).length then (bif zB a1 gQ.length then (bif zB bq (gQ.getD a1.toNat []).length then ((Dl k (zA (((gT.getD a1.toNat []).getD bq.toNat 0)+((dZ.getD a1.toNat []).getD bq.toNat 0))) ((gQ.getD a1.toNat []).getD bq.toNat 0)).bind fun x2=>
        some x2)
       else none)
      else none)
     else none)
    else none)
   else none)
  else none)
 else none
abbrev qI8:Type:=List zC→Int→Int→Int→Int→Int→Int→AC→AC→EQ→Int→List zK→EQ→AC→EQ→Option (Unit⊕Int)
def Dm (k:Nat)(rec:qI8)(s0:List zC)(s7 s8 ae av aB aC:Int)(aY bN:AC)(bO:EQ)(cc:Int)(iy:List zK)(tN:EQ)(tO:AC)(tP:EQ):Option (Unit⊕Int):=
 bif decide (s8 < s7) then (bif zB s8 s0.length then ((TX k (s0.getD s8.toNat (0,0,0,0,0,0,0)).1 (s0.getD s8.toNat (0,0,0,0,0,0,0)).2.1 (s0.getD s8.toNat (0,0,0,0,0,0,0)).2.2.1 (s0.getD s8.toNat (0,0,0,0,0,0,0)).2.2.2.1 (s0.getD s8.toNat (0,0,0,0,0,0,0)).2.2.2.2.1 (s0.getD s8.toNat (0,0,0,0,0,0,0)).2.2.2.2.2.1 (s0.getD s8.toNat (0,0,0,0,0,0,0)).2.2.2.2.2.2 ae av aB aC aY bN bO cc iy tN tO tP).bind fun x0=>
   bif x0 then some (.inr s8)
   else rec s0 s7 (zA (s8+1)) ae av aB aC aY bN bO cc iy tN tO tP)
  else none)
 else some (.inl ())
def Ii (k:Nat):Nat→qI8
 |0,_,_,_,_,_,_,_,_,_,_,_,_,_,_,_=>none
 |n+1,s0,s7,s8,ae,av,aB,aC,aY,bN,bO,cc,iy,tN,tO,tP=>Dm k (Ii k n) s0 s7 s8 ae av aB aC aY bN bO cc iy tN tO tP
def TY (k:Nat)(a0:List zC)(cT cU dr cV:Int)(fG ee:AC)(fH:EQ)(Bd:Int)(eg:List zK)(iz:EQ)(iA:AC)(iB:EQ):Option Int:=
 (Ii k k a0 (a0.length:Int) 0 cT cU dr cV fG ee fH Bd eg iz iA iB).bind fun z=>
 match z with
 |.inl z1=>some (-1)
 |.inr z2=>some z2
def Mu (k:Nat)(a0:List zC)(cT cU dr cV:Int)(fG ee:AC)(fH:EQ)(Bd:Int)(eg:List zK)(iz:EQ)(iA:AC)(iB:EQ):Option Bool:=
 (TY k a0 cT cU dr cV fG ee fH Bd eg iz iA iB).bind fun x0=>
 some (decide (x0≥0))
abbrev qKj:Type:=(List zC)×Int×AC×AC×EQ×(List zK)×EQ×AC×EQ×Int×Int×Int×Int×Int
abbrev qT2:Type:=List zC→Int→AC→Int→Int→AC→AC→EQ→List zK→EQ→AC→EQ→Int→Int→Int→Int→Int→Option qKj
def Dn (k:Nat)(rec:qT2)(s3:List zC)(aO:Int)(kI:AC)(ga ix:Int)(ae ah:AC)(ai:EQ)(av:List zK)(aB:EQ)(aC:AC)(aE:EQ)(aY cc cW dh iy:Int):Option qKj:=
 bif decide (ix < ga) then (bif zB ix kI.length then(rec s3 (zA (aO+(kI.getD ix.toNat 0))) kI ga (zA (ix+1)) ae ah ai av aB aC aE aY cc cW dh iy)
  else none)
 else some (s3,aO,ae,ah,ai,av,aB,aC,aE,aY,cc,cW,dh,iy)
def yz (k:Nat):Nat→qT2
 |0,_,_,_,_,_,_,_,_,_,_,_,_,_,_,_,_,_=>none
 |n+1,s3,aO,kI,ga,ix,ae,ah,ai,av,aB,aC,aE,aY,cc,cW,dh,iy=>Dn k (yz k n) s3 aO kI ga ix ae ah ai av aB aC aE aY cc cW dh iy
def Mw (k:Nat)(iC tQ:AC)(iD:EQ)(cS:List zK)(iq:EQ)(ir:AC)(iu:EQ)(a2:Int)(a3:List zC):Option Bool:=
 bif zB a2 cS.length then (bif zB a2 iC.length then (bif decide ((zA ((zA ((cS.getD a2.toNat (0,0,0)).1+(cS.getD a2.toNat (0,0,0)).2.1))+(iC.getD a2.toNat 0)))<0) then some true
   else(Mp k cS iq ir iu a2).bind fun x0=>
   bif zB a2 iD.length then ((yz k k a3 x0 (iD.getD a2.toNat []) ((iD.getD a2.toNat []).length:Int) 0 iC tQ iD cS iq ir iu a2 (cS.getD a2.toNat (0,0,0)).1 (cS.getD a2.toNat (0,0,0)).2.1 (cS.getD a2.toNat (0,0,0)).2.2 (zA ((zA ((cS.getD a2.toNat (0,0,0)).1+(cS.getD a2.toNat (0,0,0)).2.1))+(iC.getD a2.toNat 0)))).bind fun z=>
    bif zB z.2.2.2.2.2.2.2.2.2.1 z.2.2.2.2.2.2.2.1.length then ((Dl k z.2.1 (z.2.2.2.2.2.2.2.1.getD z.2.2.2.2.2.2.2.2.2.1.toNat 0)).bind fun x1=>
     bif x1 then some true
     else(Mu k z.1 z.2.2.2.2.2.2.2.2.2.1 z.2.2.2.2.2.2.2.2.2.2.1 z.2.2.2.2.2.2.2.2.2.2.2.1 z.2.2.2.2.2.2.2.2.2.2.2.2.1 z.2.2.1 z.2.2.2.1 z.2.2.2.2.1 z.2.2.2.2.2.2.2.2.2.2.2.2.2 z.2.2.2.2.2.1 z.2.2.2.2.2.2.1 z.2.2.2.2.2.2.2.1 z.2.2.2.2.2.2.2.2.1).bind fun x2=>
     some x2)
    else none)
   else none)
  else none)
 else none
abbrev qN8:Type:=List zC→Int→Int→List zK→EQ→AC→EQ→AC→AC→EQ→AC→Option AC
def Dq (k:Nat)(rec:qN8)(s1:List zC)(bR bc:Int)(ae:List zK)(ah:EQ)(ai:AC)(ag:EQ)(r2 r3:AC)(m4:EQ)(r5:AC):Option AC:=
 bif decide (bc < bR) then ((Mt k s1 bc).bind fun x1=>
  bif x1 then ((Mw k r2 r3 m4 ae ah ai ag bc s1).bind fun x2=>
   bif x2 then (bif zO (r5.length+1) 8 then(rec s1 bR (zA (bc+1)) ae ah ai ag r2 r3 m4 (r5++[bc]))
    else none)
   else rec s1 bR (zA (bc+1)) ae ah ai ag r2 r3 m4 r5)
  else rec s1 bR (zA (bc+1)) ae ah ai ag r2 r3 m4 r5)
 else some r5
def Dp (k:Nat):Nat→qN8
 |0,_,_,_,_,_,_,_,_,_,_,_=>none
 |n+1,s1,bR,bc,ae,ah,ai,ag,r2,r3,m4,r5=>Dq k (Dp k n) s1 bR bc ae ah ai ag r2 r3 m4 r5
def za (k:Nat)(au:List zK)(az:EQ)(ay:AC)(ax:EQ)(a1:List zC):Option AC:=
 (Ms k (au.length:Int) a1).bind fun x0=>
 (Dp k k a1 (au.length:Int) 0 au az ay ax x0.1 x0.2.1 x0.2.2 []).bind fun z=>
 some z
def zb (k:Nat)(au:List zK)(az:EQ)(ay:AC)(ax:EQ)(a1:List zC):Option Bool:=
 bif decide ((a1.length : Int) ≤ 64) then ((Mx k a1 au az ay ax).bind fun x0=>
  bif !x0 then ((za k au az ay ax a1).bind fun x1=>
   some (decide ((x1.length:Int)=0)))
  else some false)
 else some false
def TJ (k:Nat)(bZ ba bq cn bH bU bJ:Int)(cS:List zK)(iq:EQ)(ir:AC)(iu:EQ):Option Bool:=
 (CP k cS iq ir iu bZ ba bq cn bH bU bJ).bind fun x0=>
 some (!x0)
abbrev qHk:Type:=List zC→Int→Int→List zK→EQ→AC→EQ→Option (Unit⊕Int)
def CQ (k:Nat)(rec:qHk)(s0:List zC)(s7 s8:Int)(ae:List zK)(ah:EQ)(ai:AC)(ag:EQ):Option (Unit⊕Int):=
 bif decide (s8 < s7) then (bif zB s8 s0.length then ((TJ k (s0.getD s8.toNat (0,0,0,0,0,0,0)).1 (s0.getD s8.toNat (0,0,0,0,0,0,0)).2.1 (s0.getD s8.toNat (0,0,0,0,0,0,0)).2.2.1 (s0.getD s8.toNat (0,0,0,0,0,0,0)).2.2.2.1 (s0.getD s8.toNat (0,0,0,0,0,0,0)).2.2.2.2.1 (s0.getD s8.toNat (0,0,0,0,0,0,0)).2.2.2.2.2.1 (s0.getD s8.toNat (0,0,0,0,0,0,0)).2.2.2.2.2.2 ae ah ai ag).bind fun x0=>
   bif x0 then some (.inr s8)
   else rec s0 s7 (zA (s8+1)) ae ah ai ag)
  else none)
 else some (.inl ())
def HZ (k:Nat):Nat→qHk
 |0,_,_,_,_,_,_,_=>none
 |n+1,s0,s7,s8,ae,ah,ai,ag=>CQ k (HZ k n) s0 s7 s8 ae ah ai ag
def TK (k:Nat)(a0:List zC)(bD:List zK)(cq:EQ)(ct:AC)(cw:EQ):Option Int:=
 (HZ k k a0 (a0.length:Int) 0 bD cq ct cw).bind fun z=>
 match z with
 |.inl z1=>some (-1)
 |.inr z2=>some z2
def L4 (k:Nat)(a0:List zC)(bD:List zK)(cq:EQ)(ct:AC)(cw:EQ):Option Bool:=
 (TK k a0 bD cq ct cw).bind fun x0=>
 some (decide (x0≥0))
def Tp (k:Nat)(ij ik eK:Int):Option Bool:=
 (LQ k ij ik eK).bind fun x0=>
 some (!x0)
abbrev qXa:Type:=List zK→Int→Int→Option (Unit⊕Int)
def CC (k:Nat)(rec:qXa)(s0:List zK)(s7 s8:Int):Option (Unit⊕Int):=
 bif decide (s8 < s7) then (bif zB s8 s0.length then ((Tp k (s0.getD s8.toNat (0,0,0)).1 (s0.getD s8.toNat (0,0,0)).2.1 (s0.getD s8.toNat (0,0,0)).2.2).bind fun x0=>
   bif x0 then some (.inr s8)
   else rec s0 s7 (zA (s8+1)))
  else none)
 else some (.inl ())
def HG (k:Nat):Nat→qXa
 |0,_,_,_=>none
 |n+1,s0,s7,s8=>CC k (HG k n) s0 s7 s8
def Tq (k:Nat)(a0:List zK):Option Int:=
 (HG k k a0 (a0.length:Int) 0).bind fun z=>
 match z with
 |.inl z1=>some (-1)
 |.inr z2=>some z2
def LU (k:Nat)(a0:List zK):Option Bool:=
 (Tq k a0).bind fun x0=>
 some (decide (x0≥0))
def Tm (k:Nat)(a0:Int):Option Bool:=
 bif decide (a0≥(-1)) then some (decide (a0≤2305843009213693952))
 else some false
def Ts (k:Nat)(a0:Int):Option Bool:=
 (Tm k a0).bind fun x0=>
 some (!x0)
abbrev qK8:Type:=AC→Int→Int→Option (Unit⊕Int)
def CD (k:Nat)(rec:qK8)(s0:AC)(s7 s8:Int):Option (Unit⊕Int):=
 bif decide (s8 < s7) then (bif zB s8 s0.length then ((Ts k (s0.getD s8.toNat 0)).bind fun x0=>
   bif x0 then some (.inr s8)
   else rec s0 s7 (zA (s8+1)))
  else none)
 else some (.inl ())
def HH (k:Nat):Nat→qK8
 |0,_,_,_=>none
 |n+1,s0,s7,s8=>CD k (HH k n) s0 s7 s8
def Tt (k:Nat)(a0:AC):Option Int:=
 (HH k k a0 (a0.length:Int) 0).bind fun z=>
 match z with
 |.inl z1=>some (-1)
 |.inr z2=>some z2
def LV (k:Nat)(a0:AC):Option Bool:=
 (Tt k a0).bind fun x0=>
 some (decide (x0≥0))
def HJ (k:Nat)(a0:AC)(a1:Int):Option Bool:=
 bif decide ((a0.length : Int) = a1) then ((LV k a0).bind fun x0=>
  some (!x0))
 else some false
abbrev qVw:Type:=Int→EQ→Int→Int→Option (Unit⊕Bool)
def CF (k:Nat)(rec:qVw)(s1:Int)(bo:EQ)(bA aZ:Int):Option (Unit⊕Bool):=
 bif decide (aZ < bA) then (bif zB aZ bo.length then ((HJ k (bo.getD aZ.toNat []) s1).bind fun x0=>
   bif !x0 then some (.inr false)
   else rec s1 bo bA (zA (aZ+1)))
  else none)
 else some (.inl ())
def HK (k:Nat):Nat→qVw
 |0,_,_,_,_=>none
 |n+1,s1,bo,bA,aZ=>CF k (HK k n) s1 bo bA aZ
def LY (k:Nat)(a0:EQ)(a1:Int):Option Bool:=
 bif !(decide ((a0.length:Int)=a1)) then some false
 else(HK k k a1 a0 (a0.length:Int) 0).bind fun z=>
 match z with
 |.inl z1=>some true
 |.inr z2=>some z2
def LR (k:Nat)(a0:Int):Option Bool:=
 bif decide (a0>(-72057594037927936)) then some (decide (a0<72057594037927936))
 else some false
def Tv (k:Nat)(a0:Int):Option Bool:=
 (LR k a0).bind fun x0=>
 some (!x0)
abbrev qKc:Type:=AC→Int→Int→Option (Unit⊕Int)
def CE (k:Nat)(rec:qKc)(s0:AC)(s7 s8:Int):Option (Unit⊕Int):=
 bif decide (s8 < s7) then (bif zB s8 s0.length then ((Tv k (s0.getD s8.toNat 0)).bind fun x0=>
   bif x0 then some (.inr s8)
   else rec s0 s7 (zA (s8+1)))
  else none)
 else some (.inl ())
def HI (k:Nat):Nat→qKc
 |0,_,_,_=>none
 |n+1,s0,s7,s8=>CE k (HI k n) s0 s7 s8
def Tw (k:Nat)(a0:AC):Option Int:=
 (HI k k a0 (a0.length:Int) 0).bind fun z=>
 match z with
 |.inl z1=>some (-1)
 |.inr z2=>some z2
def LW (k:Nat)(a0:AC):Option Bool:=
 (Tw k a0).bind fun x0=>
 some (decide (x0≥0))
def LX (k:Nat)(a0:AC)(a1:Int):Option Bool:=
 bif decide ((a0.length : Int) = a1) then ((LW k a0).bind fun x0=>
  some (!x0))
 else some false
abbrev qS9:Type:=Int→EQ→Int→Int→Option (Unit⊕Bool)
def CG (k:Nat)(rec:qS9)(s1:Int)(bo:EQ)(bA aZ:Int):Option (Unit⊕Bool):=
 bif decide (aZ < bA) then (bif zB aZ bo.length then ((LX k (bo.getD aZ.toNat []) s1).bind fun x0=>
   bif !x0 then some (.inr false)
   else rec s1 bo bA (zA (aZ+1)))
  else none)
 else some (.inl ())
def HL (k:Nat):Nat→qS9
 |0,_,_,_,_=>none
 |n+1,s1,bo,bA,aZ=>CG k (HL k n) s1 bo bA aZ
def LZ (k:Nat)(a0:EQ)(a1:Int):Option Bool:=
 bif !(decide ((a0.length:Int)=a1)) then some false
 else(HL k k a1 a0 (a0.length:Int) 0).bind fun z=>
 match z with
 |.inl z1=>some true
 |.inr z2=>some z2
abbrev qRj:Type:=(EQ×EQ×Int×Int)⊕Bool
abbrev qLl:Type:=EQ→Int→EQ→Int→Int→AC→Int→Int→Option qRj
def CI (k:Nat)(rec:qLl)(s0:EQ)(s3:Int)(s7:EQ)(s8 s9:Int)(bA:AC)(aZ bR:Int):Option qRj:=
 bif decide (bR < aZ) then (bif zB bR bA.length then (bif zB bR s0.length then (bif zB s3 (s0.getD bR.toNat []).length then (bif !(decide (((s0.getD bR.toNat []).getD s3.toNat 0)=(zA (0-(bA.getD bR.toNat 0))))) then some (.inr false)
     else rec s0 s3 s7 s8 s9 bA aZ (zA (bR+1)))
    else none)
   else none)
  else none)
 else some (.inl (s0,s7,s8,s9))
def CH (k:Nat):Nat→qLl
 |0,_,_,_,_,_,_,_,_=>none
 |n+1,s0,s3,s7,s8,s9,bA,aZ,bR=>CI k (CH k n) s0 s3 s7 s8 s9 bA aZ bR
abbrev qOx:Type:=EQ→EQ→Int→Int→Option (Unit⊕Bool)
def CJ (k:Nat)(rec:qOx)(s0 s7:EQ)(s8 s9:Int):Option (Unit⊕Bool):=
 bif decide (s9 < s8) then (bif zB s9 s7.length then ((CH k k s0 s9 s7 s8 s9 (s7.getD s9.toNat []) ((s7.getD s9.toNat []).length:Int) 0).bind fun z=>
   match z with
   |.inl z1=>rec z1.1 z1.2.1 z1.2.2.1 (zA (z1.2.2.2+1))
   |.inr z2=>some (.inr z2))
  else none)
 else some (.inl ())
def HM (k:Nat):Nat→qOx
 |0,_,_,_,_=>none
 |n+1,s0,s7,s8,s9=>CJ k (HM k n) s0 s7 s8 s9
def L1 (k:Nat)(a0:EQ):Option Bool:=
 (HM k k a0 a0 (a0.length:Int) 0).bind fun z3=>
 match z3 with
 |.inl z4=>some true
 |.inr z5=>some z5
def HN (k:Nat)(au:List zK)(az:EQ)(ay:AC)(ax:EQ):Option Bool:=
 bif decide ((au.length:Int)<1) then some false
 else bif decide ((au.length:Int)>6) then some false
 else(LU k au).bind fun x0=>
 bif x0 then some false
 else(LY k az (au.length:Int)).bind fun x1=>
 bif x1 then ((HJ k ay (au.length:Int)).bind fun x2=>
  bif x2 then ((LZ k ax (au.length:Int)).bind fun x3=>
   bif x3 then ((L1 k ax).bind fun x4=>
    some x4)
   else some false)
  else some false)
 else some false
abbrev qSb:Type:=(List zK)×EQ×AC×EQ×(List zK)×EQ×AC×EQ
abbrev qS6:Type:=List zC→Int→Int→List zK→EQ→AC→EQ→List zK→EQ→AC→EQ→Option qSb
def CV (k:Nat)(rec:qS6)(bn:List zC)(iZ aT:Int)(ae:List zK)(ah:EQ)(ai:AC)(ag:EQ)(r3:List zK)(m4:EQ)(r5:AC)(m6:EQ):Option qSb:=
 bif decide (aT < iZ) then (bif zB aT bn.length then (bif zB (bn.getD aT.toNat (0, 0, 0, 0, 0, 0, 0)).2.1 r3.length then (bif zB (bn.getD aT.toNat (0, 0, 0, 0, 0, 0, 0)).2.2.1 r3.length then (let y0:List zK:=(r3.set (bn.getD aT.toNat (0,0,0,0,0,0,0)).2.1.toNat ((zA ((r3.getD (bn.getD aT.toNat (0,0,0,0,0,0,0)).2.1.toNat (0,0,0)).1-(bn.getD aT.toNat (0,0,0,0,0,0,0)).2.2.2.1)),(r3.getD (bn.getD aT.toNat (0,0,0,0,0,0,0)).2.1.toNat (0,0,0)).2))
     let y1:List zK:=(y0.set (bn.getD aT.toNat (0,0,0,0,0,0,0)).2.2.1.toNat ((zA ((y0.getD (bn.getD aT.toNat (0,0,0,0,0,0,0)).2.2.1.toNat (0,0,0)).1+(bn.getD aT.toNat (0,0,0,0,0,0,0)).2.2.2.1)),(y0.getD (bn.getD aT.toNat (0,0,0,0,0,0,0)).2.2.1.toNat (0,0,0)).2))
     bif !(decide ((bn.getD aT.toNat (0, 0, 0, 0, 0, 0, 0)).2.2.2.2.1 = 3)) then ((uS k (y1.getD (bn.getD aT.toNat (0,0,0,0,0,0,0)).2.1.toNat (0,0,0)).1 (y1.getD (bn.getD aT.toNat (0,0,0,0,0,0,0)).2.1.toNat (0,0,0)).2.1 (y1.getD (bn.getD aT.toNat (0,0,0,0,0,0,0)).2.1.toNat (0,0,0)).2.2 (bn.getD aT.toNat (0,0,0,0,0,0,0)).2.2.2.1).bind fun x2=>
      let y2:List zK:=(y1.set (bn.getD aT.toNat (0,0,0,0,0,0,0)).2.1.toNat ((y1.getD (bn.getD aT.toNat (0,0,0,0,0,0,0)).2.1.toNat (0,0,0)).1,(y1.getD (bn.getD aT.toNat (0,0,0,0,0,0,0)).2.1.toNat (0,0,0)).2.1,x2))
      bif zB (bn.getD aT.toNat (0, 0, 0, 0, 0, 0, 0)).2.1 m6.length then (bif zB (bn.getD aT.toNat (0, 0, 0, 0, 0, 0, 0)).2.2.1 (m6.getD (bn.getD aT.toNat (0, 0, 0, 0, 0, 0, 0)).2.1.toNat []).length then (bif zB (bn.getD aT.toNat (0, 0, 0, 0, 0, 0, 0)).2.2.1 (m6.getD (bn.getD aT.toNat (0, 0, 0, 0, 0, 0, 0)).2.1.toNat []).length then (let y3:EQ:=(m6.set (bn.getD aT.toNat (0,0,0,0,0,0,0)).2.1.toNat ((m6.getD (bn.getD aT.toNat (0,0,0,0,0,0,0)).2.1.toNat []).set (bn.getD aT.toNat (0,0,0,0,0,0,0)).2.2.1.toNat (zA (((m6.getD (bn.getD aT.toNat (0,0,0,0,0,0,0)).2.1.toNat []).getD (bn.getD aT.toNat (0,0,0,0,0,0,0)).2.2.1.toNat 0)+(bn.getD aT.toNat (0,0,0,0,0,0,0)).2.2.2.1))))
         bif zB (bn.getD aT.toNat (0, 0, 0, 0, 0, 0, 0)).2.2.1 y3.length then (bif zB (bn.getD aT.toNat (0, 0, 0, 0, 0, 0, 0)).2.1 (y3.getD (bn.getD aT.toNat (0, 0, 0, 0, 0, 0, 0)).2.2.1.toNat []).length then (bif zB (bn.getD aT.toNat (0, 0, 0, 0, 0, 0, 0)).2.1 (y3.getD (bn.getD aT.toNat (0, 0, 0, 0, 0, 0, 0)).2.2.1.toNat []).length then (let y4:EQ:=(y3.set (bn.getD aT.toNat (0,0,0,0,0,0,0)).2.2.1.toNat ((y3.getD (bn.getD aT.toNat (0,0,0,0,0,0,0)).2.2.1.toNat []).set (bn.getD aT.toNat (0,0,0,0,0,0,0)).2.1.toNat (zA (((y3.getD (bn.getD aT.toNat (0,0,0,0,0,0,0)).2.2.1.toNat []).getD (bn.getD aT.toNat (0,0,0,0,0,0,0)).2.1.toNat 0)-(bn.getD aT.toNat (0,0,0,0,0,0,0)).2.2.2.1))))
            rec bn iZ (zA (aT+1)) ae ah ai ag y2 m4 r5 y4)
           else none)
          else none)
         else none)
        else none)
       else none)
      else none)
     else bif zB (bn.getD aT.toNat (0, 0, 0, 0, 0, 0, 0)).2.1 m6.length then (bif zB (bn.getD aT.toNat (0, 0, 0, 0, 0, 0, 0)).2.2.1 (m6.getD (bn.getD aT.toNat (0, 0, 0, 0, 0, 0, 0)).2.1.toNat []).length then (bif zB (bn.getD aT.toNat (0, 0, 0, 0, 0, 0, 0)).2.2.1 (m6.getD (bn.getD aT.toNat (0, 0, 0, 0, 0, 0, 0)).2.1.toNat []).length then (let y5:EQ:=(m6.set (bn.getD aT.toNat (0,0,0,0,0,0,0)).2.1.toNat ((m6.getD (bn.getD aT.toNat (0,0,0,0,0,0,0)).2.1.toNat []).set (bn.getD aT.toNat (0,0,0,0,0,0,0)).2.2.1.toNat (zA (((m6.getD (bn.getD aT.toNat (0,0,0,0,0,0,0)).2.1.toNat []).getD (bn.getD aT.toNat (0,0,0,0,0,0,0)).2.2.1.toNat 0)+(bn.getD aT.toNat (0,0,0,0,0,0,0)).2.2.2.1))))
        bif zB (bn.getD aT.toNat (0, 0, 0, 0, 0, 0, 0)).2.2.1 y5.length then (bif zB (bn.getD aT.toNat (0, 0, 0, 0, 0, 0, 0)).2.1 (y5.getD (bn.getD aT.toNat (0, 0, 0, 0, 0, 0, 0)).2.2.1.toNat []).length then (bif zB (bn.getD aT.toNat (0, 0, 0, 0, 0, 0, 0)).2.1 (y5.getD (bn.getD aT.toNat (0, 0, 0, 0, 0, 0, 0)).2.2.1.toNat []).length then (let y6:EQ:=(y5.set (bn.getD aT.toNat (0,0,0,0,0,0,0)).2.2.1.toNat ((y5.getD (bn.getD aT.toNat (0,0,0,0,0,0,0)).2.2.1.toNat []).set (bn.getD aT.toNat (0,0,0,0,0,0,0)).2.1.toNat (zA (((y5.getD (bn.getD aT.toNat (0,0,0,0,0,0,0)).2.2.1.toNat []).getD (bn.getD aT.toNat (0,0,0,0,0,0,0)).2.1.toNat 0)-(bn.getD aT.toNat (0,0,0,0,0,0,0)).2.2.2.1))))
           rec bn iZ (zA (aT+1)) ae ah ai ag y1 m4 r5 y6)
          else none)
         else none)
        else none)
       else none)
      else none)
     else none)
    else none)
   else none)
  else none)
 else some (ae,ah,ai,ag,r3,m4,r5,m6)
def CU (k:Nat):Nat→qS6
 |0,_,_,_,_,_,_,_,_,_,_,_=>none
 |n+1,bn,iZ,aT,ae,ah,ai,ag,r3,m4,r5,m6=>CV k (CU k n) bn iZ aT ae ah ai ag r3 m4 r5 m6
def oN (k:Nat)(au:List zK)(az:EQ)(ay:AC)(ax:EQ)(a1:List zC):Option ((List zK)×EQ×AC×EQ×Int):=
 bif decide ((a1.length:Int)>64) then some (au,az,ay,ax,1)
 else(L4 k a1 au az ay ax).bind fun x0=>
 bif x0 then some (au,az,ay,ax,1)
 else(fU k au az ay ax).bind fun x1=>
 (CU k k a1 (a1.length:Int) 0 au az ay ax x1.1 x1.2.1 x1.2.2.1 x1.2.2.2).bind fun z=>
 (HN k z.2.2.2.2.1 z.2.2.2.2.2.1 z.2.2.2.2.2.2.1 z.2.2.2.2.2.2.2).bind fun x3=>
 bif !x3 then some (vO z 8)
 else some (ySk z 0)
abbrev qHs:Type:=((List zK)×EQ×AC×EQ×Int×Int×Int×Int×Int×Int×Int)⊕(Bool×Int×Int×Int×Int×Int×Int×Int×(List zK)×EQ×AC×EQ)
abbrev qYd:Type:=Int→Int→List zK→EQ→AC→EQ→Int→Int→Int→Int→Int→Int→Int→List zC→Option qHs
def D7 (k:Nat)(rec:qYd)(bR bc:Int)(ae:List zK)(ah:EQ)(ai:AC)(ag:EQ)(av aB aC aE aG aH aI:Int)(r3:List zC):Option qHs:=
 bif decide (bc < bR) then (bif zB bc r3.length then ((zb k ae ah ai ag [(r3.getD bc.toNat (0,0,0,0,0,0,0))]).bind fun x1=>
   bif !x1 then(rec bR (zA (bc+1)) ae ah ai ag av aB aC aE aG aH aI r3)
   else(oN k ae ah ai ag [(r3.getD bc.toNat (0,0,0,0,0,0,0))]).bind fun x2=>
   bif decide (x2.2.2.2.2=0) then some (.inr (true,(eX (r3.getD bc.toNat (0,0,0,0,0,0,0)) (wM x2))))
   else rec bR (zA (bc+1)) ae ah ai ag av aB aC aE aG aH aI r3)
  else none)
 else some (.inl (ae,ah,ai,ag,av,aB,aC,aE,aG,aH,aI))
def IG (k:Nat):Nat→qYd
 |0,_,_,_,_,_,_,_,_,_,_,_,_,_,_=>none
 |n+1,bR,bc,ae,ah,ai,ag,av,aB,aC,aE,aG,aH,aI,r3=>D7 k (IG k n) bR bc ae ah ai ag av aB aC aE aG aH aI r3
def MS (k:Nat)(au:List zK)(az:EQ)(ay:AC)(ax:EQ)(a1:List zC)(a2:Int):Option (Int×Int×Int×Int×Int×Int×Int×(List zK)×EQ×AC×EQ×Bool):=
 (Is k a1 a2).bind fun x0=>
 (IG k k (x0.length:Int) 0 au az ay ax 0 0 0 0 0 0 0 x0).bind fun z=>
 match z with
 |.inl z1=>some (0,0,0,0,0,0,0,(vO z1 false))
 |.inr z2=>some (abx z2 z2.1)
abbrev qXl:Type:=(List zC)×(List zK)×EQ×AC×EQ×(List zC)
abbrev qO8:Type:=Int→List zC→List zK→EQ→AC→EQ→List zC→Option qXl
def D9 (k:Nat)(rec:qO8)(s2:Int)(s7:List zC)(ae:List zK)(ah:EQ)(ai:AC)(ag:EQ)(r1:List zC):Option qXl:=
 (MS k ae ah ai ag s7 s2).bind fun x0=>
 bif !x0.2.2.2.2.2.2.2.2.2.2.2 then some (s7,ae,ah,ai,ag,r1)
 else(oO k s7 x0.1).bind fun x1=>
 bif zO (r1.length + 1) 56 then (let y0:List zC:=(r1++[(vJ x0)])
  rec s2 x1.1 x0.2.2.2.2.2.2.2.1 x0.2.2.2.2.2.2.2.2.1 x0.2.2.2.2.2.2.2.2.2.1 x0.2.2.2.2.2.2.2.2.2.2.1 y0)
 else none
def IH (k:Nat):Nat→qO8
 |0,_,_,_,_,_,_,_=>none
 |n+1,s2,s7,ae,ah,ai,ag,r1=>D9 k (IH k n) s2 s7 ae ah ai ag r1
def MU (k:Nat)(au:List zK)(az:EQ)(ay:AC)(ax:EQ)(a1:List zC)(a2:Int):Option rC:=
 (IH k k a2 a1 au az ay ax []).bind fun z=>
 some (gP z (z.1,z.2.2.2.2.2))
abbrev qY5:Type:=(Int×Int×(List zK)×EQ×AC×EQ×Int×Int×Int×Int×Int×Int×Int×Int×Int×Int×Int×Int×Int×Int×(List zC))⊕yE5
abbrev qH2:Type:=Int→Int→Int→Int→List zK→EQ→AC→EQ→Int→Int→Int→Int→Int→Int→Int→Int→Int→Int→Int→Int→Int→Int→List zC→Int→Int→Int→Int→Int→Int→Int→Option qY5
def Ec (k:Nat)(rec:qH2)(dC cH iZ aT:Int)(ae:List zK)(ah:EQ)(ai:AC)(ag:EQ)(av aB aC aE aG aH aI cy cz bB aS cd cf cg:Int)(r2:List zC)(cc cW dh gp gq gu gv:Int):Option qY5:=
 bif decide (aT < iZ) then (bif zB aT r2.length then (bif !(decide ((r2.getD aT.toNat (0,0,0,0,0,0,0)).2.1=dh)) then(rec dC cH iZ (zA (aT+1)) ae ah ai ag av aB aC aE aG aH aI cy cz bB aS cd cf cg r2 cc cW dh gp gq gu gv)
   else bif !(decide ((r2.getD aT.toNat (0,0,0,0,0,0,0)).2.2.1=cW)) then(rec dC cH iZ (zA (aT+1)) ae ah ai ag av aB aC aE aG aH aI cy cz bB aS cd cf cg r2 cc cW dh gp gq gu gv)
   else bif decide (cW≥(r2.getD aT.toNat (0,0,0,0,0,0,0)).2.1) then(rec dC cH iZ (zA (aT+1)) ae ah ai ag av aB aC aE aG aH aI cy cz bB aS cd cf cg r2 cc cW dh gp gq gu gv)
   else(zb k ae ah ai ag [(cc,cW,dh,gp,gq,gu,gv),(r2.getD aT.toNat (0,0,0,0,0,0,0))]).bind fun x1=>
   bif !x1 then(rec dC cH iZ (zA (aT+1)) ae ah ai ag av aB aC aE aG aH aI cy cz bB aS cd cf cg r2 cc cW dh gp gq gu gv)
   else(oN k ae ah ai ag [(cc,cW,dh,gp,gq,gu,gv),(r2.getD aT.toNat (0,0,0,0,0,0,0))]).bind fun x2=>
   bif decide (x2.2.2.2.2=0) then some (.inr (true,cc,cW,dh,gp,gq,gu,gv,(eX (r2.getD aT.toNat (0,0,0,0,0,0,0)) (wM x2))))
   else rec dC cH iZ (zA (aT+1)) ae ah ai ag av aB aC aE aG aH aI cy cz bB aS cd cf cg r2 cc cW dh gp gq gu gv)
  else none)
 else some (.inl (dC,cH,ae,ah,ai,ag,av,aB,aC,aE,aG,aH,aI,cy,cz,bB,aS,cd,cf,cg,r2))
def II (k:Nat):Nat→qH2
 |0,_,_,_,_,_,_,_,_,_,_,_,_,_,_,_,_,_,_,_,_,_,_,_,_,_,_,_,_,_,_=>none
 |n+1,dC,cH,iZ,aT,ae,ah,ai,ag,av,aB,aC,aE,aG,aH,aI,cy,cz,bB,aS,cd,cf,cg,r2,cc,cW,dh,gp,gq,gu,gv=>Ec k (II k n) dC cH iZ aT ae ah ai ag av aB aC aE aG aH aI cy cz bB aS cd cf cg r2 cc cW dh gp gq gu gv
abbrev qKn:Type:=(Int×Int×Int×Int×Int×Int×Int×Int×Int×Int×Int×Int×Int×Int)⊕yE5
abbrev qMd:Type:=Int→Int→List zK→EQ→AC→EQ→Int→Int→Int→Int→Int→Int→Int→Int→Int→Int→Int→Int→Int→Int→List zC→Option qKn
def Ed (k:Nat)(rec:qMd)(dC cH:Int)(ae:List zK)(ah:EQ)(ai:AC)(ag:EQ)(av aB aC aE aG aH aI cy cz bB aS cd cf cg:Int)(r2:List zC):Option qKn:=
 bif decide (cH < dC) then (bif zB cH r2.length then ((II k k dC cH (r2.length:Int) 0 ae ah ai ag av aB aC aE aG aH aI cy cz bB aS cd cf cg r2 (r2.getD cH.toNat (0,0,0,0,0,0,0)).1 (r2.getD cH.toNat (0,0,0,0,0,0,0)).2.1 (r2.getD cH.toNat (0,0,0,0,0,0,0)).2.2.1 (r2.getD cH.toNat (0,0,0,0,0,0,0)).2.2.2.1 (r2.getD cH.toNat (0,0,0,0,0,0,0)).2.2.2.2.1 (r2.getD cH.toNat (0,0,0,0,0,0,0)).2.2.2.2.2.1 (r2.getD cH.toNat (0,0,0,0,0,0,0)).2.2.2.2.2.2).bind fun z=>
   match z with
   |.inl z1=>rec z1.1 (zA (z1.2.1+1)) z1.2.2.1 z1.2.2.2.1 z1.2.2.2.2.1 z1.2.2.2.2.2.1 z1.2.2.2.2.2.2.1 z1.2.2.2.2.2.2.2.1 z1.2.2.2.2.2.2.2.2.1 z1.2.2.2.2.2.2.2.2.2.1 z1.2.2.2.2.2.2.2.2.2.2.1 z1.2.2.2.2.2.2.2.2.2.2.2.1 z1.2.2.2.2.2.2.2.2.2.2.2.2.1 z1.2.2.2.2.2.2.2.2.2.2.2.2.2.1 z1.2.2.2.2.2.2.2.2.2.2.2.2.2.2.1 z1.2.2.2.2.2.2.2.2.2.2.2.2.2.2.2.1 z1.2.2.2.2.2.2.2.2.2.2.2.2.2.2.2.2.1 z1.2.2.2.2.2.2.2.2.2.2.2.2.2.2.2.2.2.1 z1.2.2.2.2.2.2.2.2.2.2.2.2.2.2.2.2.2.2.1 z1.2.2.2.2.2.2.2.2.2.2.2.2.2.2.2.2.2.2.2.1 z1.2.2.2.2.2.2.2.2.2.2.2.2.2.2.2.2.2.2.2.2
   |.inr z2=>some (.inr (z2.1,z2.2.1,z2.2.2.1,z2.2.2.2.1,z2.2.2.2.2.1,z2.2.2.2.2.2.1,z2.2.2.2.2.2.2.1,z2.2.2.2.2.2.2.2.1,z2.2.2.2.2.2.2.2.2.1,z2.2.2.2.2.2.2.2.2.2.1,z2.2.2.2.2.2.2.2.2.2.2.1,z2.2.2.2.2.2.2.2.2.2.2.2.1,z2.2.2.2.2.2.2.2.2.2.2.2.2.1,z2.2.2.2.2.2.2.2.2.2.2.2.2.2.1,z2.2.2.2.2.2.2.2.2.2.2.2.2.2.2.1,z2.2.2.2.2.2.2.2.2.2.2.2.2.2.2.2.1,z2.2.2.2.2.2.2.2.2.2.2.2.2.2.2.2.2.1,z2.2.2.2.2.2.2.2.2.2.2.2.2.2.2.2.2.2.1,z2.2.2.2.2.2.2.2.2.2.2.2.2.2.2.2.2.2.2)))
  else none)
 else some (.inl (av,aB,aC,aE,aG,aH,aI,cy,cz,bB,aS,cd,cf,cg))
def IK (k:Nat):Nat→qMd
 |0,_,_,_,_,_,_,_,_,_,_,_,_,_,_,_,_,_,_,_,_,_=>none
 |n+1,dC,cH,ae,ah,ai,ag,av,aB,aC,aE,aG,aH,aI,cy,cz,bB,aS,cd,cf,cg,r2=>Ed k (IK k n) dC cH ae ah ai ag av aB aC aE aG aH aI cy cz bB aS cd cf cg r2
def MW (k:Nat)(au:List zK)(az:EQ)(ay:AC)(ax:EQ)(a1:List zC)(a2:Int):Option (Int×Int×Int×Int×Int×Int×Int×Int×Int×Int×Int×Int×Int×Int×(List zK)×EQ×AC×EQ×Bool):=
 (Is k a1 a2).bind fun x0=>
 (IK k k (x0.length:Int) 0 au az ay ax 0 0 0 0 0 0 0 0 0 0 0 0 0 0 x0).bind fun z3=>
 match z3 with
 |.inl z4=>some (0,0,0,0,0,0,0,0,0,0,0,0,0,0,[],[],[],[],false)
 |.inr z5=>some (qHh z5 z5.1)
abbrev qV1:Type:=Int×(List zC)×(List zK)×EQ×AC×EQ×(List zC)
abbrev qQm:Type:=Int→List zC→Int→Int→List zK→EQ→AC→EQ→List zC→List zC→Option qV1
def vf (k:Nat)(rec:qQm)(s2:Int)(s7:List zC)(Bc rD:Int)(ae:List zK)(ah:EQ)(ai:AC)(ag:EQ)(r1 r2:List zC):Option qV1:=
 bif decide (rD < Bc) then (bif zB rD r2.length then ((oO k s7 (r2.getD rD.toNat (0,0,0,0,0,0,0)).1).bind fun x1=>
   bif zO (r1.length + 1) 56 then (let y0:List zC:=(r1++[(r2.getD rD.toNat (0,0,0,0,0,0,0))])
    rec s2 x1.1 Bc (zA (rD+1)) ae ah ai ag y0 r2)
   else none)
  else none)
 else some (s2,s7,ae,ah,ai,ag,r1)
def vd (k:Nat):Nat→qQm
 |0,_,_,_,_,_,_,_,_,_,_=>none
 |n+1,s2,s7,Bc,rD,ae,ah,ai,ag,r1,r2=>vf k (vd k n) s2 s7 Bc rD ae ah ai ag r1 r2
abbrev qV7:Type:=(List zC)×(List zK)×EQ×AC×EQ×(List zC)
abbrev qS5:Type:=Int→List zC→List zK→EQ→AC→EQ→List zC→Option qV7
def Ee (k:Nat)(rec:qS5)(s2:Int)(s7:List zC)(ae:List zK)(ah:EQ)(ai:AC)(ag:EQ)(r1:List zC):Option qV7:=
 (MW k ae ah ai ag s7 s2).bind fun x0=>
 bif !x0.2.2.2.2.2.2.2.2.2.2.2.2.2.2.2.2.2.2 then some (s7,ae,ah,ai,ag,r1)
 else(vd k k s2 s7 2 0 x0.2.2.2.2.2.2.2.2.2.2.2.2.2.2.1 x0.2.2.2.2.2.2.2.2.2.2.2.2.2.2.2.1 x0.2.2.2.2.2.2.2.2.2.2.2.2.2.2.2.2.1 x0.2.2.2.2.2.2.2.2.2.2.2.2.2.2.2.2.2.1 r1 [(vJ x0),(qV8 x0)]).bind fun z=>
 rec z.1 z.2.1 z.2.2.1 z.2.2.2.1 z.2.2.2.2.1 z.2.2.2.2.2.1 z.2.2.2.2.2.2
def IL (k:Nat):Nat→qS5
 |0,_,_,_,_,_,_,_=>none
 |n+1,s2,s7,ae,ah,ai,ag,r1=>Ee k (IL k n) s2 s7 ae ah ai ag r1
def MX (k:Nat)(au:List zK)(az:EQ)(ay:AC)(ax:EQ)(a1:List zC)(a2:Int):Option rC:=
 (IL k k a2 a1 au az ay ax []).bind fun z1=>
 some (gP z1 (z1.1,z1.2.2.2.2.2))
abbrev qM5:Type:=(List zC)×(List zK)×EQ×AC×EQ×(List zC)
abbrev qPh:Type:=Int→List zC→List zK→EQ→AC→EQ→List zC→Option qM5
def M7 (k:Nat)(rec:qPh)(s2:Int)(s7:List zC)(ae:List zK)(ah:EQ)(ai:AC)(ag:EQ)(r1:List zC):Option qM5:=
 (MU k ae ah ai ag s7 s2).bind fun x0=>
 (MX k x0.1 x0.2.1 x0.2.2.1 x0.2.2.2.1 x0.2.2.2.2.1 s2).bind fun x1=>
 bif zO (r1.length + x0.2.2.2.2.2.length) 56 then (bif zO ((r1 ++ x0.2.2.2.2.2).length + x1.2.2.2.2.2.length) 56 then (let y0:List zC:=((r1++x0.2.2.2.2.2)++x1.2.2.2.2.2)
   bif decide ((x1.2.2.2.2.2.length:Int)=0) then some (x1.2.2.2.2.1,(vO x1 y0))
   else rec s2 x1.2.2.2.2.1 x1.1 x1.2.1 x1.2.2.1 x1.2.2.2.1 y0)
  else none)
 else none
def IU (k:Nat):Nat→qPh
 |0,_,_,_,_,_,_,_=>none
 |n+1,s2,s7,ae,ah,ai,ag,r1=>M7 k (IU k n) s2 s7 ae ah ai ag r1
def IV (k:Nat)(au:List zK)(az:EQ)(ay:AC)(ax:EQ)(a1:List zC)(a2:Int):Option rC:=
 (IU k k a2 a1 au az ay ax []).bind fun z=>
 some (gP z (z.1,z.2.2.2.2.2))
def UH (k:Nat)(a0:AC):Option AC:=
 bif zO (0+a0.length) 8 then some a0
 else none
def UJ (k:Nat)(bZ ba bq cn bH bU bJ:Int)(a1:AC):Option (Bool×AC):=
 bif decide (ba<0) then some (false,a1)
 else bif decide (ba≥(a1.length:Int)) then some (false,a1)
 else bif zB ba a1.length then (bif decide ((a1.getD ba.toNat 0)<1) then some (false,a1)
  else bif zB ba a1.length then (bif zB ba a1.length then some (true,(a1.set ba.toNat (zA ((a1.getD ba.toNat 0)-1))))
   else none)
  else none)
 else none
abbrev qY8:Type:=AC×(List zC)
abbrev qQv:Type:=List zC→Int→Int→AC→List zC→Option qY8
def Ei (k:Nat)(rec:qQv)(s8:List zC)(s9 aw:Int)(r1:AC)(r2:List zC):Option qY8:=
 bif decide (aw < s9) then (bif zB aw s8.length then ((UJ k (s8.getD aw.toNat (0,0,0,0,0,0,0)).1 (s8.getD aw.toNat (0,0,0,0,0,0,0)).2.1 (s8.getD aw.toNat (0,0,0,0,0,0,0)).2.2.1 (s8.getD aw.toNat (0,0,0,0,0,0,0)).2.2.2.1 (s8.getD aw.toNat (0,0,0,0,0,0,0)).2.2.2.2.1 (s8.getD aw.toNat (0,0,0,0,0,0,0)).2.2.2.2.2.1 (s8.getD aw.toNat (0,0,0,0,0,0,0)).2.2.2.2.2.2 r1).bind fun x0=>
   bif x0.1 then (bif zO (r2.length + 1) 56 then (let y0:List zC:=(r2++[(s8.getD aw.toNat (0,0,0,0,0,0,0))])
     rec s8 s9 (zA (aw+1)) x0.2 y0)
    else none)
   else rec s8 s9 (zA (aw+1)) x0.2 r2)
  else none)
 else some (r1,r2)
def Eh (k:Nat):Nat→qQv
 |0,_,_,_,_,_=>none
 |n+1,s8,s9,aw,r1,r2=>Ei k (Eh k n) s8 s9 aw r1 r2
def UI (k:Nat)(a0:List zC)(cT:AC):Option ((List zC)×AC):=
 (Eh k k a0 (a0.length:Int) 0 cT []).bind fun z=>
 some (z.2,z.1)
def Eg (k:Nat)(a0:List zC)(a1:AC):Option (List zC):=
 (UH k a1).bind fun x0=>
 (UI k a0 x0).bind fun x1=>
 some x1.1
abbrev qMp:Type:=Int×(List zK)×EQ×AC×EQ×AC×(List zC)
abbrev qRe:Type:=Int→Int→Int→List zK→EQ→AC→EQ→AC→List zC→Option qMp
def Ek (k:Nat)(rec:qRe)(s7 kj dC:Int)(ae:List zK)(ah:EQ)(ai:AC)(ag:EQ)(r1:AC)(r2:List zC):Option qMp:=
 bif decide (dC < kj) then ((IQ k r2 dC).bind fun x1=>
  bif zO (r1.length+1) 8 then(rec s7 kj (zA (dC+1)) ae ah ai ag (r1++[(x1.length:Int)]) r2)
  else none)
 else some (s7,ae,ah,ai,ag,r1,r2)
def zm (k:Nat):Nat→qRe
 |0,_,_,_,_,_,_,_,_,_=>none
 |n+1,s7,kj,dC,ae,ah,ai,ag,r1,r2=>Ek k (zm k n) s7 kj dC ae ah ai ag r1 r2
abbrev qK0:Type:=Int×(List zK)×EQ×AC×EQ×AC×(List zC)
abbrev qSd:Type:=Int→Int→Int→List zK→EQ→AC→EQ→AC→List zC→AC→Option qK0
def Em (k:Nat)(rec:qSd)(s7 P1 mZ:Int)(ae:List zK)(ah:EQ)(ai:AC)(ag:EQ)(r1:AC)(r2:List zC)(r3:AC):Option qK0:=
 bif decide (mZ < P1) then (bif zB mZ r3.length then (bif zB (r3.getD mZ.toNat 0) r1.length then (bif zB (r3.getD mZ.toNat 0) r1.length then (let y0:AC:=(r1.set (r3.getD mZ.toNat 0).toNat (zA ((r1.getD (r3.getD mZ.toNat 0).toNat 0)-1)))
     rec s7 P1 (zA (mZ+1)) ae ah ai ag y0 r2 r3)
    else none)
   else none)
  else none)
 else some (s7,ae,ah,ai,ag,r1,r2)
def El (k:Nat):Nat→qSd
 |0,_,_,_,_,_,_,_,_,_,_=>none
 |n+1,s7,P1,mZ,ae,ah,ai,ag,r1,r2,r3=>Em k (El k n) s7 P1 mZ ae ah ai ag r1 r2 r3
abbrev qWw:Type:=Int→List zK→EQ→AC→EQ→AC→List zC→Option (Int×AC)
def En (k:Nat)(rec:qWw)(s7:Int)(ae:List zK)(ah:EQ)(ai:AC)(ag:EQ)(r1:AC)(r2:List zC):Option (Int×AC):=
 (Eg k r2 r1).bind fun x2=>
 (za k ae ah ai ag x2).bind fun x3=>
 bif decide ((x3.length:Int)=0) then some ((zA (s7+1)),r1)
 else(El k k (zA (s7+1)) (x3.length:Int) 0 ae ah ai ag r1 r2 x3).bind fun z1=>
 rec z1.1 z1.2.1 z1.2.2.1 z1.2.2.2.1 z1.2.2.2.2.1 z1.2.2.2.2.2.1 z1.2.2.2.2.2.2
def IT (k:Nat):Nat→qWw
 |0,_,_,_,_,_,_,_=>none
 |n+1,s7,ae,ah,ai,ag,r1,r2=>En k (IT k n) s7 ae ah ai ag r1 r2
def M4 (k:Nat)(au:List zK)(az:EQ)(ay:AC)(ax:EQ)(a1:List zC)(a2:Int):Option (AC×Int):=
 (Ds k a1 a2).bind fun x0=>
 (zm k k 0 (au.length:Int) 0 au az ay ax [] x0).bind fun z=>
 (IT k k z.1 z.2.1 z.2.2.1 z.2.2.2.1 z.2.2.2.2.1 z.2.2.2.2.2.1 z.2.2.2.2.2.2).bind fun z2=>
 some (z2.2,z2.1)
abbrev qTa:Type:=(List zC)×(List zK)×EQ×AC×EQ×(List zC)
abbrev qX5:Type:=List zC→Int→Int→List zK→EQ→AC→EQ→List zC→Option qTa
def Eo (k:Nat)(rec:qX5)(s7:List zC)(kI ga:Int)(ae:List zK)(ah:EQ)(ai:AC)(ag:EQ)(r1:List zC):Option qTa:=
 bif decide (ga < kI) then (bif zB ga r1.length then ((oO k s7 (r1.getD ga.toNat (0,0,0,0,0,0,0)).1).bind fun x4=>
   rec x4.1 kI (zA (ga+1)) ae ah ai ag r1)
  else none)
 else some (s7,ae,ah,ai,ag,r1)
def zn (k:Nat):Nat→qX5
 |0,_,_,_,_,_,_,_,_=>none
 |n+1,s7,kI,ga,ae,ah,ai,ag,r1=>Eo k (zn k n) s7 kI ga ae ah ai ag r1
def zo (k:Nat)(au:List zK)(az:EQ)(ay:AC)(ax:EQ)(a1:List zC)(a2:Int):Option rC:=
 (M4 k au az ay ax a1 a2).bind fun x0=>
 (Ds k a1 a2).bind fun x1=>
 (Eg k x1 x0.1).bind fun x2=>
 (oN k au az ay ax x2).bind fun x3=>
 bif !(decide (x3.2.2.2.2=0)) then some (au,az,ay,ax,a1,[])
 else(zn k k a1 (x2.length:Int) 0 x3.1 x3.2.1 x3.2.2.1 x3.2.2.2.1 x2).bind fun z=>
 some (gP z (z.1,z.2.2.2.2.2))
def vj (k:Nat)(au:List zK)(az:EQ)(ay:AC)(ax:EQ)(a1:List zC)(a2:Int)(a3:Bool):Option rC:=
 (IV k au az ay ax a1 a2).bind fun x0=>
 bif !a3 then some (x0.1,x0.2.1,x0.2.2.1,x0.2.2.2.1,x0.2.2.2.2.1,x0.2.2.2.2.2)
 else(zo k x0.1 x0.2.1 x0.2.2.1 x0.2.2.2.1 x0.2.2.2.2.1 a2).bind fun x1=>
 bif decide ((x1.2.2.2.2.2.length:Int)=0) then some (nR x1 x0.2.2.2.2.2)
 else(IV k x1.1 x1.2.1 x1.2.2.1 x1.2.2.2.1 x1.2.2.2.2.1 a2).bind fun x2=>
 bif zO (x0.2.2.2.2.2.length + x1.2.2.2.2.2.length) 56 then (bif zO ((x0.2.2.2.2.2 ++ x1.2.2.2.2.2).length + x2.2.2.2.2.2.length) 56 then (let y0:List zC:=((x0.2.2.2.2.2++x1.2.2.2.2.2)++x2.2.2.2.2.2)
   some (nR x2 y0))
  else none)
 else none
abbrev qO7:Type:=(List zC)×Int×Int×(List qA)
abbrev qMn:Type:=List zC→Int→Int→Int→Int→List qA→Int→Int→Int→Int→Int→Int→Int→AC→Option qO7
def vm (k:Nat)(rec:qMn)(s8:List zC)(s9 aw dC cH:Int)(r0:List qA)(av aB aC aE aG aH aI:Int)(r2:AC):Option qO7:=
 bif decide (cH < dC) then (bif zB cH r2.length then ((oT k (r2.getD cH.toNat 0) 18 [av,aB,aC,aE]).bind fun x0=>
   bif zO (r0.length+1) 64 then(rec s8 s9 aw dC (zA (cH+1)) (r0++[x0]) av aB aC aE aG aH aI r2)
   else none)
  else none)
 else some (s8,s9,aw,r0)
def vl (k:Nat):Nat→qMn
 |0,_,_,_,_,_,_,_,_,_,_,_,_,_,_=>none
 |n+1,s8,s9,aw,dC,cH,r0,av,aB,aC,aE,aG,aH,aI,r2=>vm k (vl k n) s8 s9 aw dC cH r0 av aB aC aE aG aH aI r2
abbrev qVo:Type:=List qA
abbrev qM3:Type:=List zC→Int→Int→List qA→Option qVo
def Es (k:Nat)(rec:qM3)(s8:List zC)(s9 aw:Int)(r0:List qA):Option qVo:=
 bif decide (aw < s9) then (bif zB aw s8.length then ((vl k k s8 s9 aw 2 0 r0 (s8.getD aw.toNat (0,0,0,0,0,0,0)).1 (s8.getD aw.toNat (0,0,0,0,0,0,0)).2.1 (s8.getD aw.toNat (0,0,0,0,0,0,0)).2.2.1 (s8.getD aw.toNat (0,0,0,0,0,0,0)).2.2.2.1 (s8.getD aw.toNat (0,0,0,0,0,0,0)).2.2.2.2.1 (s8.getD aw.toNat (0,0,0,0,0,0,0)).2.2.2.2.2.1 (s8.getD aw.toNat (0,0,0,0,0,0,0)).2.2.2.2.2.2 [(s8.getD aw.toNat (0,0,0,0,0,0,0)).2.1,(s8.getD aw.toNat (0,0,0,0,0,0,0)).2.2.1]).bind fun z=>
   rec z.1 z.2.1 (zA (z.2.2.1+1)) z.2.2.2)
  else none)
 else some r0
def IW (k:Nat):Nat→qM3
 |0,_,_,_,_=>none
 |n+1,s8,s9,aw,r0=>Es k (IW k n) s8 s9 aw r0
def M8 (k:Nat)(a0:List zC):Option (List qA):=
 (IW k k a0 (a0.length:Int) 0 []).bind fun z1=>
 some z1
def ta (k:Nat)(lz:Int)(o6:List zK)(o9:EQ)(pb:AC)(pc:EQ)(pf:AC)(pg:EQ)(lA:List zC)(ph:AC)(pj:Int)(pn a1:Bool):Option PW:=
 (vj k o6 o9 pb pc lA lz a1).bind fun x0=>
 (M8 k x0.2.2.2.2.2).bind fun x1=>
 some (lz,(vO x0 (pf,pg,x0.2.2.2.2.1,ph,pj,pn,x1)))
abbrev qL2:Type:=Int×(List vI)×Int×Int×Int×Int×(List zK)×EQ×AC×EQ×AC×EQ×(List zC)×AC×Int×Bool×Int×Int×Bool×(List qA)×(List zC)
abbrev qHb:Type:=List zC→Int→Int→Int→List vI→Int→Int→Int→Int→List zK→EQ→AC→EQ→AC→EQ→List zC→AC→Int→Bool→Int→Int→Bool→List qA→List zC→Option qL2
def EC (k:Nat)(rec:qHb)(fe:List zC)(kJ fg ae:Int)(ah:List vI)(ai ag aX av:Int)(aB:List zK)(aC:EQ)(aE:AC)(aG:EQ)(aH:AC)(aI:EQ)(cy:List zC)(cz:AC)(bB:Int)(aS:Bool)(aY pv:Int)(kl:Bool)(r3:List qA)(r4:List zC):Option qL2:=
 bif decide (fg < kJ) then (bif zB fg fe.length then ((US k (fe.getD fg.toNat (0,0,0,0,0,0,0)).1 (fe.getD fg.toNat (0,0,0,0,0,0,0)).2.1 (fe.getD fg.toNat (0,0,0,0,0,0,0)).2.2.1 (fe.getD fg.toNat (0,0,0,0,0,0,0)).2.2.2.1 (fe.getD fg.toNat (0,0,0,0,0,0,0)).2.2.2.2.1 (fe.getD fg.toNat (0,0,0,0,0,0,0)).2.2.2.2.2.1 (fe.getD fg.toNat (0,0,0,0,0,0,0)).2.2.2.2.2.2 av).bind fun x2=>
   bif x2 then ((oT k (fe.getD fg.toNat (0,0,0,0,0,0,0)).2.1 21 [(fe.getD fg.toNat (0,0,0,0,0,0,0)).1]).bind fun x3=>
    bif zO (r3.length+1) 64 then(rec fe kJ (zA (fg+1)) ae ah ai ag aX av aB aC aE aG aH aI cy cz bB aS aY pv kl (r3++[x3]) r4)
    else none)
   else bif zO (r4.length + 1) 56 then (let y0:List zC:=(r4++[(fe.getD fg.toNat (0,0,0,0,0,0,0))])
    rec fe kJ (zA (fg+1)) ae ah ai ag aX av aB aC aE aG aH aI cy cz bB aS aY pv kl r3 y0)
   else none)
  else none)
 else some (ae,ah,ai,ag,aX,av,aB,aC,aE,aG,aH,aI,cy,cz,bB,aS,aY,pv,kl,r3,r4)
def EB (k:Nat):Nat→qHb
 |0,_,_,_,_,_,_,_,_,_,_,_,_,_,_,_,_,_,_,_,_,_,_,_,_=>none
 |n+1,fe,kJ,fg,ae,ah,ai,ag,aX,av,aB,aC,aE,aG,aH,aI,cy,cz,bB,aS,aY,pv,kl,r3,r4=>EC k (EB k n) fe kJ fg ae ah ai ag aX av aB aC aE aG aH aI cy cz bB aS aY pv kl r3 r4
def vq (k:Nat)(cZ:Int)(dI:List vI)(dJ de ca iE:Int)(cB:List zK)(dt:EQ)(du:AC)(dv:EQ)(fI:AC)(iF:EQ)(fJ:List zC)(pw:AC)(iG:Int)(iH:Bool):Option PW:=
 bif iH then some (iE,cB,dt,du,dv,fI,iF,fJ,pw,iG,iH,[])
 else(I1 k cZ dI dJ de ca (zA (iE+1))).bind fun x0=>
 bif x0 then ((Nb k (zA (iE+1)) cB dt du dv fI iF fJ pw iG iH).bind fun x1=>
  some (x1.1,x1.2.1,x1.2.2.1,x1.2.2.2.1,x1.2.2.2.2.1,x1.2.2.2.2.2.1,x1.2.2.2.2.2.2.1,x1.2.2.2.2.2.2.2.1,x1.2.2.2.2.2.2.2.2.1,x1.2.2.2.2.2.2.2.2.2.1,x1.2.2.2.2.2.2.2.2.2.2.1,x1.2.2.2.2.2.2.2.2.2.2.2))
 else(EB k k fJ (fJ.length:Int) 0 cZ dI dJ de ca (zA (iE+1)) cB dt du dv fI iF fJ pw iG iH 0 0 false [] []).bind fun z=>
 (ED k z.1 z.2.1 z.2.2.1 z.2.2.2.1 z.2.2.2.2.1 z.2.2.2.2.2.1).bind fun x4=>
 (ta k z.2.2.2.2.2.1 z.2.2.2.2.2.2.1 z.2.2.2.2.2.2.2.1 z.2.2.2.2.2.2.2.2.1 z.2.2.2.2.2.2.2.2.2.1 z.2.2.2.2.2.2.2.2.2.2.1 z.2.2.2.2.2.2.2.2.2.2.2.1 z.2.2.2.2.2.2.2.2.2.2.2.2.2.2.2.2.2.2.2.2 z.2.2.2.2.2.2.2.2.2.2.2.2.2.1 z.2.2.2.2.2.2.2.2.2.2.2.2.2.2.1 z.2.2.2.2.2.2.2.2.2.2.2.2.2.2.2.1 x4).bind fun x5=>
 bif zO (z.2.2.2.2.2.2.2.2.2.2.2.2.2.2.2.2.2.2.2.1.length + x5.2.2.2.2.2.2.2.2.2.2.2.length) 64 then (let y1:List qA:=(z.2.2.2.2.2.2.2.2.2.2.2.2.2.2.2.2.2.2.2.1++x5.2.2.2.2.2.2.2.2.2.2.2)
  some (xd x5 y1))
 else none
def yC4 (k:Nat)(a0:kH)(a1:Km):Option (Int×jC):=
 (vF k a1.2.1 0 (zA (a0.1-1))).bind fun x0=>
 bif !x0 then some (1,(vM a0 []))
 else(vF k a1.2.2.2.1 1 3).bind fun x1=>
 bif !x1 then some (1,(vM a0 []))
 else(EE k (yG a0) a0.2.2.2.2.2.1 (a1.1,a0.2.2.2.2.2.2.2.2.2.2.2.2.2.2.2.2,a1.2)).bind fun x2=>
 bif !(decide (x2=0)) then some (x2,(vM a0 []))
 else(DV k a0.2.2.2.2.2.2.2.2.2.2.2.2.2.1 a1.1).bind fun x3=>
 bif !(decide (x3.2=0)) then some (x3.2,(vM a0 []))
 else(uY k a0.2.2.2.2.2.2.2.2.2.2.2.2.1 (a1.1,a0.2.2.2.2.2.2.2.2.2.2.2.2.2.2.2.2,a1.2)).bind fun x4=>
 bif !(decide (x4.2=0)) then some (x4.2,(vM a0 []))
 else some (0,(iX a0 (x4.1,x3.1,a0.2.2.2.2.2.2.2.2.2.2.2.2.2.2.1,a0.2.2.2.2.2.2.2.2.2.2.2.2.2.2.2.1,a0.2.2.2.2.2.2.2.2.2.2.2.2.2.2.2.2,[])))
def Ph (k:Nat)(a0:kH)(a1:zC):Option (Int×jC):=
 (Zm k (vM a0 []) a1.2.1).bind fun x0=>
 bif !(decide (x0.2=0)) then some (x0.2,(vM a0 []))
 else bif decide (a1.1 = 2) then ((oO k a0.2.2.2.2.2.2.2.2.2.2.2.2.1 a1.2.1).bind fun x1=>
  (NS k (iX a0 (x1.1,a0.2.2.2.2.2.2.2.2.2.2.2.2.2)) 20 [a1.2.1]).bind fun x2=>
  some (x1.2.2.2.2.2.2.2.2,x2))
 else bif decide (a1.1 = 4) then ((vF k a1.2.2.1 1 3).bind fun x3=>
  bif !x3 then some (1,(vM a0 []))
  else(zt k (yG a0) a0.2.2.2.2.2.1 a1.2.2.1).bind fun x4=>
  bif !(decide (x4=0)) then some (x4,(vM a0 []))
  else(DO k a0.2.2.2.2.2.2.2.2.2.2.2.2.1 a1.2.1 a1.2.2.1).bind fun x5=>
  some (x5.2,(iX a0 (x5.1,(qW9 a0 [])))))
 else bif decide (a1.2.2.1 = 0) then ((DT k a0.2.2.2.2.2.2.2.2.2.2.2.2.1 a1.2.1).bind fun x6=>
  some (x6.2,(iX a0 (x6.1,(qW9 a0 [])))))
 else bif decide (a1.2.2.1 = 1) then ((DP k a0.2.2.2.2.2.2.2.2.2.2.2.2.1 a1.2.1).bind fun x7=>
  some (x7.2,(iX a0 (x7.1,(qW9 a0 [])))))
 else some (1,(vM a0 []))
def Pj (k:Nat)(a0:kH)(a1:zC):Option (Int×jC):=
 (fU k a0.2.2.2.2.2.2.1 a0.2.2.2.2.2.2.2.1 a0.2.2.2.2.2.2.2.2.1 a0.2.2.2.2.2.2.2.2.2.1).bind fun x0=>
 bif decide (a1.1 = 5) then ((Zw k (vM a0 []) a1.2.1).bind fun x1=>
  bif !x1 then some (1,(vM a0 []))
  else(vF k a1.2.2.1 (-1) 1152921504606846976).bind fun x2=>
  bif !x2 then some (1,(vM a0 []))
  else bif zB a0.2.2.2.2.2.2.2.2.2.2.2.2.2.2.2.2 x0.2.1.length then (bif zB a1.2.1 (x0.2.1.getD a0.2.2.2.2.2.2.2.2.2.2.2.2.2.2.2.2.toNat []).length then (let y0:EQ:=(x0.2.1.set a0.2.2.2.2.2.2.2.2.2.2.2.2.2.2.2.2.toNat ((x0.2.1.getD a0.2.2.2.2.2.2.2.2.2.2.2.2.2.2.2.2.toNat []).set a1.2.1.toNat a1.2.2.1))
    some (0,(wX a0 (x0.1,y0,x0.2.2.1,x0.2.2.2,(qPu a0 [])))))
   else none)
  else none)
 else bif decide (a1.1 = 6) then ((vF k a1.2.1 (-1) 1152921504606846976).bind fun x3=>
  bif !x3 then some (1,(vM a0 []))
  else bif zB a0.2.2.2.2.2.2.2.2.2.2.2.2.2.2.2.2 x0.2.2.1.length then (let y1:AC:=(x0.2.2.1.set a0.2.2.2.2.2.2.2.2.2.2.2.2.2.2.2.2.toNat a1.2.1)
   some (0,(wX a0 (x0.1,x0.2.1,y1,x0.2.2.2,(qPu a0 [])))))
  else none)
 else(vF k a1.2.1 0 1152921504606846976).bind fun x4=>
 bif !x4 then some (1,(vM a0 []))
 else bif zB a0.2.2.2.2.2.2.2.2.2.2.2.2.2.2.2.2 x0.1.length then (let y2:List zK:=(x0.1.set a0.2.2.2.2.2.2.2.2.2.2.2.2.2.2.2.2.toNat ((x0.1.getD a0.2.2.2.2.2.2.2.2.2.2.2.2.2.2.2.2.toNat (0,0,0)).1,(x0.1.getD a0.2.2.2.2.2.2.2.2.2.2.2.2.2.2.2.2.toNat (0,0,0)).2.1,a1.2.1))
  some (0,(wX a0 (y2,x0.2.1,x0.2.2.1,x0.2.2.2,(qPu a0 [])))))
 else none
def yWq (k:Nat)(a0:kH)(a1 a2:Int):Option (Int×jC):=
 (J6 k (vM a0 []) a1).bind fun x0=>
 bif !x0 then some (1,(vM a0 []))
 else(vF k a2 0 1099511627776).bind fun x1=>
 bif !x1 then some (1,(vM a0 []))
 else(EG k a0.2.2.2.2.2.2.2.2.2.2.2.1).bind fun x2=>
 bif zB a0.2.2.2.2.2.2.2.2.2.2.2.2.2.2.2.2 x2.length then ((oR k (x2.getD a0.2.2.2.2.2.2.2.2.2.2.2.2.2.2.2.2.toNat []) a1 a2).bind fun x3=>
  bif zB a0.2.2.2.2.2.2.2.2.2.2.2.2.2.2.2.2 x2.length then (let y0:EQ:=(x2.set a0.2.2.2.2.2.2.2.2.2.2.2.2.2.2.2.2.toNat x3)
   bif zB a0.2.2.2.2.2.2.2.2.2.2.2.2.2.2.2.2 y0.length then ((qn k a0.2.1 a0.2.2.2.2.2.2.2.2.2.2.1 (y0.getD a0.2.2.2.2.2.2.2.2.2.2.2.2.2.2.2.2.toNat [])).bind fun x4=>
    bif zB a0.2.2.2.2.2.2.2.2.2.2.2.2.2.2.2.2 a0.2.2.2.2.2.2.1.length then (bif !x4.2 then some (8,(vM a0 []))
     else bif decide (x4.1>1152921504606846976) then some (8,(vM a0 []))
     else bif decide (x4.1 < (a0.2.2.2.2.2.2.1.getD a0.2.2.2.2.2.2.2.2.2.2.2.2.2.2.2.2.toNat (0, 0, 0)).2.1) then (bif decide ((zA ((a0.2.2.2.2.2.2.1.getD a0.2.2.2.2.2.2.2.2.2.2.2.2.2.2.2.2.toNat (0,0,0)).1+x4.1))<0) then some (9,(vM a0 []))
      else(fU k a0.2.2.2.2.2.2.1 a0.2.2.2.2.2.2.2.1 a0.2.2.2.2.2.2.2.2.1 a0.2.2.2.2.2.2.2.2.2.1).bind fun x5=>
      bif zB a0.2.2.2.2.2.2.2.2.2.2.2.2.2.2.2.2 x5.1.length then (let y1:List zK:=(x5.1.set a0.2.2.2.2.2.2.2.2.2.2.2.2.2.2.2.2.toNat ((x5.1.getD a0.2.2.2.2.2.2.2.2.2.2.2.2.2.2.2.2.toNat (0,0,0)).1,x4.1,(x5.1.getD a0.2.2.2.2.2.2.2.2.2.2.2.2.2.2.2.2.toNat (0,0,0)).2.2))
       some (0,(wX a0 (y1,x5.2.1,x5.2.2.1,x5.2.2.2,a0.2.2.2.2.2.2.2.2.2.2.1,y0,(yQq a0 [])))))
      else none)
     else(fU k a0.2.2.2.2.2.2.1 a0.2.2.2.2.2.2.2.1 a0.2.2.2.2.2.2.2.2.1 a0.2.2.2.2.2.2.2.2.2.1).bind fun x6=>
     bif zB a0.2.2.2.2.2.2.2.2.2.2.2.2.2.2.2.2 x6.1.length then (let y2:List zK:=(x6.1.set a0.2.2.2.2.2.2.2.2.2.2.2.2.2.2.2.2.toNat ((x6.1.getD a0.2.2.2.2.2.2.2.2.2.2.2.2.2.2.2.2.toNat (0,0,0)).1,x4.1,(x6.1.getD a0.2.2.2.2.2.2.2.2.2.2.2.2.2.2.2.2.toNat (0,0,0)).2.2))
      some (0,(wX a0 (y2,x6.2.1,x6.2.2.1,x6.2.2.2,a0.2.2.2.2.2.2.2.2.2.2.1,y0,(yQq a0 [])))))
     else none)
    else none)
   else none)
  else none)
 else none
def EV (k:Nat)(a0:kH)(a1 a2 a3:Int):Option (Int×jC):=
 (vF k a2 0 (zA (a0.1-1))).bind fun x0=>
 bif !x0 then some (1,(vM a0 []))
 else(vF k a3 1 1099511627776).bind fun x1=>
 bif !x1 then some (1,(vM a0 []))
 else bif zB a2 a0.2.2.2.2.2.2.1.length then ((EW k (a0.2.2.2.2.2.2.1.getD a2.toNat (0,0,0)) a3).bind fun x2=>
  bif decide (a1 = 11) then ((EX k (a0.2.2.2.2.2.2.1.getD a2.toNat (0,0,0)) a3 3).bind fun x3=>
   (EY k (a0.2.2.2.2.2.2.1.getD a2.toNat (0,0,0)) 3).bind fun x4=>
   bif decide (x4<a3) then some (9,(vM a0 []))
   else bif decide ((zA (a0.2.2.2.2.2.2.2.2.2.2.2.2.2.2.1-a3))<0) then some (9,(vM a0 []))
   else bif !(decide (x3.2=0)) then some (x3.2,(vM a0 []))
   else bif decide ((zA (a0.2.2.2.2.2.2.2.2.2.2.2.2.2.2.1-a3))>1152921504606846976) then some (8,(vM a0 []))
   else(fU k a0.2.2.2.2.2.2.1 a0.2.2.2.2.2.2.2.1 a0.2.2.2.2.2.2.2.2.1 a0.2.2.2.2.2.2.2.2.2.1).bind fun x5=>
   bif zB a2 x5.1.length then some (0,(wX a0 ((x5.1.set a2.toNat x3.1),x5.2.1,x5.2.2.1,x5.2.2.2,(F4 a0 ((zA (a0.2.2.2.2.2.2.2.2.2.2.2.2.2.2.1-a3)),a0.2.2.2.2.2.2.2.2.2.2.2.2.2.2.2.1,a0.2.2.2.2.2.2.2.2.2.2.2.2.2.2.2.2,[])))))
   else none)
  else bif !(decide (x2.2=0)) then some (x2.2,(vM a0 []))
  else bif decide ((zA (a0.2.2.2.2.2.2.2.2.2.2.2.2.2.2.1+a3))>1152921504606846976) then some (8,(vM a0 []))
  else(fU k a0.2.2.2.2.2.2.1 a0.2.2.2.2.2.2.2.1 a0.2.2.2.2.2.2.2.2.1 a0.2.2.2.2.2.2.2.2.2.1).bind fun x6=>
  bif zB a2 x6.1.length then some (0,(wX a0 ((x6.1.set a2.toNat x2.1),x6.2.1,x6.2.2.1,x6.2.2.2,(F4 a0 ((zA (a0.2.2.2.2.2.2.2.2.2.2.2.2.2.2.1+a3)),a0.2.2.2.2.2.2.2.2.2.2.2.2.2.2.2.1,a0.2.2.2.2.2.2.2.2.2.2.2.2.2.2.2.2,[])))))
  else none)
 else none
abbrev qJj:Type:=(kH×AC×(List zK)×EQ×AC×EQ)⊕(Int×kH)
abbrev qQy:Type:=EQ→Int→Int→kH→AC→List zK→EQ→AC→EQ→Option qJj
def E0 (k:Nat)(rec:qQy)(ga:EQ)(ix kk:Int)(b0:kH)(r1:AC)(r3:List zK)(m4:EQ)(r5:AC)(m6:EQ):Option qJj:=
 bif decide (kk < ix) then (bif zB kk ga.length then ((qn k b0.2.1 r1 (ga.getD kk.toNat [])).bind fun x4=>
   bif !x4.2 then some (.inr (8,b0))
   else bif decide (x4.1>1152921504606846976) then some (.inr (8,b0))
   else bif zB kk r3.length then (let y0:List zK:=(r3.set kk.toNat ((r3.getD kk.toNat (0,0,0)).1,x4.1,(r3.getD kk.toNat (0,0,0)).2.2))
    rec ga ix (zA (kk+1)) b0 r1 y0 m4 r5 m6)
   else none)
  else none)
 else some (.inl (b0,r1,r3,m4,r5,m6))
def tj (k:Nat):Nat→qQy:=yC (fun _ _ _ _ _ _ _ _ _=>none) (E0 k)
def Nw (k:Nat)(a0:kH)(a1 a2:Int):Option (Int×jC):=
 (J6 k (vM a0 []) a1).bind fun x0=>
 bif !x0 then some (1,(vM a0 []))
 else(vF k a2 0 1048576).bind fun x1=>
 bif !x1 then some (1,(vM a0 []))
 else(oR k a0.2.2.2.2.2.2.2.2.2.2.1 a1 a2).bind fun x2=>
 (fU k a0.2.2.2.2.2.2.1 a0.2.2.2.2.2.2.2.1 a0.2.2.2.2.2.2.2.2.1 a0.2.2.2.2.2.2.2.2.2.1).bind fun x3=>
 (tj k k a0.2.2.2.2.2.2.2.2.2.2.2.1 (a0.2.2.2.2.2.2.2.2.2.2.2.1.length:Int) 0 a0 x2 x3.1 x3.2.1 x3.2.2.1 x3.2.2.2).bind fun z=>
 match z with
 |.inl z1=>some (0,(wX z1.1 (z9 z1 (z1.2.1,(Vj z1.1 [])))))
 |.inr z2=>some (wY z2 [])
def Fv (k:Nat)(a0:kH)(a1:zC):Option (Int×jC):=
 bif decide (a1.1 = 1) then ((yC4 k a0 a1.2).bind fun x0=>
  some (x0.1,x0.2))
 else bif decide (a1.1 = 2) then ((Ph k a0 a1).bind fun x1=>
  some (x1.1,x1.2))
 else bif decide (a1.1 = 3) then ((Ph k a0 a1).bind fun x2=>
  some (x2.1,x2.2))
 else bif decide (a1.1 = 4) then ((Ph k a0 a1).bind fun x3=>
  some (x3.1,x3.2))
 else bif decide (a1.1 = 5) then ((Pj k a0 a1).bind fun x4=>
  some (x4.1,x4.2))
 else bif decide (a1.1 = 6) then ((Pj k a0 a1).bind fun x5=>
  some (x5.1,x5.2))
 else bif decide (a1.1 = 7) then ((Pj k a0 a1).bind fun x6=>
  some (x6.1,x6.2))
 else bif decide (a1.1 = 8) then ((yWq k a0 a1.2.1 a1.2.2.1).bind fun x7=>
  some (x7.1,x7.2))
 else bif decide (a1.1 = 10) then ((EV k a0 a1.1 a1.2.1 a1.2.2.1).bind fun x8=>
  some (x8.1,x8.2))
 else bif decide (a1.1 = 11) then ((EV k a0 a1.1 a1.2.1 a1.2.2.1).bind fun x9=>
  some (x9.1,x9.2))
 else bif decide (a1.1 = 12) then ((Nw k a0 a1.2.1 a1.2.2.1).bind fun di=>
  some (di.1,di.2))
 else some (0,(vM a0 []))
def mg (k:Nat)(a0:yO)(a1:yT)(a2:qA):Option (yT×(List qA)×Int):=
 (tz k a0 a1 a2).bind fun x0=>
 bif !(decide (x0=0)) then some (a1,[],x0)
 else bif decide (a2.2.1 = 9) then ((Jz k a1 a2.1).bind fun x1=>
  some (a1,x1,0))
 else bif !(decide (a2.1 = (-1))) then ((NS k (wS a0 (wA a1 a2.1)) 15 []).bind fun x2=>
  (NP k x2 a2.2).bind fun x3=>
  bif !(decide (x3.1=0)) then some (a1,[],x3.1)
  else bif decide (a2.2.1 = 14) then ((vq k a0.1 a0.2.1 a0.2.2.1 a0.2.2.2.1 a0.2.2.2.2 a1.1 a1.2.1 a1.2.2.1 a1.2.2.2.1 a1.2.2.2.2.1 a1.2.2.2.2.2.1 a1.2.2.2.2.2.2.1 a1.2.2.2.2.2.2.2.1 a1.2.2.2.2.2.2.2.2.1 a1.2.2.2.2.2.2.2.2.2.1 a1.2.2.2.2.2.2.2.2.2.2).bind fun x4=>
   some ((qZ x4),x4.2.2.2.2.2.2.2.2.2.2.2,0))
  else(ta k x3.2.2.2.2.2.2.1 x3.2.2.2.2.2.2.2.1 x3.2.2.2.2.2.2.2.2.1 x3.2.2.2.2.2.2.2.2.2.1 x3.2.2.2.2.2.2.2.2.2.2.1 x3.2.2.2.2.2.2.2.2.2.2.2.1 x3.2.2.2.2.2.2.2.2.2.2.2.2.1 x3.2.2.2.2.2.2.2.2.2.2.2.2.2.1 x3.2.2.2.2.2.2.2.2.2.2.2.2.2.2.1 x3.2.2.2.2.2.2.2.2.2.2.2.2.2.2.2.1 x3.2.2.2.2.2.2.2.2.2.2.2.2.2.2.2.2.1 (decide (a2.2.1=13))).bind fun x5=>
  bif zO (x3.2.2.2.2.2.2.2.2.2.2.2.2.2.2.2.2.2.2.length + x5.2.2.2.2.2.2.2.2.2.2.2.length) 64 then (let y0:List qA:=(x3.2.2.2.2.2.2.2.2.2.2.2.2.2.2.2.2.2.2++x5.2.2.2.2.2.2.2.2.2.2.2)
   bif decide (a2.2.1 = 1) then ((nE k x5.2.2.2.2.2.2.2.1 a2.2.2.1).bind fun x6=>
    bif decide (x6 ≥ 0) then ((vt k (NR x3 y0) 19 [a2.2.2.1]).bind fun x7=>
     some ((qZ x5),x7.2.2.2.2.2.2.2.2.2.2.2.2.2.2.2.2.2,0))
    else some ((qZ x5),y0,0))
   else some ((qZ x5),y0,0))
  else none)
 else(Fv k (wS a0 (wA a1 a2.1)) a2.2).bind fun x8=>
 bif !(decide (x8.1=0)) then some (a1,[],x8.1)
 else bif decide (a2.2.1 = 14) then ((vq k a0.1 a0.2.1 a0.2.2.1 a0.2.2.2.1 a0.2.2.2.2 a1.1 a1.2.1 a1.2.2.1 a1.2.2.2.1 a1.2.2.2.2.1 a1.2.2.2.2.2.1 a1.2.2.2.2.2.2.1 a1.2.2.2.2.2.2.2.1 a1.2.2.2.2.2.2.2.2.1 a1.2.2.2.2.2.2.2.2.2.1 a1.2.2.2.2.2.2.2.2.2.2).bind fun x9=>
  some ((qZ x9),x9.2.2.2.2.2.2.2.2.2.2.2,0))
 else(ta k x8.2.2.2.2.2.2.1 x8.2.2.2.2.2.2.2.1 x8.2.2.2.2.2.2.2.2.1 x8.2.2.2.2.2.2.2.2.2.1 x8.2.2.2.2.2.2.2.2.2.2.1 x8.2.2.2.2.2.2.2.2.2.2.2.1 x8.2.2.2.2.2.2.2.2.2.2.2.2.1 x8.2.2.2.2.2.2.2.2.2.2.2.2.2.1 x8.2.2.2.2.2.2.2.2.2.2.2.2.2.2.1 x8.2.2.2.2.2.2.2.2.2.2.2.2.2.2.2.1 x8.2.2.2.2.2.2.2.2.2.2.2.2.2.2.2.2.1 (decide (a2.2.1=13))).bind fun di=>
 bif zO (x8.2.2.2.2.2.2.2.2.2.2.2.2.2.2.2.2.2.2.length + di.2.2.2.2.2.2.2.2.2.2.2.length) 64 then (let y1:List qA:=(x8.2.2.2.2.2.2.2.2.2.2.2.2.2.2.2.2.2.2++di.2.2.2.2.2.2.2.2.2.2.2)
  bif decide (a2.2.1 = 1) then ((nE k di.2.2.2.2.2.2.2.1 a2.2.2.1).bind fun fD=>
   bif decide (fD ≥ 0) then ((vt k (NR x8 y1) 19 [a2.2.2.1]).bind fun lB=>
    some ((qZ di),lB.2.2.2.2.2.2.2.2.2.2.2.2.2.2.2.2.2,0))
   else some ((qZ di),y1,0))
  else some ((qZ di),y1,0))
 else none
def wo (k:Nat)(bb:fZ)(dw:vN)(a1:AC):Option (Int×fZ×vN):=
 (N8 k dw (zA (1-bb.1)) (zA (bb.2.1+1)) a1).bind fun x0=>
 bif decide (x0.1=0) then some (x0.1,((zA (1-bb.1)),(zA (bb.2.1+1)),0,false),x0.2)
 else some (x0.1,bb,x0.2)
def yOw (k:Nat)(a0:Int):Option Bool:=
 (vF k a0 0 1048576).bind fun x0=>
 some (!x0)
abbrev qQx:Type:=AC→Int→Int→Option (Unit⊕Int)
def yKz (k:Nat)(rec:qQx)(s0:AC)(s7 s8:Int):Option (Unit⊕Int):=
 bif decide (s8 < s7) then (bif zB s8 s0.length then ((yOw k (s0.getD s8.toNat 0)).bind fun x0=>
   bif x0 then some (.inr s8)
   else rec s0 s7 (zA (s8+1)))
  else none)
 else some (.inl ())
def Pn (k:Nat):Nat→qQx
 |0,_,_,_=>none
 |n+1,s0,s7,s8=>yKz k (Pn k n) s0 s7 s8
def yIp (k:Nat)(a0:AC):Option Int:=
 (Pn k k a0 (a0.length:Int) 0).bind fun z=>
 match z with
 |.inl z1=>some (-1)
 |.inr z2=>some z2
def yAz (k:Nat)(a0:AC):Option Bool:=
 (yIp k a0).bind fun x0=>
 some (decide (x0≥0))
def yL3 (k:Nat)(a0:Int):Option Bool:=
 some (decide (a0>1099511627776))
abbrev qIn:Type:=AC→Int→Int→Option (Unit⊕Int)
def yJm (k:Nat)(rec:qIn)(s0:AC)(s7 s8:Int):Option (Unit⊕Int):=
 bif decide (s8 < s7) then (bif zB s8 s0.length then ((yL3 k (s0.getD s8.toNat 0)).bind fun x0=>
   bif x0 then some (.inr s8)
   else rec s0 s7 (zA (s8+1)))
  else none)
 else some (.inl ())
def Po (k:Nat):Nat→qIn
 |0,_,_,_=>none
 |n+1,s0,s7,s8=>yJm k (Po k n) s0 s7 s8
def yPd (k:Nat)(a0:AC):Option Int:=
 (Po k k a0 (a0.length:Int) 0).bind fun z=>
 match z with
 |.inl z1=>some (-1)
 |.inr z2=>some z2
def yGu (k:Nat)(a0:AC):Option Bool:=
 (yPd k a0).bind fun x0=>
 some (decide (x0≥0))
abbrev qSw:Type:=EQ→Int→Int→yO→yT→Option (Unit⊕Bool)
def yN6 (k:Nat)(rec:qSw)(kJ:EQ)(fg lD:Int)(b0:yO)(b1:yT):Option (Unit⊕Bool):=
 bif decide (lD < fg) then (bif zB lD kJ.length then ((qn k b0.2.1 b1.2.2.2.2.2.1 (kJ.getD lD.toNat [])).bind fun x1=>
   bif !x1.2 then some (.inr false)
   else bif decide (x1.1>1152921504606846976) then some (.inr false)
   else bif zB lD b1.2.1.length then (bif !(decide (x1.1=(b1.2.1.getD lD.toNat (0,0,0)).2.1)) then some (.inr false)
    else(yGu k (kJ.getD lD.toNat [])).bind fun x2=>
    bif x2 then some (.inr false)
    else rec kJ fg (zA (lD+1)) b0 b1)
   else none)
  else none)
 else some (.inl ())
def qV0 (k:Nat):Nat→qSw:=yC (fun _ _ _ _ _=>none) (yN6 k)
def yJi (k:Nat)(a0:yO)(a1:yT):Option Bool:=
 bif !(decide ((a1.2.2.2.2.2.1.length:Int)=(a0.2.1.length:Int))) then some false
 else bif !(decide ((a1.2.2.2.2.2.2.1.length:Int)=a0.1)) then some false
 else(yAz k a1.2.2.2.2.2.1).bind fun x0=>
 bif x0 then some false
 else(qV0 k k a1.2.2.2.2.2.2.1 (a1.2.2.2.2.2.2.1.length:Int) 0 a0 a1).bind fun z=>
 match z with
 |.inl z1=>some true
 |.inr z2=>some z2
abbrev qJ3:Type:=List zC→Int→Option (Unit⊕Bool)
def ySb (k:Nat)(rec:qJ3)(s0:List zC)(s5:Int):Option (Unit⊕Bool):=
 bif decide (s5 > 0) then (bif zB s5 s0.length then (bif zB (zA (s5 - 1)) s0.length then ((DJ k (s0.getD s5.toNat (0,0,0,0,0,0,0)).1 (s0.getD s5.toNat (0,0,0,0,0,0,0)).2.1 (s0.getD s5.toNat (0,0,0,0,0,0,0)).2.2.1 (s0.getD s5.toNat (0,0,0,0,0,0,0)).2.2.2.1 (s0.getD s5.toNat (0,0,0,0,0,0,0)).2.2.2.2.1 (s0.getD s5.toNat (0,0,0,0,0,0,0)).2.2.2.2.2.1 (s0.getD s5.toNat (0,0,0,0,0,0,0)).2.2.2.2.2.2 (s0.getD (zA (s5-1)).toNat (0,0,0,0,0,0,0)).1 (s0.getD (zA (s5-1)).toNat (0,0,0,0,0,0,0)).2.1 (s0.getD (zA (s5-1)).toNat (0,0,0,0,0,0,0)).2.2.1 (s0.getD (zA (s5-1)).toNat (0,0,0,0,0,0,0)).2.2.2.1 (s0.getD (zA (s5-1)).toNat (0,0,0,0,0,0,0)).2.2.2.2.1 (s0.getD (zA (s5-1)).toNat (0,0,0,0,0,0,0)).2.2.2.2.2.1 (s0.getD (zA (s5-1)).toNat (0,0,0,0,0,0,0)).2.2.2.2.2.2).bind fun x0=>
    bif decide (x0<0) then some (.inr false)
    else rec s0 (zA (s5-1)))
   else none)
  else none)
 else some (.inl ())
def qW5 (k:Nat):Nat→qJ3:=yC (fun _ _=>none) (ySb k)
def yXz (k:Nat)(a0:List zC):Option Bool:=
 (qW5 k k a0 (zA ((a0.length:Int)-1))).bind fun z=>
 match z with
 |.inl z1=>some true
 |.inr z2=>some z2
abbrev qRb:Type:=(List zC)⊕Bool
abbrev qR6:Type:=List zC→List zC→Int→Int→Option qRb
def yKe (k:Nat)(rec:qR6)(s0 s5:List zC)(s6 s7:Int):Option qRb:=
 bif decide (s7 < s6) then (bif zB s7 s5.length then ((nE k s0 (s5.getD s7.toNat (0,0,0,0,0,0,0)).1).bind fun x0=>
   bif !(decide (x0=s7)) then some (.inr false)
   else rec s0 s5 s6 (zA (s7+1)))
  else none)
 else some (.inl s0)
def Pq (k:Nat):Nat→qR6
 |0,_,_,_,_=>none
 |n+1,s0,s5,s6,s7=>yKe k (Pq k n) s0 s5 s6 s7
def yId (k:Nat)(a0:List zC):Option Bool:=
 (Pq k k a0 a0 (a0.length:Int) 0).bind fun z=>
 match z with
 | .inl z1 => bif decide ((z1.length : Int) ≤ 40) then ((yXz k z1).bind fun x1=>
   some x1)
  else some false
 |.inr z2=>some z2
abbrev qPo:Type:=AC→Int→AC→Int→Int→Option (AC⊕Bool)
def yHp (k:Nat)(rec:qPo)(s0:AC)(s3:Int)(s6:AC)(s7 s8:Int):Option (AC⊕Bool):=
 bif decide (s8 < s7) then (bif zB s8 s6.length then (bif decide ((s6.getD s8.toNat 0)≤s3) then some (.inr false)
   else rec s0 (s6.getD s8.toNat 0) s6 s7 (zA (s8+1)))
  else none)
 else some (.inl s0)
def qRp (k:Nat):Nat→qPo:=yC (fun _ _ _ _ _=>none) (yHp k)
def yJa (k:Nat)(a0:AC):Option Bool:=
 (qRp k k a0 0 a0 (a0.length:Int) 0).bind fun z=>
 match z with
 |.inl z1=>some (decide ((z1.length:Int)≤200))
 |.inr z2=>some z2
def yA4 (k:Nat)(a0:AC)(a1:Int):Option Bool:=
 (DU k a0 a1).bind fun x0=>
 some x0.2
def yN1 (k:Nat)(a0:zC)(a1:yT):Option Bool:=
 (CP k a1.2.1 a1.2.2.1 a1.2.2.2.1 a1.2.2.2.2.1 a0.1 a0.2.1 a0.2.2.1 a0.2.2.2.1 a0.2.2.2.2.1 a0.2.2.2.2.2.1 a0.2.2.2.2.2.2).bind fun x0=>
 bif !x0 then some true
 else bif decide (a0.2.2.2.2.2.1<0) then some true
 else(vF k a0.2.2.2.2.2.2 a0.2.2.2.2.2.1 1048576).bind fun x1=>
 bif !x1 then some true
 else(yA4 k a1.2.2.2.2.2.2.2.2.1 a0.1).bind fun x2=>
 some (!x2)
abbrev qWv:Type:=List zC→Int→Int→Int→List zK→EQ→AC→EQ→AC→EQ→List zC→AC→Int→Bool→Option (Unit⊕Int)
def yDk (k:Nat)(rec:qWv)(s0:List zC)(s7 s8 ae:Int)(ah:List zK)(ai:EQ)(ag:AC)(aX:EQ)(bh:AC)(bj:EQ)(dK:List zC)(dL:AC)(dM:Int)(bS:Bool):Option (Unit⊕Int):=
 bif decide (s8 < s7) then (bif zB s8 s0.length then ((yN1 k (s0.getD s8.toNat (0,0,0,0,0,0,0)) (ae,ah,ai,ag,aX,bh,bj,dK,dL,dM,bS)).bind fun x0=>
   bif x0 then some (.inr s8)
   else rec s0 s7 (zA (s8+1)) ae ah ai ag aX bh bj dK dL dM bS)
  else none)
 else some (.inl ())
def Pr (k:Nat):Nat→qWv
 |0,_,_,_,_,_,_,_,_,_,_,_,_,_,_=>none
 |n+1,s0,s7,s8,ae,ah,ai,ag,aX,bh,bj,dK,dL,dM,bS=>yDk k (Pr k n) s0 s7 s8 ae ah ai ag aX bh bj dK dL dM bS
def yFo (k:Nat)(a0:List zC)(fK:Int)(bK:List zK)(cC:EQ)(cD:AC)(cE:EQ)(dy:AC)(ek:EQ)(fL:List zC)(iI:AC)(eu:Int)(fM:Bool):Option Int:=
 (Pr k k a0 (a0.length:Int) 0 fK bK cC cD cE dy ek fL iI eu fM).bind fun z=>
 match z with
 |.inl z1=>some (-1)
 |.inr z2=>some z2
def yD8 (k:Nat)(a0:List zC)(fK:Int)(bK:List zK)(cC:EQ)(cD:AC)(cE:EQ)(dy:AC)(ek:EQ)(fL:List zC)(iI:AC)(eu:Int)(fM:Bool):Option Bool:=
 (yFo k a0 fK bK cC cD cE dy ek fL iI eu fM).bind fun x0=>
 some (decide (x0≥0))
def vBd (k:Nat)(a0:yT):Option Bool:=
 (yId k a0.2.2.2.2.2.2.2.1).bind fun x0=>
 bif x0 then ((yJa k a0.2.2.2.2.2.2.2.2.1).bind fun x1=>
  bif x1 then ((yD8 k a0.2.2.2.2.2.2.2.1 a0.1 a0.2.1 a0.2.2.1 a0.2.2.2.1 a0.2.2.2.2.1 a0.2.2.2.2.2.1 a0.2.2.2.2.2.2.1 a0.2.2.2.2.2.2.2.1 a0.2.2.2.2.2.2.2.2.1 a0.2.2.2.2.2.2.2.2.2.1 a0.2.2.2.2.2.2.2.2.2.2).bind fun x2=>
   some (!x2))
  else some false)
 else some false
abbrev qK4:Type:=yO×yT×AC
abbrev qP0:Type:=List zK→Int→Int→yO→yT→AC→Option qK4
def yAb (k:Nat)(rec:qP0)(mZ:List zK)(s45 P2:Int)(b0:yO)(b1:yT)(r2:AC):Option qK4:=
 bif decide (P2 < s45) then (bif zB P2 mZ.length then (bif zO (r2.length+1) 8 then(rec mZ s45 (zA (P2+1)) b0 b1 (r2++[(mZ.getD P2.toNat (0,0,0)).1]))
   else none)
  else none)
 else some (b0,b1,r2)
def qPe (k:Nat):Nat→qP0:=yC (fun _ _ _ _ _ _=>none) (yAb k)
def Ps (k:Nat)(a0:yO)(a1:yT):Option Bool:=
 (vF k a1.1 0 a0.2.2.2.1).bind fun x0=>
 bif !x0 then some false
 else(HN k a1.2.1 a1.2.2.1 a1.2.2.2.1 a1.2.2.2.2.1).bind fun x1=>
 bif !x1 then some false
 else bif !(decide ((a1.2.1.length:Int)=a0.1)) then some false
 else(yJi k a0 a1).bind fun x2=>
 bif !x2 then some false
 else(vBd k a1).bind fun x3=>
 bif !x3 then some false
 else(qPe k k a1.2.1 (a1.2.1.length:Int) 0 a0 a1 []).bind fun z=>
 (IC k z.2.2).bind fun x4=>
 bif !x4.2 then some false
 else bif !(decide (x4.1=z.2.1.2.2.2.2.2.2.2.2.2.1)) then some false
 else(vF k x4.1 0 1152921504606846976).bind fun x5=>
 bif !x5 then some false
 else(I1 k z.1.1 z.1.2.1 z.1.2.2.1 z.1.2.2.2.1 z.1.2.2.2.2 z.2.1.1).bind fun x6=>
 bif nU z.2.1.2.2.2.2.2.2.2.2.2.2 x6 then (bif !z.2.1.2.2.2.2.2.2.2.2.2.2 then some true
  else some (decide ((z.2.1.2.2.2.2.2.2.2.1.length:Int)=0)))
 else some false
abbrev qTw:Type:=Int×Bool×xj×AC×AC×yO×fZ×yT
abbrev qIb:Type:=Int→Bool→EQ→Int→Int→xj→AC→AC→yO→fZ→yT→Option qTw
def yTb (k:Nat)(rec:qIb)(s2:Int)(bx:Bool)(P3:EQ)(Be px:Int)(b0:xj)(r1 r2:AC)(b3:yO)(b4:fZ)(b5:yT):Option qTw:=
 bif decide (px < Be) then (bif zB px P3.length then ((YR k (P3.getD px.toNat [])).bind fun x8=>
   bif decide (x8.2 = 0) then ((mg k b3 b5 x8.1).bind fun x9=>
    rec s2 bx P3 Be (zA (px+1)) b0 r1 r2 b3 b4 x9.1)
   else rec s2 bx P3 Be (zA (px+1)) b0 r1 r2 b3 b4 b5)
  else none)
 else some (s2,bx,b0,r1,r2,b3,b4,b5)
def Kc (k:Nat):Nat→qIb:=yC (fun _ _ _ _ _ _ _ _ _ _ _=>none) (yTb k)
def rj (k:Nat)(a0:yO)(a1:vN)(a2:Int):Option ((Int×vN×nT×fZ)⊕(Int×vN)):=
 (AY k a0).bind fun x0=>
 bif !x0 then some (.inr (1,a1))
 else bif decide (a2<1) then some (.inr (1,a1))
 else bif decide (a2>1000) then some (.inr (1,a1))
 else(X2 k a1).bind fun x1=>
 (oV k a0).bind fun x2=>
 (kB k x2).bind fun x3=>
 (yS3 k a1 x3).bind fun x4=>
 match x4 with
 |.inl x5=>bif !(decide (x5.2.2.1=0)) then some (.inr (x5.2.2.1,x5.2.2.2.1))
  else(OO k x5.1).bind fun x6=>
  bif !x6.2 then ((oV k a0).bind fun x7=>
   (Kc k k a2 x1.2.2.2.2 x5.2.1 (x5.2.1.length:Int) 0 (x5.2.2.2.1.1,x5.2.2.2.1.2.2.1,x5.2.2.2.1.2.2.2.2) x5.2.2.2.1.2.1 x5.2.2.2.1.2.2.2.1 a0 x5.2.2.2.2 x7).bind fun z=>
   bif z.2.1 then ((kB k z.2.2.2.2.2.2.2).bind fun di=>
    (wo k z.2.2.2.2.2.2.1 (z.2.2.1.1,z.2.2.2.1,z.2.2.1.2.1,z.2.2.2.2.1,z.2.2.1.2.2) di).bind fun fD=>
    bif !(decide (fD.1=0)) then some (.inr (fD.1,fD.2.2))
    else some (.inl (0,fD.2.2,(wS z.2.2.2.2.2.1 (F6 z (z.1,false))),fD.2.1)))
   else some (.inl (0,(z.2.2.1.1,z.2.2.2.1,z.2.2.1.2.1,z.2.2.2.2.1,z.2.2.1.2.2),(wS z.2.2.2.2.2.1 (F6 z (z.1,false))),z.2.2.2.2.2.2.1)))
  else(Ps k a0 x6.1).bind fun lB=>
  bif !lB then ((oV k a0).bind fun lC=>
   (Kc k k a2 x1.2.2.2.2 x5.2.1 (x5.2.1.length:Int) 0 (x5.2.2.2.1.1,x5.2.2.2.1.2.2.1,x5.2.2.2.1.2.2.2.2) x5.2.2.2.1.2.1 x5.2.2.2.1.2.2.2.1 a0 x5.2.2.2.2 lC).bind fun z1=>
   bif z1.2.1 then ((kB k z1.2.2.2.2.2.2.2).bind fun pq=>
    (wo k z1.2.2.2.2.2.2.1 (z1.2.2.1.1,z1.2.2.2.1,z1.2.2.1.2.1,z1.2.2.2.2.1,z1.2.2.1.2.2) pq).bind fun bQ=>
    bif !(decide (bQ.1=0)) then some (.inr (bQ.1,bQ.2.2))
    else some (.inl (0,bQ.2.2,(wS z1.2.2.2.2.2.1 (F6 z1 (z1.1,false))),bQ.2.1)))
   else some (.inl (0,(z1.2.2.1.1,z1.2.2.2.1,z1.2.2.1.2.1,z1.2.2.2.2.1,z1.2.2.1.2.2),(wS z1.2.2.2.2.2.1 (F6 z1 (z1.1,false))),z1.2.2.2.2.2.2.1)))
  else(Kc k k a2 x1.2.2.2.2 x5.2.1 (x5.2.1.length:Int) 0 (x5.2.2.2.1.1,x5.2.2.2.1.2.2.1,x5.2.2.2.1.2.2.2.2) x5.2.2.2.1.2.1 x5.2.2.2.1.2.2.2.1 a0 x5.2.2.2.2 x6.1).bind fun z2=>
  bif z2.2.1 then ((kB k z2.2.2.2.2.2.2.2).bind fun xh=>
   (wo k z2.2.2.2.2.2.2.1 (z2.2.2.1.1,z2.2.2.2.1,z2.2.2.1.2.1,z2.2.2.2.2.1,z2.2.2.1.2.2) xh).bind fun gn=>
   bif !(decide (gn.1=0)) then some (.inr (gn.1,gn.2.2))
   else some (.inl (0,gn.2.2,(wS z2.2.2.2.2.2.1 (F6 z2 (z2.1,false))),gn.2.1)))
  else some (.inl (0,(z2.2.2.1.1,z2.2.2.2.1,z2.2.2.1.2.1,z2.2.2.2.2.1,z2.2.2.1.2.2),(wS z2.2.2.2.2.2.1 (F6 z2 (z2.1,false))),z2.2.2.2.2.2.2.1))
 |.inr xi=>bif !(decide (xi.2.2.1=0)) then some (.inr (xi.2.2.1,xi.2.2.2))
  else(OO k xi.1).bind fun F5=>
  bif !F5.2 then ((oV k a0).bind fun iY=>
   none)
  else(Ps k a0 F5.1).bind fun tL=>
  bif !tL then ((oV k a0).bind fun PY=>
   none)
  else none
def AV (k:Nat)(bb:nT)(dw:fZ)(lG:vN):Option (Bool×nT×fZ×vN):=
 some (bb.2.2.2.2.2.2.2.2.2.2.2.2.2.2.2.2.2,bb,dw,lG)
def Ke (k:Nat)(a0 a1:Int):Option (List qA):=
 some [(a0,16,a1,0,0,0,0,0)]
def V6 (k:Nat)(a0:zC):Option AC:=
 (qy k a0).bind fun x0=>
 bif !x0 then some []
 else(tw k a0.1).bind fun x1=>
 bif (decide (0 ≤ x1)) && (decide (x1 ≤ 6)) then ((wk k (qW [a0.2.1,a0.2.2.1,a0.2.2.2.1,a0.2.2.2.2.1,a0.2.2.2.2.2.1,a0.2.2.2.2.2.2] 0 (x1.toNat-0))).bind fun x2=>
  bif zO (1+x2.length) 1 then some ([(IntKind.wrap .u8 (a0.1))]++x2)
  else none)
 else none
def N9 (k:Nat)(a0:qA):Option AC:=
 (V6 k a0.2).bind fun x0=>
 bif decide ((x0.length:Int)=0) then some []
 else(wk k [a0.1]).bind fun x1=>
 bif zO (x1.length+x0.length) 1 then some (x1++x0)
 else none
def AT (k:Nat)(bb:fZ)(dw:vN)(a1:AC):Option (Int×fZ×vN):=
 (JJ k a1).bind fun x0=>
 bif !x0.2 then some (10,bb,dw)
 else bif bb.2.2.2 then some (10,bb,dw)
 else(tF k dw bb.1 x0.1).bind fun x1=>
 bif decide (x1.1=3) then some (10,bb,x1.2)
 else bif decide (x1.1 = 0) then ((JH k x1.2).bind fun x2=>
  bif decide (x2.1=0) then some (x2.1,(bb.1,bb.2.1,(zA (bb.2.2.1+1)),bb.2.2.2),x2.2)
  else some (x2.1,bb,x2.2))
 else bif decide (x1.1=0) then some (x1.1,(bb.1,bb.2.1,(zA (bb.2.2.1+1)),bb.2.2.2),x1.2)
 else some (x1.1,bb,x1.2)
def Oa (k:Nat)(bb:nT)(dw:fZ)(lG:vN)(a1:AC):Option (Int×nT×fZ×vN):=
 (AT k dw lG a1).bind fun x0=>
 bif !(decide (x0.1=10)) then some (x0.1,bb,x0.2.1,x0.2.2)
 else(kB k (rf bb)).bind fun x1=>
 (wo k x0.2.1 x0.2.2 x1).bind fun x2=>
 bif !(decide (x2.1=0)) then some (x2.1,bb,x2.2.1,x2.2.2)
 else(AT k x2.2.1 x2.2.2 a1).bind fun x3=>
 some (x3.1,bb,x3.2.1,x3.2.2)
def Ob (k:Nat)(bb:fZ)(dw:vN):Option (Int×fZ×vN):=
 some (bb.2.2.1,bb,dw)
def JM (k:Nat)(bb:nT)(dw:fZ)(lG:vN)(a1:Int)(a2:AC):Option ((List qA)×nT×fZ×vN):=
 (AV k bb dw lG).bind fun x0=>
 bif x0.1 then some ([],x0.2.1,x0.2.2.1,x0.2.2.2)
 else(nM k a2).bind fun x1=>
 bif !(decide (x1.2 = 0)) then ((Ke k a1 x1.2).bind fun x2=>
  some (x2,x0.2.1,x0.2.2.1,x0.2.2.2))
 else(mg k (yG x0.2.1) (rf x0.2.1) (a1,x1.1)).bind fun x3=>
 bif !(decide (x3.2.2 = 0)) then ((Ke k a1 x3.2.2).bind fun x4=>
  some (x4,x0.2.1,x0.2.2.1,x0.2.2.2))
 else bif decide (x1.1.1=9) then some (x3.2.1,x0.2.1,x0.2.2.1,x0.2.2.2)
 else(N9 k (a1,x1.1)).bind fun x5=>
 (Oa k x0.2.1 x0.2.2.1 x0.2.2.2 x5).bind fun x6=>
 bif decide (x6.1 = 0) then ((Ob k x6.2.2.1 x6.2.2.2).bind fun x7=>
  bif decide (x7.1 ≥ x6.2.1.2.2.2.2.2.2.2.2.2.2.2.2.2.2.2.2.1) then ((kB k x3.1).bind fun x8=>
   (wo k x7.2.1 x7.2.2 x8).bind fun x9=>
   bif decide (x9.1=11) then some (x3.2.1,(nR x6.2.1 (wA x3.1 (x6.2.1.2.2.2.2.2.2.2.2.2.2.2.2.2.2.2.2.1,true))),x9.2.1,x9.2.2)
   else some (x3.2.1,(nR x6.2.1 (wA x3.1 x6.2.1.2.2.2.2.2.2.2.2.2.2.2.2.2.2.2.2)),x9.2.1,x9.2.2))
  else some (x3.2.1,(nR x6.2.1 (wA x3.1 x6.2.1.2.2.2.2.2.2.2.2.2.2.2.2.2.2.2.2)),x7.2.1,x7.2.2))
 else bif decide (x6.1 = 10) then ((Ke k a1 10).bind fun di=>
  some (di,x6.2.1,x6.2.2.1,x6.2.2.2))
 else some ([],(yD x6.2.1 true),x6.2.2.1,x6.2.2.2)
def Oc (k:Nat)(a0:qA):Option Bool:=
 some (decide (a0.2.1=16))
abbrev qXf:Type:=List qA→Int→Int→Option (Unit⊕Int)
def wq (k:Nat)(rec:qXf)(s0:List qA)(s7 s8:Int):Option (Unit⊕Int):=
 bif decide (s8 < s7) then (bif zB s8 s0.length then ((Oc k (s0.getD s8.toNat (0,0,0,0,0,0,0,0))).bind fun x0=>
   bif x0 then some (.inr s8)
   else rec s0 s7 (zA (s8+1)))
  else none)
 else some (.inl ())
def JN (k:Nat):Nat→qXf:=yC (fun _ _ _=>none) (wq k)
def Wc (k:Nat)(a0:List qA):Option Int:=
 (JN k k a0 (a0.length:Int) 0).bind fun z=>
 match z with
 |.inl z1=>some (-1)
 |.inr z2=>some z2
def Wb (k:Nat)(a0:List qA):Option Bool:=
 (Wc k a0).bind fun x0=>
 some (decide (x0≥0))
def FJ (k:Nat)(a0:List qA):Option Bool:=
 (Wb k a0).bind fun x0=>
 some x0
def qHt (k:Nat)(a0:vN)(a1:vI):Option vN:=
 some (nR a0 (a1.1,a1.2,true,a0.2.2.2.2.2.2.2.2))
def qJ8 (k:Nat)(a0:vN):Option vN:=
 bif (decide (0 ≤ a0.2.2.1)) && (decide (a0.2.2.1 ≤ (a0.2.1.length : Int))) then (bif (decide (0≤a0.2.2.2.2.1))&&(decide (a0.2.2.2.2.1≤(a0.2.2.2.1.length:Int))) then some (a0.1,(List.take (a0.2.2.1.toNat-0) a0.2.1),a0.2.2.1,(List.take (a0.2.2.2.2.1.toNat-0) a0.2.2.2.1),a0.2.2.2.2.1,a0.2.2.2.2.2.1,a0.2.2.2.2.2.2.1,false,false,0)
  else none)
 else none
def Kf (k:Nat):Option Bool:=
 some true
def yXh (k:Nat)(a1:Int)(a2:AC):Option (List qA):=
 (Kf k).bind fun x0=>
 bif x0 then some []
 else(nM k a2).bind fun x1=>
 bif !(decide (x1.2 = 0)) then ((Ke k a1 x1.2).bind fun x2=>
  some x2)
 else none
def qP7 (k:Nat):Option yT:=
 some (0,[],[],[],[],[],[],[],[],0,false)
def qNp (k:Nat)(bb:nT)(dw:fZ)(lG:vN):Option (yT×nT×fZ×vN):=
 some ((rf bb),bb,dw,lG)
def yA9 (k:Nat)(a1:Int):Option AC:=
 some []
def Py (k:Nat)(a1:Int):Option (Int×AC×EQ):=
 (yA9 k a1).bind fun x0=>
 (XV k x0).bind fun x1=>
 bif decide ((x1.1.length:Int)=0) then some (0,[],[])
 else bif zB 0 x1.1.length then (bif decide (((x1.1.getD 0 []).length:Int)<8) then some (0,[],[])
  else bif zB 0 x1.1.length then (bif decide (8 ≤ ((x1.1.getD 0 []).length : Int)) then ((tC k (List.take 8 (x1.1.getD 0 []))).bind fun x2=>
    bif zB 0 x2.1.length then (bif decide ((x2.1.getD 0 0)<1) then some (0,[],[])
     else bif zB 0 x2.1.length then (bif decide ((x2.1.getD 0 0)>4611686018427387904) then some (0,[],[])
      else bif zB 0 x2.1.length then (bif zB 0 x1.1.length then (bif decide (8 ≤ ((x1.1.getD 0 []).length : Int)) then (bif decide (1≤(x1.1.length:Int)) then some ((x2.1.getD 0 0),(List.drop 8 (x1.1.getD 0 [])),(qW x1.1 1 (x1.1.length-1)))
         else none)
        else none)
       else none)
      else none)
     else none)
    else none)
   else none)
  else none)
 else none
def yR7 (k:Nat):Option (Int×Int×AC×EQ×Bool):=
 (Py k 0).bind fun x0=>
 bif decide (x0.1 > 0) then ((Py k 1).bind fun x1=>
  bif decide (x1.1>x0.1) then some (x1.1,1,x1.2.1,x1.2.2,true)
  else some (x0.1,0,x0.2.1,x0.2.2,true))
 else(Py k 1).bind fun x2=>
 bif decide (x2.1>0) then some (x2.1,1,x2.2.1,x2.2.2,true)
 else some (0,0,[],[],false)
def vB4 (k:Nat)(a1:AC):Option (AC×EQ×Int):=
 some ([],[],11)
def Pz (k:Nat)(a1:AC):Option Int:=
 some 11
abbrev qV9:Type:=Int×Bool×yO×yT
abbrev qHe:Type:=Int→Bool→Int→Int→yO→yT→EQ→Option qV9
def yCs (k:Nat)(rec:qHe)(s2:Int)(bx:Bool)(Be px:Int)(b0:yO)(b1:yT)(r2:EQ):Option qV9:=
 bif decide (px < Be) then (bif zB px r2.length then ((YR k (r2.getD px.toNat [])).bind fun x7=>
   bif decide (x7.2 = 0) then ((mg k b0 b1 x7.1).bind fun x8=>
    rec s2 bx Be (zA (px+1)) b0 x8.1 r2)
   else rec s2 bx Be (zA (px+1)) b0 b1 r2)
  else none)
 else some (s2,bx,b0,b1)
def Kg (k:Nat):Nat→qHe:=yC (fun _ _ _ _ _ _ _=>none) (yCs k)
def yWu (k:Nat)(a0:yO)(a2:Int):Option Int:=
 (AY k a0).bind fun x0=>
 bif !x0 then some 1
 else bif decide (a2<1) then some 1
 else bif decide (a2>1000) then some 1
 else(yR7 k).bind fun x1=>
 (oV k a0).bind fun x2=>
 (kB k x2).bind fun x3=>
 (vB4 k x3).bind fun x4=>
 bif !(decide (x4.2.2=0)) then some x4.2.2
 else(OO k x4.1).bind fun x5=>
 bif !x5.2 then ((oV k a0).bind fun x6=>
  (Kg k k a2 x1.2.2.2.2 (x4.2.1.length:Int) 0 a0 x6 x4.2.1).bind fun z=>
  bif z.2.1 then ((kB k z.2.2.2).bind fun x9=>
   (Pz k x9).bind fun di=>
   bif !(decide (di=0)) then some di
   else none)
  else none)
 else(Ps k a0 x5.1).bind fun fD=>
 bif !fD then ((oV k a0).bind fun lB=>
  (Kg k k a2 x1.2.2.2.2 (x4.2.1.length:Int) 0 a0 lB x4.2.1).bind fun z1=>
  bif z1.2.1 then ((kB k z1.2.2.2).bind fun lC=>
   (Pz k lC).bind fun pq=>
   bif !(decide (pq=0)) then some pq
   else none)
  else none)
 else(Kg k k a2 x1.2.2.2.2 (x4.2.1.length:Int) 0 a0 x5.1 x4.2.1).bind fun z2=>
 bif z2.2.1 then ((kB k z2.2.2.2).bind fun bQ=>
  (Pz k bQ).bind fun xh=>
  bif !(decide (xh=0)) then some xh
  else none)
 else none
abbrev PB:Type:=(nS×nS×(List (List qA))×(List qA))⊕(nS×nT×fZ×xj×AC×AC×nS×(List (List qA))×(List qA))
abbrev JG:Type:=(Int×(List iw)×Int×Int×yO×nS×xj×AC×AC×nT×fZ×nS×(List (List qA))×(List qA))⊕(Int×(List iw)×Int×Int×yO×nS×xj×AC×AC×nS×(List (List qA))×(List qA))→Option PB
def AM (k:Nat)(rec:JG)(z:(Int×(List iw)×Int×Int×yO×nS×xj×AC×AC×nT×fZ×nS×(List (List qA))×(List qA))⊕(Int×(List iw)×Int×Int×yO×nS×xj×AC×AC×nS×(List (List qA))×(List qA))):Option PB:=match z with
 | .inl z => bif decide (z.2.2.2.1 < z.2.2.1) then (bif zB z.2.2.2.1 z.2.1.length then (bif decide ((z.2.1.getD z.2.2.2.1.toNat (0, 0, [], 0, 0)).1 = 1) then ((JM k z.2.2.2.2.2.2.2.2.2.1 z.2.2.2.2.2.2.2.2.2.2.1 (z.2.2.2.2.2.2.1.1,z.2.2.2.2.2.2.2.1,z.2.2.2.2.2.2.1.2.1,z.2.2.2.2.2.2.2.2.1,z.2.2.2.2.2.2.1.2.2) (z.2.1.getD z.2.2.2.1.toNat (0,0,[],0,0)).2.1 (z.2.1.getD z.2.2.2.1.toNat (0,0,[],0,0)).2.2.1).bind fun x4=>
     (nM k (z.2.1.getD z.2.2.2.1.toNat (0,0,[],0,0)).2.2.1).bind fun x5=>
     bif decide (x5.2 = 0) then ((FJ k x4.1).bind fun x6=>
      bif !x6 then (bif decide ((x4.1.length : Int) > 0) then (bif zO (z.2.2.2.2.2.2.2.2.2.2.2.2.2.length + 1) 64 then (let y0:List qA:=(z.2.2.2.2.2.2.2.2.2.2.2.2.2++[((z.2.1.getD z.2.2.2.1.toNat (0,0,[],0,0)).2.1,x5.1)])
         bif zO (z.2.2.2.2.2.2.2.2.2.2.2.2.1.length + 1) 24 then (let y1:List (List qA):=(z.2.2.2.2.2.2.2.2.2.2.2.2.1++[x4.1])
          rec (.inl (z.1,z.2.1,z.2.2.1,(zA (z.2.2.2.1+1)),z.2.2.2.2.1,z.2.2.2.2.2.1,(x4.2.2.2.1,x4.2.2.2.2.2.1,x4.2.2.2.2.2.2.2),x4.2.2.2.2.1,x4.2.2.2.2.2.2.1,x4.2.1,x4.2.2.1,z.2.2.2.2.2.2.2.2.2.2.2.1,y1,y0)))
         else none)
        else none)
       else(AV k x4.2.1 x4.2.2.1 x4.2.2.2).bind fun x7=>
       bif !x7.1 then (bif zO (z.2.2.2.2.2.2.2.2.2.2.2.2.2.length + 1) 64 then (let y2:List qA:=(z.2.2.2.2.2.2.2.2.2.2.2.2.2++[((z.2.1.getD z.2.2.2.1.toNat (0,0,[],0,0)).2.1,x5.1)])
         bif zO (z.2.2.2.2.2.2.2.2.2.2.2.2.1.length + 1) 24 then (let y3:List (List qA):=(z.2.2.2.2.2.2.2.2.2.2.2.2.1++[x4.1])
          rec (.inl (z.1,z.2.1,z.2.2.1,(zA (z.2.2.2.1+1)),z.2.2.2.2.1,z.2.2.2.2.2.1,(x7.2.2.2.1,x7.2.2.2.2.2.1,x7.2.2.2.2.2.2.2),x7.2.2.2.2.1,x7.2.2.2.2.2.2.1,x7.2.1,x7.2.2.1,z.2.2.2.2.2.2.2.2.2.2.2.1,y3,y2)))
         else none)
        else none)
       else bif zO (z.2.2.2.2.2.2.2.2.2.2.2.2.1.length + 1) 24 then (let y4:List (List qA):=(z.2.2.2.2.2.2.2.2.2.2.2.2.1++[x4.1])
        rec (.inl (z.1,z.2.1,z.2.2.1,(zA (z.2.2.2.1+1)),z.2.2.2.2.1,z.2.2.2.2.2.1,(x7.2.2.2.1,x7.2.2.2.2.2.1,x7.2.2.2.2.2.2.2),x7.2.2.2.2.1,x7.2.2.2.2.2.2.1,x7.2.1,x7.2.2.1,z.2.2.2.2.2.2.2.2.2.2.2.1,y4,z.2.2.2.2.2.2.2.2.2.2.2.2.2)))
       else none)
      else bif zO (z.2.2.2.2.2.2.2.2.2.2.2.2.1.length + 1) 24 then (let y5:List (List qA):=(z.2.2.2.2.2.2.2.2.2.2.2.2.1++[x4.1])
       rec (.inl (z.1,z.2.1,z.2.2.1,(zA (z.2.2.2.1+1)),z.2.2.2.2.1,z.2.2.2.2.2.1,(x4.2.2.2.1,x4.2.2.2.2.2.1,x4.2.2.2.2.2.2.2),x4.2.2.2.2.1,x4.2.2.2.2.2.2.1,x4.2.1,x4.2.2.1,z.2.2.2.2.2.2.2.2.2.2.2.1,y5,z.2.2.2.2.2.2.2.2.2.2.2.2.2)))
      else none)
     else bif zO (z.2.2.2.2.2.2.2.2.2.2.2.2.1.length + 1) 24 then (let y6:List (List qA):=(z.2.2.2.2.2.2.2.2.2.2.2.2.1++[x4.1])
      rec (.inl (z.1,z.2.1,z.2.2.1,(zA (z.2.2.2.1+1)),z.2.2.2.2.1,z.2.2.2.2.2.1,(x4.2.2.2.1,x4.2.2.2.2.2.1,x4.2.2.2.2.2.2.2),x4.2.2.2.2.1,x4.2.2.2.2.2.2.1,x4.2.1,x4.2.2.1,z.2.2.2.2.2.2.2.2.2.2.2.1,y6,z.2.2.2.2.2.2.2.2.2.2.2.2.2)))
     else none)
    else bif decide ((z.2.1.getD z.2.2.2.1.toNat (0, 0, [], 0, 0)).1 = 2) then ((qHt k (z.2.2.2.2.2.2.1.1,z.2.2.2.2.2.2.2.1,z.2.2.2.2.2.2.1.2.1,z.2.2.2.2.2.2.2.2.1,z.2.2.2.2.2.2.1.2.2) (z.2.1.getD z.2.2.2.1.toNat (0,0,[],0,0)).2.2.2).bind fun x8=>
     bif zO (z.2.2.2.2.2.2.2.2.2.2.2.2.1.length + 1) 24 then (let y7:List (List qA):=(z.2.2.2.2.2.2.2.2.2.2.2.2.1++[[]])
      rec (.inl (z.1,z.2.1,z.2.2.1,(zA (z.2.2.2.1+1)),z.2.2.2.2.1,z.2.2.2.2.2.1,(x8.1,x8.2.2.1,x8.2.2.2.2),x8.2.1,x8.2.2.2.1,z.2.2.2.2.2.2.2.2.2.1,z.2.2.2.2.2.2.2.2.2.2.1,z.2.2.2.2.2.2.2.2.2.2.2.1,y7,z.2.2.2.2.2.2.2.2.2.2.2.2.2)))
     else none)
    else bif decide ((z.2.1.getD z.2.2.2.1.toNat (0, 0, [], 0, 0)).1 = 3) then ((qJ8 k (z.2.2.2.2.2.2.1.1,z.2.2.2.2.2.2.2.1,z.2.2.2.2.2.2.1.2.1,z.2.2.2.2.2.2.2.2.1,z.2.2.2.2.2.2.1.2.2)).bind fun x9=>
     (rj k z.2.2.2.2.1 x9 z.1).bind fun di=>
     match di with
     | .inl fD => bif zO (z.2.2.2.2.2.2.2.2.2.2.2.2.1.length + 1) 24 then (let y8:List (List qA):=(z.2.2.2.2.2.2.2.2.2.2.2.2.1++[[]])
       rec (.inl (z.1,z.2.1,z.2.2.1,(zA (z.2.2.2.1+1)),z.2.2.2.2.1,z.2.2.2.2.2.1,(fD.2.1.1,fD.2.1.2.2.1,fD.2.1.2.2.2.2),fD.2.1.2.1,fD.2.1.2.2.2.1,fD.2.2.1,fD.2.2.2,z.2.2.2.2.2.2.2.2.2.2.2.1,y8,z.2.2.2.2.2.2.2.2.2.2.2.2.2)))
      else none
     | .inr lB => bif zO (z.2.2.2.2.2.2.2.2.2.2.2.2.1.length + 1) 24 then (let y9:List (List qA):=(z.2.2.2.2.2.2.2.2.2.2.2.2.1++[[]])
       rec (.inr (z.1,z.2.1,z.2.2.1,(zA (z.2.2.2.1+1)),z.2.2.2.2.1,z.2.2.2.2.2.1,(lB.2.1,lB.2.2.2.1,lB.2.2.2.2.2),lB.2.2.1,lB.2.2.2.2.1,z.2.2.2.2.2.2.2.2.2.2.2.1,y9,z.2.2.2.2.2.2.2.2.2.2.2.2.2)))
      else none)
    else bif zO (z.2.2.2.2.2.2.2.2.2.2.2.2.1.length + 1) 24 then (let y10:List (List qA):=(z.2.2.2.2.2.2.2.2.2.2.2.2.1++[[]])
     rec (.inl (z.1,z.2.1,z.2.2.1,(zA (z.2.2.2.1+1)),(vJj z (y10,z.2.2.2.2.2.2.2.2.2.2.2.2.2)))))
    else none)
   else none)
  else some (.inr (z.2.2.2.2.2.1,z.2.2.2.2.2.2.2.2.2.1,z.2.2.2.2.2.2.2.2.2.2.1,z.2.2.2.2.2.2.1,z.2.2.2.2.2.2.2.1,z.2.2.2.2.2.2.2.2.1,z.2.2.2.2.2.2.2.2.2.2.2.1,z.2.2.2.2.2.2.2.2.2.2.2.2.1,z.2.2.2.2.2.2.2.2.2.2.2.2.2))
 | .inr z1 => bif decide (z1.2.2.2.1 < z1.2.2.1) then (bif zB z1.2.2.2.1 z1.2.1.length then (bif decide ((z1.2.1.getD z1.2.2.2.1.toNat (0, 0, [], 0, 0)).1 = 1) then ((yXh k (z1.2.1.getD z1.2.2.2.1.toNat (0,0,[],0,0)).2.1 (z1.2.1.getD z1.2.2.2.1.toNat (0,0,[],0,0)).2.2.1).bind fun lC=>
     (nM k (z1.2.1.getD z1.2.2.2.1.toNat (0,0,[],0,0)).2.2.1).bind fun pq=>
     bif decide (pq.2 = 0) then ((FJ k lC).bind fun bQ=>
      bif !bQ then (bif decide ((lC.length : Int) > 0) then (bif zO (z1.2.2.2.2.2.2.2.2.2.2.2.length + 1) 64 then (let y11:List qA:=(z1.2.2.2.2.2.2.2.2.2.2.2++[((z1.2.1.getD z1.2.2.2.1.toNat (0,0,[],0,0)).2.1,pq.1)])
         bif zO (z1.2.2.2.2.2.2.2.2.2.2.1.length + 1) 24 then (let y12:List (List qA):=(z1.2.2.2.2.2.2.2.2.2.2.1++[lC])
          rec (.inr (z1.1,z1.2.1,z1.2.2.1,(zA (z1.2.2.2.1+1)),(F7 z1 (y12,y11)))))
         else none)
        else none)
       else(Kf k).bind fun xh=>
       bif !xh then (bif zO (z1.2.2.2.2.2.2.2.2.2.2.2.length + 1) 64 then (let y13:List qA:=(z1.2.2.2.2.2.2.2.2.2.2.2++[((z1.2.1.getD z1.2.2.2.1.toNat (0,0,[],0,0)).2.1,pq.1)])
         bif zO (z1.2.2.2.2.2.2.2.2.2.2.1.length + 1) 24 then (let y14:List (List qA):=(z1.2.2.2.2.2.2.2.2.2.2.1++[lC])
          rec (.inr (z1.1,z1.2.1,z1.2.2.1,(zA (z1.2.2.2.1+1)),(F7 z1 (y14,y13)))))
         else none)
        else none)
       else bif zO (z1.2.2.2.2.2.2.2.2.2.2.1.length + 1) 24 then (let y15:List (List qA):=(z1.2.2.2.2.2.2.2.2.2.2.1++[lC])
        rec (.inr (z1.1,z1.2.1,z1.2.2.1,(zA (z1.2.2.2.1+1)),(F7 z1 (y15,z1.2.2.2.2.2.2.2.2.2.2.2)))))
       else none)
      else bif zO (z1.2.2.2.2.2.2.2.2.2.2.1.length + 1) 24 then (let y16:List (List qA):=(z1.2.2.2.2.2.2.2.2.2.2.1++[lC])
       rec (.inr (z1.1,z1.2.1,z1.2.2.1,(zA (z1.2.2.2.1+1)),(F7 z1 (y16,z1.2.2.2.2.2.2.2.2.2.2.2)))))
      else none)
     else bif zO (z1.2.2.2.2.2.2.2.2.2.2.1.length + 1) 24 then (let y17:List (List qA):=(z1.2.2.2.2.2.2.2.2.2.2.1++[lC])
      rec (.inr (z1.1,z1.2.1,z1.2.2.1,(zA (z1.2.2.2.1+1)),(F7 z1 (y17,z1.2.2.2.2.2.2.2.2.2.2.2)))))
     else none)
    else bif decide ((z1.2.1.getD z1.2.2.2.1.toNat (0, 0, [], 0, 0)).1 = 2) then ((qHt k (z1.2.2.2.2.2.2.1.1,z1.2.2.2.2.2.2.2.1,z1.2.2.2.2.2.2.1.2.1,z1.2.2.2.2.2.2.2.2.1,z1.2.2.2.2.2.2.1.2.2) (z1.2.1.getD z1.2.2.2.1.toNat (0,0,[],0,0)).2.2.2).bind fun gn=>
     bif zO (z1.2.2.2.2.2.2.2.2.2.2.1.length + 1) 24 then (let y18:List (List qA):=(z1.2.2.2.2.2.2.2.2.2.2.1++[[]])
      rec (.inr (z1.1,z1.2.1,z1.2.2.1,(zA (z1.2.2.2.1+1)),z1.2.2.2.2.1,z1.2.2.2.2.2.1,(gn.1,gn.2.2.1,gn.2.2.2.2),gn.2.1,gn.2.2.2.1,z1.2.2.2.2.2.2.2.2.2.1,y18,z1.2.2.2.2.2.2.2.2.2.2.2)))
     else none)
    else bif decide ((z1.2.1.getD z1.2.2.2.1.toNat (0, 0, [], 0, 0)).1 = 3) then ((qJ8 k (z1.2.2.2.2.2.2.1.1,z1.2.2.2.2.2.2.2.1,z1.2.2.2.2.2.2.1.2.1,z1.2.2.2.2.2.2.2.2.1,z1.2.2.2.2.2.2.1.2.2)).bind fun xi=>
     (rj k z1.2.2.2.2.1 xi z1.1).bind fun F5=>
     match F5 with
     | .inl iY => bif zO (z1.2.2.2.2.2.2.2.2.2.2.1.length + 1) 24 then (let y19:List (List qA):=(z1.2.2.2.2.2.2.2.2.2.2.1++[[]])
       rec (.inl (z1.1,z1.2.1,z1.2.2.1,(zA (z1.2.2.2.1+1)),z1.2.2.2.2.1,z1.2.2.2.2.2.1,(iY.2.1.1,iY.2.1.2.2.1,iY.2.1.2.2.2.2),iY.2.1.2.1,iY.2.1.2.2.2.1,iY.2.2.1,iY.2.2.2,z1.2.2.2.2.2.2.2.2.2.1,y19,z1.2.2.2.2.2.2.2.2.2.2.2)))
      else none
     | .inr tL => bif zO (z1.2.2.2.2.2.2.2.2.2.2.1.length + 1) 24 then (let y20:List (List qA):=(z1.2.2.2.2.2.2.2.2.2.2.1++[[]])
       rec (.inr (z1.1,z1.2.1,z1.2.2.1,(zA (z1.2.2.2.1+1)),z1.2.2.2.2.1,z1.2.2.2.2.2.1,(tL.2.1,tL.2.2.2.1,tL.2.2.2.2.2),tL.2.2.1,tL.2.2.2.2.1,z1.2.2.2.2.2.2.2.2.2.1,y20,z1.2.2.2.2.2.2.2.2.2.2.2)))
      else none)
    else bif zO (z1.2.2.2.2.2.2.2.2.2.2.1.length + 1) 24 then (let y21:List (List qA):=(z1.2.2.2.2.2.2.2.2.2.2.1++[[]])
     rec (.inr (z1.1,z1.2.1,z1.2.2.1,(zA (z1.2.2.2.1+1)),(F7 z1 (y21,z1.2.2.2.2.2.2.2.2.2.2.2)))))
    else none)
   else none)
  else some (.inl (z1.2.2.2.2.2.1,z1.2.2.2.2.2.2.2.2.2.1,z1.2.2.2.2.2.2.2.2.2.2.1,z1.2.2.2.2.2.2.2.2.2.2.2))
def AW (k:Nat):Nat→JG:=yC (fun _=>none) (AM k)
def FL (k:Nat)(a0:yO)(a1 a2:Int)(a3:List iw):Option ((List (List qA))×(List qA)×Int×(List zK)×EQ×AC×EQ×AC×EQ×(List zC)×AC×Int×Bool×Bool):=
 (We k a1).bind fun x0=>
 match x0 with
 |.inl x1=>(rj k a0 x1 a2).bind fun x2=>
  match x2 with
  |.inl x3=>bif !(decide (x3.1=0)) then some ([],[],0,[],[],[],[],[],[],[],[],0,false,false)
   else(AW k k (.inl (a2,a3,(a3.length:Int),0,a0,(0,0,false,false),(x3.2.1.1,x3.2.1.2.2.1,x3.2.1.2.2.2.2),x3.2.1.2.1,x3.2.1.2.2.2.1,x3.2.2.1,x3.2.2.2,(0,0,false,false),[],[]))).bind fun z2=>
   match z2 with
   |.inl z3=>(qP7 k).bind fun PY=>
    (Kf k).bind fun x23=>
    some (z3.2.2.1,z3.2.2.2,(wA PY (!x23)))
   |.inr z4=>(qNp k z4.2.1 z4.2.2.1 (z4.2.2.2.1.1,z4.2.2.2.2.1,z4.2.2.2.1.2.1,z4.2.2.2.2.2.1,z4.2.2.2.1.2.2)).bind fun P4=>
    (AV k P4.2.1 P4.2.2.1 P4.2.2.2).bind fun x25=>
    some (z4.2.2.2.2.2.2.2.1,z4.2.2.2.2.2.2.2.2,(wA P4.1 (!x25.1)))
  |.inr F8=>bif !(decide (F8.1=0)) then some ([],[],0,[],[],[],[],[],[],[],[],0,false,false)
   else(AW k k (.inr (a2,a3,(a3.length:Int),0,a0,(0,0,false,false),(F8.2.1,F8.2.2.2.1,F8.2.2.2.2.2),F8.2.2.1,F8.2.2.2.2.1,(0,0,false,false),[],[]))).bind fun z5=>
   match z5 with
   |.inl z6=>(qP7 k).bind fun x27=>
    (Kf k).bind fun x28=>
    some (z6.2.2.1,z6.2.2.2,(wA x27 (!x28)))
   |.inr z7=>(qNp k z7.2.1 z7.2.2.1 (z7.2.2.2.1.1,z7.2.2.2.2.1,z7.2.2.2.1.2.1,z7.2.2.2.2.2.1,z7.2.2.2.1.2.2)).bind fun P5=>
    (AV k P5.2.1 P5.2.2.1 P5.2.2.2).bind fun x30=>
    some (z7.2.2.2.2.2.2.2.1,z7.2.2.2.2.2.2.2.2,(wA P5.1 (!x30.1)))
 |.inr x31=>(yWu k a0 a2).bind fun x32=>
  bif !(decide (x32=0)) then some ([],[],0,[],[],[],[],[],[],[],[],0,false,false)
  else none
abbrev qVl:Type:=Int→Int→Int→AC→Option AC
def yJ8 (k:Nat)(rec:qVl)(s0 s1 s6:Int)(r0:AC):Option AC:=
 bif decide (s6 < s0) then (bif zB s6 r0.length then(rec s0 s1 (zA (s6+1)) (r0.set s6.toNat s1))
  else none)
 else some r0
def PD (k:Nat):Nat→qVl
 |0,_,_,_,_=>none
 |n+1,s0,s1,s6,r0=>yJ8 k (PD k n) s0 s1 s6 r0
def qWa (k:Nat)(a0 a1:Int):Option AC:=
 bif decide (a0<0) then some []
 else bif decide (a0>6) then some []
 else bif pV a0 a0 8 then ((PD k k a0 a1 0 (List.replicate a0.toNat (0:Int))).bind fun z=>
  some z)
 else none
abbrev qIa:Type:=Int→Int→Int→EQ→Option EQ
def yM9 (k:Nat)(rec:qIa)(s0 s1 s6:Int)(m0:EQ):Option EQ:=
 bif decide (s6 < s0) then ((qWa k s0 s1).bind fun x0=>
  bif zO (m0.length+1) 24 then(rec s0 s1 (zA (s6+1)) (m0++[x0]))
  else none)
 else some m0
def PE (k:Nat):Nat→qIa
 |0,_,_,_,_=>none
 |n+1,s0,s1,s6,m0=>yM9 k (PE k n) s0 s1 s6 m0
def qIt (k:Nat)(a0 a1:Int):Option EQ:=
 bif decide (a0<0) then some []
 else bif decide (a0>6) then some []
 else(PE k k a0 a1 0 []).bind fun z=>
 some z
abbrev qRt:Type:=Int×yO×vH×vH×(List zK)×EQ×AC×EQ×AC
abbrev qO6:Type:=Int→Int→yO→vH→vH→List zK→EQ→AC→EQ→AC→Option qRt
def yRu (k:Nat)(rec:qO6)(s3 s5:Int)(b0:yO)(b1 b2:vH)(r3:List zK)(m4:EQ)(r5:AC)(m6:EQ)(r7:AC):Option qRt:=
 bif decide (s5 < (b0.2.1.length : Int)) then (bif zB s5 b0.2.1.length then (bif zO (r7.length+1) 8 then(rec s3 (zA (s5+1)) b0 b1 b2 r3 m4 r5 m6 (r7++[(b0.2.1.getD s5.toNat (0,0)).1]))
   else none)
  else none)
 else some (s3,b0,b1,b2,r3,m4,r5,m6,r7)
def qRc (k:Nat):Nat→qO6:=yC (fun _ _ _ _ _ _ _ _ _ _=>none) (yRu k)
abbrev qY3:Type:=vH×vH×(List zK)×EQ×AC×EQ×AC×EQ
abbrev qKq:Type:=Int→Int→yO→vH→vH→List zK→EQ→AC→EQ→AC→EQ→Option qY3
def yK5 (k:Nat)(rec:qKq)(s3 s6:Int)(b0:yO)(b1 b2:vH)(r3:List zK)(m4:EQ)(r5:AC)(m6:EQ)(r7:AC)(m8:EQ):Option qY3:=
 bif decide (s6 < s3) then (bif pV (b0.2.1.length : Int) (b0.2.1.length : Int) 8 then (bif zO (m8.length+1) 24 then(rec s3 (zA (s6+1)) b0 b1 b2 r3 m4 r5 m6 r7 (m8++[(List.replicate b0.2.1.length (0:Int))]))
   else none)
  else none)
 else some (b1,b2,r3,m4,r5,m6,r7,m8)
def qWf (k:Nat):Nat→qKq:=yC (fun _ _ _ _ _ _ _ _ _ _ _=>none) (yK5 k)
def Of (k:Nat)(a0:yO):Option yT:=
 bif pV a0.1 a0.1 24 then ((qIt k a0.1 (-1)).bind fun x0=>
  (qWa k a0.1 (-1)).bind fun x1=>
  (qIt k a0.1 0).bind fun x2=>
  (qRc k k a0.1 0 a0 (0,0,false) (0,0,false) (List.replicate a0.1.toNat ((0,0,0):Int×Int×Int)) x0 x1 x2 []).bind fun z=>
  (qWf k k z.1 0 z.2.1 z.2.2.1 z.2.2.2.1 z.2.2.2.2.1 z.2.2.2.2.2.1 z.2.2.2.2.2.2.1 z.2.2.2.2.2.2.2.1 z.2.2.2.2.2.2.2.2 []).bind fun z1=>
  some (z1.2.1.1,(yQ6 z1 ([],[],z1.2.1.2))))
 else none
def NX (k:Nat)(rec:AC→Int→Int→Option Int)(s0:AC)(s3 s4:Int):Option Int:=
 bif decide (s4 < 8) then (bif zB s4 s0.length then(rec s0 (wK .u64 (shl .u64 s3 8) (IntKind.wrap .u64 ((s0.getD s4.toNat 0)))) (zA (s4+1)))
  else none)
 else some s3
def JE (k:Nat):Nat→AC→Int→Int→Option Int:=yC (fun _ _ _=>none) (NX k)
def NW (k:Nat)(a0:AC):Option Int:=
 (JE k k a0 0 0).bind fun z=>
 some (zA (z))
abbrev qRx:Type:=AC→Int→AC→Option AC
def FA (k:Nat)(rec:qRx)(s0:AC)(s5:Int)(r0:AC):Option AC:=
 bif decide (s5 < (s0.length : Int)) then (bif ((decide (0 ≤ s5)) && (decide (s5 ≤ (zA (s5 + 8))))) && (decide ((zA (s5 + 8)) ≤ (s0.length : Int))) then ((NW k (qW s0 s5.toNat ((zA (s5+8)).toNat-s5.toNat))).bind fun x0=>
   bif zO (r0.length+1) 8 then(rec s0 (zA (s5+8)) (r0++[x0]))
   else none)
  else none)
 else some r0
def AL (k:Nat):Nat→qRx:=yC (fun _ _ _=>none) (FA k)
def NY (k:Nat)(a0:AC):Option (AC×Int):=
 bif !(decide ((Int.tmod (a0.length:Int) 8)=0)) then some ([],2)
 else(AL k k a0 0 []).bind fun z=>
 some (z,0)
def AB (k:Nat)(a0:Int):Option Int:=
 bif decide (a0<0) then some (-1)
 else bif decide (a0≥24) then some (-1)
 else bif zB a0 24 then some (List.getD [(-1),6,1,2,2,2,1,1,2,0,2,2,2,0,0,0,1,5,4,1,1,1,1,1] a0.toNat 0)
 else none
abbrev qS3:Type:=zC×zC
abbrev qNw:Type:=Int→zC→zC→AC→Option qS3
def yM5 (k:Nat)(rec:qNw)(s7:Int)(b0 b1:zC)(r2:AC):Option qS3:=
 bif decide (s7 < (r2.length : Int)) then (bif zB s7 r2.length then (bif decide (s7=0) then(rec (zA (s7+1)) b0 (b1.1,(r2.getD s7.toNat 0),b1.2.2) r2)
   else bif decide (s7=1) then(rec (zA (s7+1)) b0 (b1.1,b1.2.1,(r2.getD s7.toNat 0),b1.2.2.2) r2)
   else bif decide (s7=2) then(rec (zA (s7+1)) b0 (b1.1,b1.2.1,b1.2.2.1,(r2.getD s7.toNat 0),b1.2.2.2.2) r2)
   else bif decide (s7=3) then(rec (zA (s7+1)) b0 (vO b1 ((r2.getD s7.toNat 0),b1.2.2.2.2.2)) r2)
   else bif decide (s7=4) then(rec (zA (s7+1)) b0 (nR b1 ((r2.getD s7.toNat 0),b1.2.2.2.2.2.2)) r2)
   else bif decide (s7=5) then(rec (zA (s7+1)) b0 (wX b1 (r2.getD s7.toNat 0)) r2)
   else none)
  else none)
 else some (b0,b1)
def NZ (k:Nat):Nat→qNw:=yC (fun _ _ _ _=>none) (yM5 k)
def JF (k:Nat)(a0:AC):Option (zC×Int):=
 bif decide ((a0.length:Int)=0) then some ((0,0,0,0,0,0,0),2)
 else bif zB 0 a0.length then (bif decide (1 ≤ (a0.length : Int)) then ((NY k (List.drop 1 a0)).bind fun x0=>
   bif !(decide (x0.2=0)) then some ((0,0,0,0,0,0,0),2)
   else(AB k (zA ((a0.getD 0 0)))).bind fun x1=>
   bif !(decide ((x0.1.length:Int)=x1)) then some ((0,0,0,0,0,0,0),2)
   else(NZ k k 0 (0,0,0,0,0,0,0) ((zA ((a0.getD 0 0))),0,0,0,0,0,0) x0.1).bind fun z=>
   some (z.2,0))
  else none)
 else none
def NN (k:Nat)(a0:Int):Option Bool:=
 bif decide (a0≥1) then some (decide (a0≤14))
 else some false
abbrev qS8:Type:=Int→Int→zC→Option (Int⊕Bool)
def VN (k:Nat)(rec:qS8)(s3 s4:Int)(b0:zC):Option (Int⊕Bool):=
 bif decide (s4 < 6) then (bif decide (s4 = 0) then (bif !(decide (b0.2.1=0)) then some (.inr false)
   else rec s3 (zA (s4+1)) b0)
  else bif decide (s4 = 1) then (bif !(decide (b0.2.2.1=0)) then some (.inr false)
   else rec s3 (zA (s4+1)) b0)
  else bif decide (s4 = 2) then (bif !(decide (b0.2.2.2.1=0)) then some (.inr false)
   else rec s3 (zA (s4+1)) b0)
  else bif decide (s4 = 3) then (bif !(decide (b0.2.2.2.2.1=0)) then some (.inr false)
   else rec s3 (zA (s4+1)) b0)
  else bif decide (s4 = 4) then (bif !(decide (b0.2.2.2.2.2.1=0)) then some (.inr false)
   else rec s3 (zA (s4+1)) b0)
  else bif decide (s4 = 5) then (bif !(decide (b0.2.2.2.2.2.2=0)) then some (.inr false)
   else rec s3 (zA (s4+1)) b0)
  else none)
 else some (.inl s3)
def Ft (k:Nat):Nat→qS8:=yC (fun _ _ _=>none) (VN k)
def AE (k:Nat)(a0:zC):Option Bool:=
 (AB k a0.1).bind fun x0=>
 (Ft k k x0 (wN false x0 0) a0).bind fun z=>
 match z with
 |.inl z1=>some (decide (z1≥0))
 |.inr z2=>some z2
def NO (k:Nat)(a0:Int):Option Bool:=
 bif decide (a0≥10) then some (decide (a0≤14))
 else some false
def AF (k:Nat)(a0:yO)(a1:qA):Option Bool:=
 (NN k a1.2.1).bind fun x0=>
 bif !x0 then some false
 else(AE k a1.2).bind fun x1=>
 bif !x1 then some false
 else(NO k a1.2.1).bind fun x2=>
 bif x2 then some (decide (a1.1=(-1)))
 else bif decide (a1.1≥0) then some (decide (a1.1<a0.1))
 else some false
abbrev qQ0:Type:=List zC
abbrev qYn:Type:=List zC→Int→Int→List zC→Option qQ0
def Dw (k:Nat)(rec:qYn)(s0:List zC)(s1 s6:Int)(r0:List zC):Option qQ0:=
 bif decide (s6 < (s0.length : Int)) then (bif zB s6 s0.length then (bif decide ((s0.getD s6.toNat (0, 0, 0, 0, 0, 0, 0)).2.1 = s1) then (bif zB s6 s0.length then (bif zO (r0.length + 1) 56 then (let y0:List zC:=(r0++[(s0.getD s6.toNat (0,0,0,0,0,0,0))])
      rec s0 s1 (zA (s6+1)) y0)
     else none)
    else none)
   else rec s0 s1 (zA (s6+1)) r0)
  else none)
 else some r0
def Io (k:Nat):Nat→qYn
 |0,_,_,_,_=>none
 |n+1,s0,s1,s6,r0=>Dw k (Io k n) s0 s1 s6 r0
def sQ (k:Nat)(a0:List zC)(a1:Int):Option (List zC):=
 (Io k k a0 a1 0 []).bind fun z=>
 some z
abbrev qYp:Type:=Int×Int×Int×Int×Int×Int×Int×Int×Int×Int×Int×Int×Int×Int
abbrev qW4:Type:=AC→Int→Int→Int→Int→Int→Int→Int→Int→Int→Int→Int→Int→Int→Int→Int→Option qYp
def yJq (k:Nat)(rec:qW4)(s1:AC)(s6 ae ah ai ag aX bh bj av aB aC aE aG aH aI:Int):Option qYp:=
 bif decide (s6 < (s1.length : Int)) then (bif decide (s6 < 6) then (bif zB s6 s1.length then (bif decide (s6=0) then(rec s1 (zA (s6+1)) ae ah ai ag aX bh bj av (s1.getD s6.toNat 0) aC aE aG aH aI)
    else bif decide (s6=1) then(rec s1 (zA (s6+1)) ae ah ai ag aX bh bj av aB (s1.getD s6.toNat 0) aE aG aH aI)
    else bif decide (s6=2) then(rec s1 (zA (s6+1)) ae ah ai ag aX bh bj av aB aC (s1.getD s6.toNat 0) aG aH aI)
    else bif decide (s6=3) then(rec s1 (zA (s6+1)) ae ah ai ag aX bh bj av aB aC aE (s1.getD s6.toNat 0) aH aI)
    else bif decide (s6=4) then(rec s1 (zA (s6+1)) ae ah ai ag aX bh bj av aB aC aE aG (s1.getD s6.toNat 0) aI)
    else bif decide (s6=5) then(rec s1 (zA (s6+1)) ae ah ai ag aX bh bj av aB aC aE aG aH (s1.getD s6.toNat 0))
    else none)
   else none)
  else some (ae,ah,ai,ag,aX,bh,bj,av,aB,aC,aE,aG,aH,aI))
 else some (ae,ah,ai,ag,aX,bh,bj,av,aB,aC,aE,aG,aH,aI)
def PH (k:Nat):Nat→qW4
 |0,_,_,_,_,_,_,_,_,_,_,_,_,_,_,_,_=>none
 |n+1,s1,s6,ae,ah,ai,ag,aX,bh,bj,av,aB,aC,aE,aG,aH,aI=>yJq k (PH k n) s1 s6 ae ah ai ag aX bh bj av aB aC aE aG aH aI
def jS (k:Nat)(a0:Int)(a1:AC):Option zC:=
 (PH k k a1 0 0 0 0 0 0 0 0 a0 0 0 0 0 0 0).bind fun z=>
 some (z.2.2.2.2.2.2.2.1,z.2.2.2.2.2.2.2.2.1,z.2.2.2.2.2.2.2.2.2.1,z.2.2.2.2.2.2.2.2.2.2.1,z.2.2.2.2.2.2.2.2.2.2.2.1,z.2.2.2.2.2.2.2.2.2.2.2.2.1,z.2.2.2.2.2.2.2.2.2.2.2.2.2)
def NL (k:Nat)(a0:yO)(a1:Int):Option Bool:=
 some (decide (a1=a0.2.2.2.1))
def VC (k:Nat)(bZ ba bq cn bH bU bJ a1:Int):Option Bool:=
 some (decide (a1>bJ))
abbrev qKl:Type:=List zC→Int→Int→Option (Unit⊕Int)
def DF (k:Nat)(rec:qKl)(s0:List zC)(s1 s5:Int):Option (Unit⊕Int):=
 bif decide (s5 < (s0.length : Int)) then (bif zB s5 s0.length then (bif decide ((s0.getD s5.toNat (0,0,0,0,0,0,0)).1=s1) then some (.inr s5)
   else rec s0 s1 (zA (s5+1)))
  else none)
 else some (.inl ())
def DE (k:Nat):Nat→qKl
 |0,_,_,_=>none
 |n+1,s0,s1,s5=>DF k (DE k n) s0 s1 s5
def lY (k:Nat)(a0:List zC)(a1:Int):Option Int:=
 (DE k k a0 a1 0).bind fun z=>
 match z with
 |.inl z1=>some (-1)
 |.inr z2=>some z2
def mR (k:Nat)(a0:List zC)(a1:Int):Option qTm:=
 (lY k a0 a1).bind fun x0=>
 bif decide (x0<0) then some (a0,0,0,0,0,0,0,0,4)
 else bif (decide (0 ≤ x0)) && (decide (x0 ≤ (a0.length : Int))) then (bif zO (0 + (List.take x0.toNat a0).length) 56 then (bif (decide (0 ≤ (zA (x0 + 1)))) && (decide ((zA (x0 + 1)) ≤ (a0.length : Int))) then (bif zO ((List.take x0.toNat a0).length + (List.drop (zA (x0 + 1)).toNat a0).length) 56 then (bif zB x0 a0.length then some (((List.take x0.toNat a0)++(List.drop (zA (x0+1)).toNat a0)),(eX (a0.getD x0.toNat (0,0,0,0,0,0,0)) 0))
     else none)
    else none)
   else none)
  else none)
 else none
def Jw (k:Nat)(a0:yO)(a1:Int):Option Bool:=
 bif decide (a1 > 0) then (bif decide (a1 < a0.2.2.2.1) then (bif !(decide (a0.2.2.2.2=0)) then some (decide ((Int.tmod a1 a0.2.2.2.2)=0))
   else none)
  else some false)
 else some false
def Ua (k:Nat)(bZ ba bq cn bH bU bJ a1:Int):Option Bool:=
 bif decide (a1≥bU) then some (decide (a1≤bJ))
 else some false
abbrev qKp:Type:=List zC
abbrev qJ6:Type:=List zC→Int→Int→List zC→Option qKp
def Dv (k:Nat)(rec:qJ6)(s0:List zC)(s1 s6:Int)(r0:List zC):Option qKp:=
 bif decide (s6 < (s0.length : Int)) then (bif zB s6 s0.length then ((Ua k (s0.getD s6.toNat (0,0,0,0,0,0,0)).1 (s0.getD s6.toNat (0,0,0,0,0,0,0)).2.1 (s0.getD s6.toNat (0,0,0,0,0,0,0)).2.2.1 (s0.getD s6.toNat (0,0,0,0,0,0,0)).2.2.2.1 (s0.getD s6.toNat (0,0,0,0,0,0,0)).2.2.2.2.1 (s0.getD s6.toNat (0,0,0,0,0,0,0)).2.2.2.2.2.1 (s0.getD s6.toNat (0,0,0,0,0,0,0)).2.2.2.2.2.2 s1).bind fun x0=>
   bif x0 then (bif zB s6 s0.length then (bif zO (r0.length + 1) 56 then (let y0:List zC:=(r0++[(s0.getD s6.toNat (0,0,0,0,0,0,0))])
      rec s0 s1 (zA (s6+1)) y0)
     else none)
    else none)
   else rec s0 s1 (zA (s6+1)) r0)
  else none)
 else some r0
def Im (k:Nat):Nat→qJ6
 |0,_,_,_,_=>none
 |n+1,s0,s1,s6,r0=>Dv k (Im k n) s0 s1 s6 r0
def Du (k:Nat)(a0:List zC)(a1:Int):Option (List zC):=
 (Im k k a0 a1 0 []).bind fun z=>
 some z
abbrev qIl:Type:=Int×Bool×(List zC)×(List zC)×(List zC)
abbrev qWu:Type:=Int→Bool→Int→List zC→List zC→List zC→Option qIl
def Dy (k:Nat)(rec:qWu)(s7:Int)(s9:Bool)(aw:Int)(r0 r1 r2:List zC):Option qIl:=
 bif decide (aw < (r2.length : Int)) then (bif s9 then (bif zB aw r2.length then(rec s7 (decide ((r2.getD aw.toNat (0,0,0,0,0,0,0)).2.2.2.2.1=3)) (zA (aw+1)) r0 r1 r2)
   else none)
  else rec s7 false (zA (aw+1)) r0 r1 r2)
 else some (s7,s9,r0,r1,r2)
def Dx (k:Nat):Nat→qWu
 |0,_,_,_,_,_,_=>none
 |n+1,s7,s9,aw,r0,r1,r2=>Dy k (Dx k n) s7 s9 aw r0 r1 r2
abbrev qWk:Type:=List zC
abbrev qI3:Type:=Int→List zC→List zC→Option qWk
def Dz (k:Nat)(rec:qI3)(s7:Int)(r0 r1:List zC):Option qWk:=
 bif decide (s7 < (r0.length : Int)) then (bif zB s7 r0.length then ((sQ k r0 (r0.getD s7.toNat (0,0,0,0,0,0,0)).2.1).bind fun x1=>
   (Dx k k s7 true 0 r0 r1 x1).bind fun z=>
   bif zB 0 z.2.2.2.2.length then (bif zB z.1 z.2.2.1.length then (bif (decide ((z.2.2.2.2.getD 0 (0, 0, 0, 0, 0, 0, 0)).1 = (z.2.2.1.getD z.1.toNat (0, 0, 0, 0, 0, 0, 0)).1)) && ((decide ((z.2.2.2.2.getD 0 (0, 0, 0, 0, 0, 0, 0)).2.1 = (z.2.2.1.getD z.1.toNat (0, 0, 0, 0, 0, 0, 0)).2.1)) && ((decide ((z.2.2.2.2.getD 0 (0, 0, 0, 0, 0, 0, 0)).2.2.1 = (z.2.2.1.getD z.1.toNat (0, 0, 0, 0, 0, 0, 0)).2.2.1)) && ((decide ((z.2.2.2.2.getD 0 (0, 0, 0, 0, 0, 0, 0)).2.2.2.1 = (z.2.2.1.getD z.1.toNat (0, 0, 0, 0, 0, 0, 0)).2.2.2.1)) && ((decide ((z.2.2.2.2.getD 0 (0, 0, 0, 0, 0, 0, 0)).2.2.2.2.1 = (z.2.2.1.getD z.1.toNat (0, 0, 0, 0, 0, 0, 0)).2.2.2.2.1)) && ((decide ((z.2.2.2.2.getD 0 (0, 0, 0, 0, 0, 0, 0)).2.2.2.2.2.1 = (z.2.2.1.getD z.1.toNat (0, 0, 0, 0, 0, 0, 0)).2.2.2.2.2.1)) && (decide ((z.2.2.2.2.getD 0 (0, 0, 0, 0, 0, 0, 0)).2.2.2.2.2.2 = (z.2.2.1.getD z.1.toNat (0, 0, 0, 0, 0, 0, 0)).2.2.2.2.2.2))))))) then (bif zB z.1 z.2.2.1.length then (bif zO (z.2.2.2.1.length + 1) 56 then (let y0:List zC:=(z.2.2.2.1++[(z.2.2.1.getD z.1.toNat (0,0,0,0,0,0,0))])
        rec (zA (z.1+1)) z.2.2.1 y0)
       else none)
      else none)
     else bif z.2.1 then (bif zB z.1 z.2.2.1.length then (bif zO (z.2.2.2.1.length + 1) 56 then (let y1:List zC:=(z.2.2.2.1++[(z.2.2.1.getD z.1.toNat (0,0,0,0,0,0,0))])
        rec (zA (z.1+1)) z.2.2.1 y1)
       else none)
      else none)
     else rec (zA (z.1+1)) z.2.2.1 z.2.2.2.1)
    else none)
   else none)
  else none)
 else some r1
def Iq (k:Nat):Nat→qI3
 |0,_,_,_=>none
 |n+1,s7,r0,r1=>Dz k (Iq k n) s7 r0 r1
def Ip (k:Nat)(a0:List zC)(a1:Int):Option (List zC):=
 (Du k a0 a1).bind fun x0=>
 (Iq k k 0 x0 []).bind fun z1=>
 some z1
def TI (k:Nat)(au:List zK)(az:EQ)(ay:AC)(ax:EQ)(gm cp dm dW dp il im:Int):Option Bool:=
 bif decide (cp ≥ 0) then (bif decide (cp < (au.length : Int)) then (bif decide (dm ≥ 0) then (bif decide (dm < (au.length : Int)) then (bif !(decide (cp = dm)) then (bif decide (dW ≥ 1) then (bif decide (dW ≤ 1099511627776) then (bif decide (dp≥1) then some (decide (dp≤3))
        else some false)
       else some false)
      else some false)
     else some false)
    else some false)
   else some false)
  else some false)
 else some false
end Go.Ab.Gi
