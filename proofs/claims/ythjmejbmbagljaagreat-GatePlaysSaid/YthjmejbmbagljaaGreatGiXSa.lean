/- part 6 -/
import Derived.Test.YthjmejbmbagljaaGreatGiAbD
set_option linter.unusedVariables false
set_option maxRecDepth 100000
abbrev Go.Ab.Ty.i:Go.Ab.Ty:=.int .i64
abbrev Go.Ab.CS.i:Go.Ab.CS:=.int .i64
abbrev Go.Ab.PC.i:Go.Ab.PC:=.int .i64
abbrev Go.Ab.RC.i:Go.Ab.RC:=.int .i64
namespace Go.Ab.Gi
abbrev aoa:Int×Int×Int:=(0,0,0)
abbrev apa:Int×Int×Int×Int×Int×Int×Int:=(0,0,0,0,0,0,0)
abbrev aqa:Int×Int×Int×Int×Int×Int×Int×Int:=(0,0,0,0,0,0,0,0)
abbrev AC:=List Int
abbrev EQ:=List AC
abbrev wX:Type:=AC×AC×Int×Int×Int×Int×Int×Int×Bool×Bool
abbrev wZ:Type:=AC×Bool
abbrev wE:Go.Ab.Ty:=.pair .i .i
abbrev vR:Type:=Int×AC×Int×AC×Int×Int×Int×Bool×Bool×Int
abbrev eX:Type:=Int×Bool
abbrev wj:Type:=Int×Int×AC×Int×Int
abbrev yS:Type:=Int×Int×Bool
abbrev wK:Type:=Int×Int×Int×Bool
abbrev DA:Type:=Int×Int×Int×Int×Int×Bool×Bool×Int
abbrev Dt:Type:=Int×Int×Int×Int×Int×Int×Bool×Bool
abbrev qU:Type:=Int×Int×Int×Int×Int×Int×Int×Int
abbrev zD:Type:=Int×Int×Int×Int×Int×Int×Int
abbrev Oi:Type:=Int×Int×Int×Int×Int×Int
abbrev zK:Type:=Int×Int×Int
abbrev vH:Type:=Int×Int
abbrev yCi:Type:=(List zD)×Int×Int×Int×Int×Int×Int×Int×Int
abbrev tC:Type:=(List zK)×EQ×AC×EQ×(List zD)×(List zD)
abbrev AI:Type:=(List zK)×EQ×AC×EQ
abbrev qR:Go.Ab.Ty:=.pair .i wE
abbrev I3:Go.Ab.Ty:=.pair (.sl (.int .u8)) wE
abbrev ySh:Type:=Bool×Int×Int×Int×Int×Int×Int×Int×Int×Int×Int×Int×Int×Int×Int×(List zK)×EQ×AC×EQ
abbrev TQ:Type:=Int×(List zK)×EQ×AC×EQ×AC×EQ×(List zD)×AC×Int×Bool×(List qU)
abbrev qY:Type:=Int×(List zK)×EQ×AC×EQ×AC×EQ×(List zD)×AC×Int×Bool
abbrev wc:Type:=Int×(List vH)×Int×Int×Int×Int×(List zK)×EQ×AC×EQ×AC×EQ×(List zD)×AC×Int×Bool×Int×(List qU)×Int
abbrev jO:Type:=Int×(List vH)×Int×Int×Int×Int×(List zK)×EQ×AC×EQ×AC×EQ×(List zD)×AC×Int×Bool×Int×(List qU)
abbrev kz:Type:=Int×(List vH)×Int×Int×Int×Int×(List zK)×EQ×AC×EQ×AC×EQ×(List zD)×AC×Int×Bool×Int×Bool
abbrev rJ:Type:=Int×(List vH)×Int×Int×Int×Int×(List zK)×EQ×AC×EQ×AC×EQ×(List zD)×AC×Int×Bool×Int×Int
abbrev lT:Type:=Int×(List vH)×Int×Int×Int×Int×(List zK)×EQ×AC×EQ×AC×EQ×(List zD)×AC×Int×Bool×Int
abbrev yD:Type:=Int×(List vH)×Int×Int×Int
abbrev vYk:Go.Ab.Ty:=.pair .i qR
abbrev vU7:Go.Ab.Ty:=.pair .i vYk
abbrev vW1:Go.Ab.Ty:=.pair .i vU7
abbrev zH:Go.Ab.Ty:=.pair .i vW1
abbrev yQ:Go.Ab.Ty:=.pair .i zH
abbrev qYx:List Go.Ab.CS:=[.dat false .i,.dat false .i,.dat false (.sl .i)]
abbrev jQ:List Go.Ab.CS:=[.dat false qR,.dat false (.sl .i),.dat false .i,.dat false (.sl .i)]
abbrev pI:List Go.Ab.CS:=[.dat true (.int .u8),.bool]
abbrev wM:List Go.Ab.CS:=[.dat true qR,.dat true (.sl .i),.dat true .i,.dat true (.sl .i)]
abbrev lR:List Go.Ab.CS:=[.i,.dat false qR,.dat false (.sl .i),.dat false .i,.dat false (.sl .i),.dat false .i,.dat false (.sl .i),.dat false zH,.dat false .i,.i,.bool]
abbrev iF:List Go.Ab.CS:=[.i,.dat false wE,.i,.i,.i]
abbrev iG:List Go.Ab.CS:=[.i,.dat true qR,.dat true (.sl .i),.dat true .i,.dat true (.sl .i),.dat true .i,.dat true (.sl .i),.dat true zH,.dat true .i,.i,.bool]
abbrev Je:List Go.Ab.CS:=[.i,.dat true wE,.i,.i,.i]
abbrev qPr:List Go.Ab.CS:=[.i,.dat true wE,.i,.i,.i,.i,.dat true qR,.dat true (.sl .i),.dat true .i,.dat true (.sl .i),.dat true .i,.dat true (.sl .i),.dat true zH,.dat true .i,.i,.bool,.i,.lit (.osl 1001001 none)]
abbrev qS6:List Go.Ab.CS:=[.i,.dat true wE,.i,.i,.i,.i,.dat true qR,.dat true (.sl .i),.dat true .i,.dat true (.sl .i),.dat true .i,.dat true (.sl .i),.dat true zH,.dat true .i,.i,.bool,.i,.lit .nsl]
abbrev qUk:List Go.Ab.CS:=[.i,.dat true wE,.i,.i,.i,.i,.dat true qR,.dat true (.sl .i),.dat true .i,.dat true (.sl .i),.dat true .i,.dat true (.sl .i),.dat true zH,.dat true .i,.i,.bool,.i,.lit .nsl,.i]
abbrev vZ:List Go.Ab.CS:=[.i,.i,.i,.i,.i,.i,.i]
abbrev vI5:List Go.Ab.CS:=[.i,.i,.i,.i,.i,.i,.i,.i,.i,.i,.i,.i,.i,.i,.dat true qR,.dat true (.sl .i),.dat true .i,.dat true (.sl .i)]
abbrev Tb:List Go.Ab.CS:=[.i,.i,.i,.i,.i,.i,.i,.i,.i,.i,.i,.i,.i,.i,.lit .nsl,.lit .nsl,.lit .nsl,.lit .nsl]
abbrev yO8:List Go.Ab.CS:=[.i,.lit (.osl 1001001 none),.i,.lit (.osl 1001002 none),.i,.i,.i,.bool,.bool,.i]
abbrev yZ2:List Go.Ab.CS:=[.i,.lit (.osl 1001002 none),.lit (.osl 1001003 none),.lit (.osl 1001004 none),.lit (.osl 1001005 none),.lit (.osl 1001006 none),.lit (.osl 1001007 none),.lit .nsl,.lit .nsl,.i,.bool]
abbrev yXk:List Go.Ab.CS:=[.i,.lit (.osl 1001003 none),.i,.lit (.osl 1001004 none),.i,.i,.i,.bool,.bool,.i]
abbrev qX4:List Go.Ab.CS:=[.i,.lit (.osl 1001003 none),.lit (.osl 1001004 none),.lit (.osl 1001005 none),.lit (.osl 1001006 none),.lit (.osl 1001007 none),.lit (.osl 1001008 none),.lit (.osl 1001009 none),.lit .nsl,.i,.bool]
abbrev vJr:List Go.Ab.CS:=[.i,.lit (.osl 1001003 none),.lit (.osl 1001004 none),.lit (.osl 1001005 none),.lit (.osl 1001006 none),.lit (.osl 1001007 none),.lit (.osl 1001008 none),.lit .nsl,.lit .nsl,.i,.bool]
abbrev SG:List Go.Ab.CS:=[.i,.lit (.osl 1001003 none),.lit (.osl 1001004 none),.lit (.osl 1001005 none),.lit (.osl 1001006 none),.lit (.osl 1001007 none),.lit .nsl,.lit .nsl,.lit .nsl,.i,.bool]
abbrev SO:List Go.Ab.CS:=[.i,.lit (.osl 1001004 none),.lit .nsl,.lit .nsl,.lit .nsl,.lit .nsl,.lit .nsl,.lit .nsl,.lit .nsl,.i,.bool]
abbrev jV:List Go.Ab.CS:=[.i,.lit .nsl,.lit .nsl,.lit .nsl,.lit .nsl,.lit .nsl,.lit .nsl,.lit .nsl,.lit .nsl,.i,.bool]
abbrev yWv:List Go.Ab.CS:=[.lit (.osl 1001001 none),.lit (.osl 1001002 none),.i,.i,.i,.i,.i,.i,.bool,.bool]
abbrev yD5:List Go.Ab.CS:=[.lit (.osl 1001002 none),.lit (.osl 1001003 none),.lit (.osl 1001004 none)]
abbrev tB:List Go.Ab.CS:=[.lit (.osl 1001003 none),.lit (.osl 1001004 none),.lit (.osl 1001005 none),.lit (.osl 1001006 none)]
abbrev yTm:List Go.Ab.CS:=[.lit (.osl 1001004 none),.lit (.osl 1001005 none),.lit (.osl 1001006 none),.lit (.osl 1001007 none)]
abbrev yM5:List Go.Ab.CS:=[.lit (.osl 1001006 none),.lit (.osl 1001007 none),.i,.i,.i,.i,.i,.i,.bool,.bool]
abbrev Ti:List Go.Ab.CS:=[.lit (.ptr 1001000 0),.i,.i,.i,.bool]
abbrev oH:List Go.Ab.CS:=[.lit .nsl,.lit .nsl,.lit .nsl,.lit .nsl]
abbrev S9:List Go.Ab.PC:=[.dat false .i,.dat false .i,.dat false (.sl .i)]
abbrev Tl:List Go.Ab.PC:=[.dat false (.int .u8),.dat false (.int .u8),.i,.i,.i,.i,.i,.i,.bool,.bool]
abbrev jZ:List Go.Ab.PC:=[.dat false qR,.dat false (.sl .i),.dat false .i,.dat false (.sl .i)]
abbrev lq:List Go.Ab.PC:=[.dat true qR,.dat true (.sl .i),.dat true .i,.dat true (.sl .i)]
abbrev NV:List Go.Ab.PC:=[.i,.dat false (.int .u8),.i,.dat false (.int .u8),.i,.i,.i,.bool,.bool,.i]
abbrev nD:List Go.Ab.PC:=[.i,.dat false qR,.dat false (.sl .i),.dat false .i,.dat false (.sl .i),.dat false .i,.dat false (.sl .i),.dat false zH,.dat false .i,.i,.bool]
abbrev ic:List Go.Ab.PC:=[.i,.dat false wE,.i,.i,.i]
abbrev yAp:List Go.Ab.PC:=[.i,.dat false wE,.i,.i,.i,.i,.dat false qR,.dat false (.sl .i),.dat false .i,.dat false (.sl .i),.dat false .i,.dat false (.sl .i),.dat false zH,.dat false .i,.i,.bool,.i,.dat false yQ]
abbrev yIv:List Go.Ab.PC:=[.i,.dat false wE,.i,.i,.i,.i,.dat false qR,.dat false (.sl .i),.dat false .i,.dat false (.sl .i),.dat false .i,.dat false (.sl .i),.dat false zH,.dat false .i,.i,.bool,.i,.dat false yQ,.i]
abbrev Aw:List Go.Ab.PC:=[.i,.dat true qR,.dat true (.sl .i),.dat true .i,.dat true (.sl .i),.dat true .i,.dat true (.sl .i),.dat true zH,.dat true .i,.i,.bool]
abbrev N6:List Go.Ab.PC:=[.i,.dat true wE,.i,.i,.i]
abbrev oG:List Go.Ab.PC:=[.i,.i,.i]
abbrev NZ:List Go.Ab.PC:=[.i,.i,.i,.i,.i,.i]
abbrev vM:List Go.Ab.PC:=[.i,.i,.i,.i,.i,.i,.i]
abbrev Db:List Go.Ab.PC:=[.i,.i,.i,.i,.i,.i,.i,.i]
abbrev nE:List Go.Ab.RC:=[.fro qR,.fro (.sl .i),.fro .i,.fro (.sl .i)]
abbrev yG:List Go.Ab.RC:=[.i]
abbrev Av:List Go.Ab.RC:=[.i,.fro qR,.fro (.sl .i),.fro .i,.fro (.sl .i),.fro .i,.fro (.sl .i),.fro zH,.fro .i,.i,.bool]
abbrev lO:List Go.Ab.RC:=[.i,.fro wE,.i,.i,.i,.i,.fro qR,.fro (.sl .i),.fro .i,.fro (.sl .i),.fro .i,.fro (.sl .i),.fro zH,.fro .i,.i,.bool,.i,.own yQ]
abbrev Dp:List Go.Ab.RC:=[.i,.fro wE,.i,.i,.i,.i,.fro qR,.fro (.sl .i),.fro .i,.fro (.sl .i),.fro .i,.fro (.sl .i),.fro zH,.fro .i,.i,.bool,.i,.own yQ,.i]
abbrev yU3:List Go.Ab.RC:=[.i,.fro wE,.i,.i,.i,.link 1,.i,.fro qR,.fro (.sl .i),.fro .i,.fro (.sl .i),.fro .i,.fro (.sl .i),.fro zH,.fro .i,.i,.bool,.i,.bool]
abbrev pJ:List Go.Ab.RC:=[.i,.i,.i,.i,.i,.i,.i]
abbrev yBf:List Go.Ab.RC:=[.i,.i,.i,.i,.i,.i,.i,.i]
abbrev jb:List Go.Ab.RC:=[.i,.own (.int .u8),.i,.own (.int .u8),.i,.i,.i,.bool,.bool,.i]
abbrev qWc:List Go.Ab.RC:=[.i,.own qR,.mat,.own .i,.mat,.own .i,.mat,.own zH,.own .i,.i,.bool]
abbrev SM:List Go.Ab.RC:=[.link 0,.i,.i,.i,.bool]
abbrev Sx:List Go.Ab.RC:=[.link 1,.i,.fro wE,.i,.i,.i,.i,.fro qR,.fro (.sl .i),.fro .i,.fro (.sl .i),.fro .i,.fro (.sl .i),.fro zH,.fro .i,.i,.bool,.i,.bool]
abbrev NO:List Go.Ab.RC:=[.link 1,.i,.i,.i,.bool]
abbrev IZ:List Go.Ab.RC:=[.link 2,.i,.i,.i,.bool]
abbrev lN:List Go.Ab.RC:=[.own (.int .u8),.own (.int .u8),.i,.i,.i,.i,.i,.i,.bool,.bool]
abbrev Sw:List Go.Ab.XC:=[.link 1,.p .i,.p (.dat true wE),.p .i,.p .i,.p .i,.p .i,.p (.dat true qR),.p (.dat true (.sl .i)),.p (.dat true .i),.p (.dat true (.sl .i)),.p (.dat true .i),.p (.dat true (.sl .i)),.p (.dat true zH),.p (.dat true .i),.p .i,.p .bool,.p .i,.p .bool]
abbrev NN:List Go.Ab.XC:=[.link 1,.p .i,.p .i,.p .i,.p .bool]
abbrev IY:List Go.Ab.XC:=[.link 2,.p .i,.p .i,.p .i,.p .bool]
abbrev oF:List Go.Ab.XC:=[.own (.int .u8),.own (.int .u8),.p .i,.p .i,.p .i,.p .i,.p .i,.p .i,.p .bool,.p .bool]
abbrev I4:List Go.Ab.XC:=[.p (.dat true (.int .u8)),.p .bool]
abbrev lM:List Go.Ab.XC:=[.p .i,.own (.int .u8),.p .i,.own (.int .u8),.p .i,.p .i,.p .i,.p .bool,.p .bool,.p .i]
abbrev yH5:List Go.Ab.XC:=[.p .i,.p (.dat true wE),.p .i,.p .i,.p .i,.link 1,.p .i,.p (.dat true qR),.p (.dat true (.sl .i)),.p (.dat true .i),.p (.dat true (.sl .i)),.p (.dat true .i),.p (.dat true (.sl .i)),.p (.dat true zH),.p (.dat true .i),.p .i,.p .bool,.p .i,.p .bool]
abbrev Az:List Go.Ab.XC:=[.p .i,.p (.dat true wE),.p .i,.p .i,.p .i,.p .i,.p (.dat true qR),.p (.dat true (.sl .i)),.p (.dat true .i),.p (.dat true (.sl .i)),.p (.dat true .i),.p (.dat true (.sl .i)),.p (.dat true zH),.p (.dat true .i),.p .i,.p .bool,.p .i,.own yQ]
abbrev Ax:List Go.Ab.XC:=[.p .i,.p (.dat true wE),.p .i,.p .i,.p .i,.p .i,.p (.dat true qR),.p (.dat true (.sl .i)),.p (.dat true .i),.p (.dat true (.sl .i)),.p (.dat true .i),.p (.dat true (.sl .i)),.p (.dat true zH),.p (.dat true .i),.p .i,.p .bool,.p .i,.p (.nil)]
abbrev Dn:List Go.Ab.XC:=[.p .i,.p (.dat true wE),.p .i,.p .i,.p .i,.p .i,.p (.dat true qR),.p (.dat true (.sl .i)),.p (.dat true .i),.p (.dat true (.sl .i)),.p (.dat true .i),.p (.dat true (.sl .i)),.p (.dat true zH),.p (.dat true .i),.p .i,.p .bool,.p .i,.p (.nil),.p .i]
section
variable {A B C D E F G H I J K L M N O P Q R S U V W X Z a b Aa Ab Ac Ad Ae Af Ag Ah Ai Aj Ak Al Am An Ao Ap Aq Ar As At T Y:Type}
abbrev jI (x:A×B×C×D)(t:T):=(x.1,x.2.1,x.2.2.1,x.2.2.2,t)
abbrev vK (x:A×B×C×D×E)(t:T):=(x.1,jI x.2 t)
abbrev oI (x:A×B×C×D×E×F)(t:T):=(x.1,vK x.2 t)
abbrev gf (x:A×B×C×D×E×F×G)(t:T):=(x.1,oI x.2 t)
abbrev Dg (x:A×B×C×D×E×F×G×H)(t:T):=(x.1,gf x.2 t)
abbrev SZ (x:A×B×C×D×E×F×G×H×I)(t:T):=(x.1,Dg x.2 t)
abbrev wG (x:A×B×C×D×E×F×G×H×I×J)(t:T):=(x.1,SZ x.2 t)
abbrev vQ (x:A×B×C×D×E×F×G×H×I×J×K)(t:T):=(x.1,wG x.2 t)
abbrev Jb (x:A×B×C×D×E×F×G×H×I×J×K×L)(t:T):=(x.1,vQ x.2 t)
abbrev yOe (x:A×B×C×D×E×F×G×H×I×J×K×L×M)(t:T):=(x.1,Jb x.2 t)
abbrev qY2 (x:A×B×C×D×E×F×G×H×I×J×K×L×M×N)(t:T):=(x.1,yOe x.2 t)
abbrev yY1 (x:A×B×C×D×E×F×G×H×I×J×K×L×M×N×O)(t:T):=(x.1,qY2 x.2 t)
abbrev ahb (x:A×B×C×D×E×F×G×H×I×J×K×L×M×N×O×P)(t:T):=(x.1,yY1 x.2 t)
abbrev vO (x:A×B×C×D×E×F×G×H×I×J×K×L×M×N×O×P×Q)(t:T):=(x.1,ahb x.2 t)
abbrev jT (x:A×B×C×D×E×F×G×H×I×J×K×L×M×N×O×P×Q×R)(t:T):=(x.1,vO x.2 t)
abbrev AF (x:A×B×C×D×E×F×G×H×I×J×K×L×M×N×O×P×Q×R×S)(t:T):=(x.1,jT x.2 t)
abbrev jU (x:A×B×C×D×E):=(x.1,x.2.1,x.2.2.1,x.2.2.2.1)
abbrev yC (x:A×B×C×D×E×F):=(x.1,jU x.2)
abbrev nF (x:A×B×C×D×E×F×G):=(x.1,yC x.2)
abbrev vS (x:A×B×C×D×E×F×G×H):=(x.1,nF x.2)
abbrev kq (x:A×B×C×D×E×F×G×H×I):=(x.1,vS x.2)
abbrev S0 (x:A×B×C×D×E×F×G×H×I×J):=(x.1,kq x.2)
abbrev vX (x:A×B×C×D×E×F×G×H×I×J×K):=(x.1,S0 x.2)
abbrev qP (x:A×B×C×D×E×F×G×H×I×J×K×L):=(x.1,vX x.2)
abbrev Jc (x:A×B×C×D×E×F×G×H×I×J×K×L×M):=(x.1,qP x.2)
abbrev TX (x:A×B×C×D×E×F×G×H×I×J×K×L×M×N):=(x.1,Jc x.2)
abbrev yRt (x:A×B×C×D×E×F×G×H×I×J×K×L×M×N×O):=(x.1,TX x.2)
abbrev vD2 (x:A×B×C×D×E×F×G×H×I×J×K×L×M×N×O×P):=(x.1,yRt x.2)
abbrev ahc (x:A×B×C×D×E×F×G×H×I×J×K×L×M×N×O×P×Q):=(x.1,vD2 x.2)
abbrev lP (x:A×B×C×D×E×F×G×H×I×J×K×L×M×N×O×P×Q×R):=(x.1,ahc x.2)
abbrev eW (x:A×B×C×D×E×F×G×H×I×J×K×L×M×N×O×P×Q×R×S):=(x.1,lP x.2)
abbrev Tc (x:A×B×C×D×E×F×G×H×I×J×K×L×M×N×O×P×Q×R×S×U):=(x.1,eW x.2)
abbrev vW (x:A×B×C×D×E)(t:T):=(x.1,x.2.1,x.2.2.1,x.2.2.2.1,t)
abbrev fL (x:A×B×C×D×E×F)(t:T):=(x.1,vW x.2 t)
abbrev jD (x:A×B×C×D×E×F×G)(t:T):=(x.1,fL x.2 t)
abbrev kk (x:A×B×C×D×E×F×G×H)(t:T):=(x.1,jD x.2 t)
abbrev ahd (x:A×B×C×D×E×F×G×H×I)(t:T):=(x.1,kk x.2 t)
abbrev qV6 (x:A×B×C×D×E×F×G×H×I×J)(t:T):=(x.1,ahd x.2 t)
abbrev vQ2 (x:A×B×C×D×E×F×G×H×I×J×K)(t:T):=(x.1,qV6 x.2 t)
abbrev AE (x:A×B×C×D×E×F×G×H×I×J×K×L)(t:T):=(x.1,vQ2 x.2 t)
abbrev kx (x:A×B×C×D×E×F×G×H×I×J×K×L×M)(t:T):=(x.1,AE x.2 t)
abbrev vKy (x:A×B×C×D×E×F×G×H×I×J×K×L×M×N)(t:T):=(x.1,kx x.2 t)
abbrev qTb (x:A×B×C×D×E×F×G×H×I×J×K×L×M×N×O)(t:T):=(x.1,vKy x.2 t)
abbrev ahe (x:A×B×C×D×E×F×G×H×I×J×K×L×M×N×O×P)(t:T):=(x.1,qTb x.2 t)
abbrev vTk (x:A×B×C×D×E×F×G×H×I×J×K×L×M×N×O×P×Q)(t:T):=(x.1,ahe x.2 t)
abbrev yI (x:A×B×C×D×E×F×G×H×I×J×K×L×M×N×O×P×Q×R)(t:T):=(x.1,vTk x.2 t)
abbrev yY2 (x:A×B×C×D×E×F×G×H×I×J×K×L×M×N×O×P×Q×R×S)(t:T):=(x.1,yI x.2 t)
abbrev vI (f:A→B→C→D→Y)(x:A×B×C×D×E):Y:=f x.1 x.2.1 x.2.2.1 x.2.2.2.1
abbrev lQ (f:A→B→C→D→E→Y)(x:A×B×C×D×E×F):Y:=vI (f x.1) x.2
abbrev ku (f:A→B→C→D→E→F→Y)(x:A×B×C×D×E×F×G):Y:=lQ (f x.1) x.2
abbrev mG (f:A→B→C→D→E→F→G→Y)(x:A×B×C×D×E×F×G×H):Y:=ku (f x.1) x.2
abbrev mF (f:A→B→C→D→E→F→G→H→Y)(x:A×B×C×D×E×F×G×H×I):Y:=mG (f x.1) x.2
abbrev S8 (f:A→B→C→D→E→F→G→H→I→Y)(x:A×B×C×D×E×F×G×H×I×J):Y:=mF (f x.1) x.2
abbrev vT1 (f:A→B→C→D→E→F→G→H→I→J→Y)(x:A×B×C×D×E×F×G×H×I×J×K):Y:=S8 (f x.1) x.2
abbrev tA (f:A→B→C→D→E→F→G→H→I→J→K→Y)(x:A×B×C×D×E×F×G×H×I×J×K×L):Y:=vT1 (f x.1) x.2
abbrev N5 (f:A→B→C→D→E→F→G→H→I→J→K→L→Y)(x:A×B×C×D×E×F×G×H×I×J×K×L×M):Y:=tA (f x.1) x.2
abbrev qLv (f:A→B→C→D→E→F→G→H→I→J→K→L→M→Y)(x:A×B×C×D×E×F×G×H×I×J×K×L×M×N):Y:=N5 (f x.1) x.2
abbrev I6 (f:A→B→C→D→E→F→G→H→I→J→K→L→M→N→Y)(x:A×B×C×D×E×F×G×H×I×J×K×L×M×N×O):Y:=qLv (f x.1) x.2
abbrev ahf (f:A→B→C→D→E→F→G→H→I→J→K→L→M→N→O→Y)(x:A×B×C×D×E×F×G×H×I×J×K×L×M×N×O×P):Y:=I6 (f x.1) x.2
abbrev vIa (f:A→B→C→D→E→F→G→H→I→J→K→L→M→N→O→P→Y)(x:A×B×C×D×E×F×G×H×I×J×K×L×M×N×O×P×Q):Y:=ahf (f x.1) x.2
abbrev ahg (f:A→B→C→D→E→F→G→H→I→J→K→L→M→N→O→P→Q→Y)(x:A×B×C×D×E×F×G×H×I×J×K×L×M×N×O×P×Q×R):Y:=vIa (f x.1) x.2
abbrev vMe (f:A→B→C→D→E→F→G→H→I→J→K→L→M→N→O→P→Q→R→Y)(x:A×B×C×D×E×F×G×H×I×J×K×L×M×N×O×P×Q×R×S):Y:=ahg (f x.1) x.2
abbrev aec (f:A→B→C→D→E→F→G→H→I→J→K→L→M→N→O→P→Q→R→S→Y)(x:A×B×C×D×E×F×G×H×I×J×K×L×M×N×O×P×Q×R×S×U):Y:=vMe (f x.1) x.2
abbrev qPm (x:A×B×C×D×E×F×G×H×I×J×K×L×M×N×O×P×Q)(t:T):=jI x.2.2.2.2.2.2.2.2.2.2.2.2.2 t
abbrev Cz (x:A×B×C×D×E×F)(t:T):=jI x.2.2 t
abbrev vZg (x:A×B×C×D×E×F×G)(t:T):=jI x.2.2.2 t
abbrev yUy (x:A×B×C×D×E×F×G×H)(t:T):=jI x.2.2.2.2 t
abbrev vMc (x:A×B×C×D×E×F×G×H×I)(t:T):=jI x.2.2.2.2.2 t
abbrev aeB (x:A×B×C×D×E×F×G×H×I×J×K×L)(t:T):=jI x.2.2.2.2.2.2.2.2 t
abbrev yS6 (x:A×B×C×D×E×F×G×H×I×J×K×L×M×N×O×P×Q)(t:T):=vK x.2.2.2.2.2.2.2.2.2.2.2.2 t
abbrev qQi (x:A×B×C×D×E×F×G×H×I×J×K×L×M×N×O×P×Q)(t:T):=oI x.2.2.2.2.2.2.2.2.2.2.2 t
abbrev yIe (x:A×B×C×D×E×F×G×H)(t:T):=oI x.2.2 t
abbrev qYr (x:A×B×C×D×E×F×G×H×I×J×K×L×M×N×O×P×Q)(t:T):=gf x.2.2.2.2.2.2.2.2.2.2 t
abbrev vFy (x:A×B×C×D×E×F×G×H)(t:T):=gf x.2 t
abbrev N4 (x:A×B×C×D×E×F×G×H×I×J×K)(t:T):=gf x.2.2.2.2 t
abbrev yF8 (x:A×B×C×D×E×F×G×H×I×J×K×L×M×N)(t:T):=gf x.2.2.2.2.2.2.2 t
abbrev vIg (x:A×B×C×D×E×F×G×H×I×J×K×L×M×N×O)(t:T):=gf x.2.2.2.2.2.2.2.2 t
abbrev ahh (x:A×B×C×D×E×F×G×H×I×J×K×L)(t:T):=vQ x.2 t
abbrev lK (x:A×B×C×D×E×F×G×H×I×J×K×L×M×N×O×P×Q×R)(t:T):=vQ x.2.2.2.2.2.2.2 t
abbrev qUp (x:A×B×C×D×E×F×G×H×I×J×K×L×M×N×O×P×Q×R)(t:T):=yOe x.2.2.2.2.2 t
abbrev vQe (x:A×B×C×D×E×F×G×H×I×J×K×L×M×N×O)(t:T):=qY2 x.2 t
abbrev yBm (x:A×B×C×D×E×F×G×H×I×J×K×L×M×N×O×P×Q×R×S)(t:T):=jT x.2 t
abbrev yTn (x:A×B×C×D×E×F×G×H×I×J×K×L×M×N×O×P×Q×R×S×U):=jU x.2.2.2.2.2.2.2.2.2.2.2.2.2.2.2
abbrev Au (x:A×B×C×D×E×F):=jU x.2
abbrev I1 (x:A×B×C×D×E×F×G×H×I×J×K×L×M×N×O×P×Q×R×S×U×V×W×X×Z×a):=jU x.2.2.2.2.2.2.2.2.2.2.2.2.2.2.2.2.2.2.2.2
abbrev NR (x:A×B×C×D×E×F×G×H×I×J×K×L×M×N×O×P×Q×R×S×U×V×W×X×Z×a×b):=jU x.2.2.2.2.2.2.2.2.2.2.2.2.2.2.2.2.2.2.2.2.2
abbrev NP (x:A×B×C×D×E×F×G):=jU x.2.2
abbrev abY (x:A×B×C×D×E×F×G×H×I×J×K×L×M×N×O×P×Q×R×S×U×V×W×X×Z×a×b×Aa×Ab×Ac×Ad×Ae×Af×Ag×Ah×Ai×Aj):=jU x.2.2.2.2.2.2.2.2.2.2.2.2.2.2.2.2.2.2.2.2.2.2.2.2.2.2.2.2.2.2.2
abbrev yLg (x:A×B×C×D×E×F×G×H×I×J×K×L×M×N×O×P×Q×R×S×U×V×W×X×Z×a×b×Aa×Ab×Ac×Ad×Ae×Af×Ag×Ah×Ai×Aj×Ak):=jU x.2.2.2.2.2.2.2.2.2.2.2.2.2.2.2.2.2.2.2.2.2.2.2.2.2.2.2.2.2.2.2.2
abbrev vFe (x:A×B×C×D×E×F×G×H×I×J×K×L×M×N×O×P×Q×R×S×U×V×W×X×Z×a):=nF x.2.2.2.2.2.2.2.2.2.2.2.2.2.2.2.2.2.2
abbrev vRj (x:A×B×C×D×E×F×G×H×I×J×K×L×M×N×O×P×Q×R×S×U×V×W×X×Z×a×b):=nF x.2.2.2.2.2.2.2.2.2.2.2.2.2.2.2.2.2.2.2
abbrev yT3 (x:A×B×C×D×E×F×G×H×I×J×K×L×M×N×O×P×Q×R×S×U×V×W×X×Z×a×b×Aa):=nF x.2.2.2.2.2.2.2.2.2.2.2.2.2.2.2.2.2.2.2.2
abbrev I8 (x:A×B×C×D×E×F×G×H×I×J×K×L×M×N×O×P×Q×R×S×U×V×W×X×Z×a×b):=vS x.2.2.2.2.2.2.2.2.2.2.2.2.2.2.2.2.2.2
abbrev vWg (x:A×B×C×D×E×F×G×H×I×J×K×L×M×N×O×P×Q×R×S×U×V×W×X×Z×a×b×Aa):=vS x.2.2.2.2.2.2.2.2.2.2.2.2.2.2.2.2.2.2.2
abbrev SX (x:A×B×C×D×E×F×G×H×I):=vS x.2
abbrev yCg (x:A×B×C×D×E×F×G×H×I×J×K×L×M×N):=vS x.2.2.2.2.2.2
abbrev yC3 (x:A×B×C×D×E×F×G×H×I×J×K×L×M×N×O):=vS x.2.2.2.2.2.2.2
abbrev qZd (x:A×B×C×D×E×F×G×H×I×J×K×L×M×N×O×P×Q×R×S×U×V×W×X×Z×a):=kq x.2.2.2.2.2.2.2.2.2.2.2.2.2.2.2.2
abbrev vQ0 (x:A×B×C×D×E×F×G×H×I×J×K×L×M×N×O×P×Q×R×S×U×V×W×X×Z×a×b×Aa×Ab×Ac×Ad×Ae×Af×Ag×Ah×Ai×Aj×Ak×Al×Am×An×Ao×Ap×Aq):=kq x.2.2.2.2.2.2.2.2.2.2.2.2.2.2.2.2.2.2.2.2.2.2.2.2.2.2.2.2.2.2.2.2.2.2
abbrev vW2 (x:A×B×C×D×E×F×G×H×I×J×K×L×M×N):=kq x.2.2.2.2.2
abbrev pH (x:A×B×C×D×E×F×G×H×I×J×K×L):=vX x.2
abbrev I2 (x:A×B×C×D×E×F×G×H×I×J×K×L×M×N×O×P×Q×R×S×U×V×W×X×Z×a×b×Aa×Ab×Ac×Ad×Ae×Af×Ag×Ah×Ai):=vX x.2.2.2.2.2.2.2.2.2.2.2.2.2.2.2.2.2.2.2.2.2.2.2.2
abbrev NS (x:A×B×C×D×E×F×G×H×I×J×K×L×M×N×O×P×Q×R×S×U×V×W×X×Z×a×b×Aa×Ab×Ac×Ad×Ae×Af×Ag×Ah×Ai×Aj):=vX x.2.2.2.2.2.2.2.2.2.2.2.2.2.2.2.2.2.2.2.2.2.2.2.2.2
abbrev Tj (x:A×B×C×D×E×F×G×H×I×J×K×L×M):=vX x.2.2
abbrev abZ (x:A×B×C×D×E×F×G×H×I×J×K×L×M×N×O×P×Q×R×S×U×V×W×X×Z×a×b×Aa×Ab×Ac×Ad×Ae×Af×Ag×Ah×Ai×Aj×Ak×Al×Am×An×Ao×Ap×Aq×Ar×As×At):=vX x.2.2.2.2.2.2.2.2.2.2.2.2.2.2.2.2.2.2.2.2.2.2.2.2.2.2.2.2.2.2.2.2.2.2.2
abbrev SN (x:A×B×C×D×E×F×G×H×I×J×K×L×M×N×O):=vX x.2.2.2.2
abbrev Dc (x:A×B×C×D×E×F×G×H×I×J×K×L×M×N×O×P):=vX x.2.2.2.2.2
abbrev NQ (x:A×B×C×D×E×F×G×H×I×J×K×L×M×N×O×P×Q):=vX x.2.2.2.2.2.2
abbrev ab7 (x:A×B×C×D×E×F×G×H×I×J×K×L×M×N×O×P×Q×R×S×U×V×W×X):=qP x.2.2.2.2.2.2.2.2.2.2.2
abbrev jS (x:A×B×C×D×E×F×G×H×I×J×K×L×M×N×O×P×Q):=qP x.2.2.2.2.2
abbrev vXh (x:A×B×C×D×E×F×G×H×I×J×K×L×M×N×O×P×Q×R×S):=qP x.2.2.2.2.2.2.2
abbrev ag3 (x:A×B×C×D×E×F×G×H×I×J×K×L×M×N×O×P×Q×R×S×U×V×W×X×Z×a×b×Aa×Ab×Ac×Ad×Ae×Af):=TX x.2.2.2.2.2.2.2.2.2.2.2.2.2.2.2.2.2.2
abbrev vCi (x:A×B×C×D×E×F×G×H×I×J×K×L×M×N×O×P×Q×R×S×U):=TX x.2.2.2.2.2.2
abbrev vA6 (x:A×B×C×D×E×F×G×H×I×J×K×L×M×N×O×P×Q×R×S×U×V):=TX x.2.2.2.2.2.2.2
abbrev vQj (x:A×B×C×D×E×F×G×H×I×J×K×L×M×N×O×P×Q×R×S×U×V×W×X×Z×a×b×Aa×Ab×Ac×Ad×Ae):=eW x.2.2.2.2.2.2.2.2.2.2.2.2
abbrev vY2 (x:A×B×C×D×E×F×G×H×I×J×K×L×M×N×O×P×Q×R×S×U×V×W×X×Z×a×b×Aa×Ab×Ac×Ad×Ae×Af):=eW x.2.2.2.2.2.2.2.2.2.2.2.2.2
abbrev kt (x:A×B×C×D×E×F×G×H×I×J×K×L×M×N×O×P×Q×R×S×U):=eW x.2
abbrev qM7 (x:A×B×C×D×E×F×G×H×I×J×K×L×M×N×O×P×Q×R×S×U×V):=eW x.2.2
abbrev Dq (x:A×B×C×D×E×F×G×H×I×J×K×L×M×N×O×P×Q×R×S×U×V):=Tc x.2
abbrev Jk (x:A×B×C×D×E×F×G×H×I×J×K×L×M×N×O)(t:T):=vW x.2.2.2.2.2.2.2.2.2.2 t
abbrev TR (x:A×B×C×D×E×F×G×H×I×J×K×L×M×N×O×P×Q×R)(t:T):=vW x.2.2.2.2.2.2.2.2.2.2.2.2.2 t
abbrev iI (x:A×B×C×D×E×F)(t:T):=vW x.2 t
abbrev SS (x:A×B×C×D×E×F×G)(t:T):=vW x.2.2 t
abbrev vLc (x:A×B×C×D×E×F×G×H×I×J)(t:T):=vW x.2.2.2.2.2 t
abbrev qSg (x:A×B×C×D×E×F×G×H×I×J×K×L×M×N×O×P×Q×R)(t:T):=fL x.2.2.2.2.2.2.2.2.2.2.2.2 t
abbrev yPi (x:A×B×C×D×E×F×G)(t:T):=fL x.2 t
abbrev ahi (x:A×B×C×D×E×F×G×H×I×J)(t:T):=fL x.2.2.2.2 t
abbrev yPz (x:A×B×C×D×E×F×G×H×I×J×K×L×M×N×O×P×Q×R)(t:T):=jD x.2.2.2.2.2.2.2.2.2.2.2 t
abbrev qYm (x:A×B×C×D×E×F×G×H×I×J×K×L×M×N×O×P×Q×R)(t:T):=kk x.2.2.2.2.2.2.2.2.2.2 t
abbrev agm (x:A×B×C×D×E×F×G×H×I×J×K×L×M×N×O×P×Q×R×S×U)(t:T):=kk x.2.2.2.2.2.2.2.2.2.2.2.2 t
abbrev yFk (x:A×B×C×D×E×F×G×H×I)(t:T):=kk x.2 t
abbrev agl (x:A×B×C×D×E×F×G×H×I×J×K×L×M)(t:T):=kk x.2.2.2.2.2 t
abbrev vZi (x:A×B×C×D×E×F×G×H×I×J×K×L×M×N×O×P×Q)(t:T):=AE x.2.2.2.2.2 t
abbrev aeG (x:A×B×C×D×E×F×G×H×I×J×K×L×M×N×O×P×Q×R×S×U×V)(t:T):=qTb x.2.2.2.2.2.2 t
abbrev RZ (x:A×B×C×D×E×F×G×H×I×J×K×L×M×N×O×P×Q×R×S)(t:T):=yI x.2 t
end
def lU:AC:=[0,1,2,2,3,3,3,3,4,4,4,4,4,4,4,4,5,5,5,5,5,5,5,5,5,5,5,5,5,5,5,5,6,6,6,6,6,6,6,6,6,6,6,6,6,6,6,6,6,6,6,6,6,6,6,6,6,6,6,6,6,6,6,6,7,7,7,7,7,7,7,7,7,7,7,7,7,7,7,7,7,7,7,7,7,7,7,7,7,7,7,7,7,7,7,7,7,7,7,7,7,7,7,7,7,7,7,7,7,7,7,7,7,7,7,7,7,7,7,7,7,7,7,7,7,7,7,7,8,8,8,8,8,8,8,8,8,8,8,8,8,8,8,8,8,8,8,8,8,8,8,8,8,8,8,8,8,8,8,8,8,8,8,8,8,8,8,8,8,8,8,8,8,8,8,8,8,8,8,8,8,8,8,8,8,8,8,8,8,8,8,8,8,8,8,8,8,8,8,8,8,8,8,8,8,8,8,8,8,8,8,8,8,8,8,8,8,8,8,8,8,8,8,8,8,8,8,8,8,8,8,8,8,8,8,8,8,8,8,8,8,8,8,8,8,8,8,8,8,8,8,8,8,8,8,8]
abbrev qVx:Type:=(List wj)×Int
abbrev qXv:Type:=List wj→Int→Int→Option qVx
def IX (k:Nat)(rec:qXv):qXv:=fun s0 s3 s4=>
 cond (decide (s4<s0.length)) (cond (decide (s4<200)) (cond (zB s4 s0.length) (rec s0 (zA (s3+((s0.getD s4.toNat (0,0,[],0,0)).2.2.1.length:Int))) (zA (s4+1))) none)<|some (s0,s3))<|some (s0,s3)
def IW (k:Nat):Nat→qXv:=qZ (fun _ _ _=>none) (IX k)
def Sq (k:Nat)(a0:List wj):Option Bool:=
 (IW k k a0 0 0).bind fun z=>cond (decide ((z.1.length:Int)>100)) (some true)<|some (decide (z.2>8000))
def kp (k:Nat)(a0:Int):Option yD:=
 cond (decide ((yK .i64 a0 3)=1)) (some (4,[(100,1000),(7,0)],12,20,100))<|cond (decide ((yK .i64 a0 3)=2)) (some (3,[],20,20,4))<|cond (decide ((yK .i64 a0 3)=3)) (some (3,[(100,1000),(7,0)],0,6,1))<|some (3,[(100,1000),(7,0)],12,20,4)
def Ss (k:Nat)(a0:Int):Option (vR⊕Unit):=
 cond (decide (a0<0)) (some (.inr ()))<|cond (decide (a0>200000)) (some (.inr ()))<|some (.inl (a0,[],0,[],0,0,0,false,false,0))
def Su (k:Nat)(a0:Int):Option (wX⊕Unit):=
 cond (decide (a0<0)) (some (.inr ()))<|cond (decide (a0>200000)) (some (.inr ()))<|some (.inl ([],[],0,0,a0,0,0,0,false,false))
def tz (k:Nat)(a0 a1 a2:Int):Option Bool:=
 cond (decide (a0≥a1)) (some (decide (a0≤a2)))<|some false
def vJl (k:Nat)(a0:vH):Option Bool:=
 (tz k a0.1 0 1048576).bind fun x0=>cond (!x0) (some true)<|(tz k a0.2 0 10000).bind fun x1=>some (!x1)
abbrev qTf:Type:=List vH→Int→Int→Option (Unit⊕Int)
def yUr (k:Nat)(rec:qTf):qTf:=fun s0 s7 s8=>
 cond (decide (s8<s7)) (cond (zB s8 s0.length) ((vJl k (s0.getD s8.toNat (0,0))).bind fun x0=>cond x0 (some (.inr s8))<|rec s0 s7 (zA (s8+1))) none)<|some (.inl ())
def qYy (k:Nat):Nat→qTf:=qZ (fun _ _ _=>none) (yUr k)
def yVv (k:Nat)(a0:List vH):Option Int:=
 (qYy k k a0 (a0.length:Int) 0).bind fun z=>match z with
 |.inl z1=>some (-1)
 |.inr z2=>some z2
def vD4 (k:Nat)(a0:List vH):Option Bool:=
 (yVv k a0).bind fun x0=>some (decide (x0≥0))
def NG (k:Nat)(a0:yD):Option Bool:=
 (tz k a0.1 1 6).bind fun x0=>cond x0 ((tz k a0.2.2.2.1 1 1048576).bind fun x1=>cond x1 ((tz k a0.2.2.1 0 a0.2.2.2.1).bind fun x2=>cond x2 ((tz k a0.2.2.2.2 1 1048576).bind fun x3=>cond (decide ((a0.2.1.length : Int)≤3)) (cond x3 ((vD4 k a0.2.1).bind fun x4=>some (!x4))<|some false)<|some false)<|cond (decide ((a0.2.1.length:Int)≤3)) (some false)<|some false)<|cond (decide ((a0.2.1.length:Int)≤3)) (some false)<|some false)<|(tz k a0.2.2.2.1 1 1048576).bind fun x5=>cond x5 ((tz k a0.2.2.1 0 a0.2.2.2.1).bind fun x6=>cond x6 ((tz k a0.2.2.2.2 1 1048576).bind fun x7=>some false)<|some false)<|some false
def SD (k:Nat)(a0:Int):Option Bool:=
 cond (decide (a0≥0)) (some (decide (a0<2)))<|some false
def CZ (k:Nat)(a0:AC):Option AC:=
 cond (zO (0+a0.length) 1) (some a0) none
def qNb (k:Nat)(a0:vR)(a1:Int):Option AC:=
 (SD k a1).bind fun x0=>cond (!x0) (some [])<|cond (decide (a1=0)) ((CZ k a0.2.1).bind fun x1=>some x1)<|cond (decide (a1=1)) ((CZ k a0.2.2.2.1).bind fun x2=>some x2) none
abbrev qWj:Type:=AC×EQ
abbrev yBs:Type:=AC→EQ→Option qWj
def Sf (k:Nat)(rec:yBs):yBs:=fun s0 r0=>
 cond (decide ((s0.length : Int)≥2)) (cond (zB 0 s0.length) (cond (zB 1 s0.length) (cond (decide ((wU .i64 (shl .i64 (zA ((s0.getD 0 0))) 8) (zA ((s0.getD 1 0))))>60000)) (some (s0,r0))<|cond (decide ((wU .i64 (shl .i64 (zA ((s0.getD 0 0))) 8) (zA ((s0.getD 1 0))))>(zA ((s0.length:Int)-2)))) (some (s0,r0))<|cond ((decide (2≤(zA (2+(wU .i64 (shl .i64 (zA ((s0.getD 0 0))) 8) (zA ((s0.getD 1 0))))))))&&(decide ((zA (2+(wU .i64 (shl .i64 (zA ((s0.getD 0 0))) 8) (zA ((s0.getD 1 0))))))≤(s0.length : Int)))) (cond (zO (0+(qO s0 2 ((zA (2+(wU .i64 (shl .i64 (zA ((s0.getD 0 0))) 8) (zA ((s0.getD 1 0)))))).toNat - 2)).length) 1) (let y0:AC:=(qO s0 2 ((zA (2+(wU .i64 (shl .i64 (zA ((s0.getD 0 0))) 8) (zA ((s0.getD 1 0)))))).toNat-2))
      cond (zO (r0.length+1) 24) (cond ((decide (0≤(zA (2+(wU .i64 (shl .i64 (zA ((s0.getD 0 0))) 8) (zA ((s0.getD 1 0))))))))&&(decide ((zA (2+(wU .i64 (shl .i64 (zA ((s0.getD 0 0))) 8) (zA ((s0.getD 1 0))))))≤(s0.length:Int)))) (rec (List.drop (zA (2+(wU .i64 (shl .i64 (zA ((s0.getD 0 0))) 8) (zA ((s0.getD 1 0)))))).toNat s0) (r0++[y0])) none) none) none) none) none) none)<|some (s0,r0)
def Nt (k:Nat):Nat→yBs:=qZ (fun _ _=>none) (Sf k)
def qUt (k:Nat)(a0:AC):Option (EQ×Int):=
 (Nt k k a0 []).bind fun z=>some (z.2,(z.1.length:Int))
abbrev qSx:Type:=AC×Int×AC
abbrev qQo:Type:=AC→Int→AC→Int→Int→AC→Option qSx
def PW (k:Nat)(rec:qQo):qQo:=fun s0 s5 bE bb gb r0=>
 cond (decide (gb<bb)) (cond (zB gb bE.length) (rec s0 (wU .u64 (shl .u64 s5 8) (IntKind.wrap .u64 ((bE.getD gb.toNat 0)))) bE bb (zA (gb+1)) r0) none)<|some (s0,s5,r0)
def EW (k:Nat):Nat→qQo:=qZ (fun _ _ _ _ _ _=>none) (PW k)
def EY (k:Nat)(rec:AC→AC→Option AC)(s0 r0:AC):Option AC:=
 cond (decide ((s0.length : Int)>0)) (cond (decide (8≤(s0.length : Int))) ((EW k k s0 0 (List.take 8 s0) ((List.take 8 s0).length:Int) 0 r0).bind fun z=>cond (zO (z.2.2.length+1) 8) (cond (decide (8≤(z.1.length:Int))) (rec (List.drop 8 z.1) (z.2.2++[(zA (z.2.1))])) none) none) none)<|some r0
def EX (k:Nat):Nat→AC→AC→Option AC:=qZ (fun _ _=>none) (EY k)
def sQ (k:Nat)(a0:AC):Option (AC×Int):=
 cond (!(decide ((Int.tmod (a0.length:Int) 8)=0))) (some ([],2))<|(EX k k a0 []).bind fun z1=>some (z1,0)
def IF (k:Nat)(a0:vR)(a1:Int):Option (Int×AC×EQ):=
 (qNb k a0 a1).bind fun x0=>(qUt k x0).bind fun x1=>cond (decide ((x1.1.length:Int)=0)) (some (0,[],[]))<|cond (zB 0 x1.1.length) (cond (decide (((x1.1.getD 0 []).length:Int)<8)) (some (0,[],[]))<|cond (zB 0 x1.1.length) (cond (decide (8≤((x1.1.getD 0 []).length : Int))) ((sQ k (List.take 8 (x1.1.getD 0 []))).bind fun x2=>cond (zB 0 x2.1.length) (cond (decide ((x2.1.getD 0 0)<1)) (some (0,[],[]))<|cond (zB 0 x2.1.length) (cond (decide ((x2.1.getD 0 0)>4611686018427387904)) (some (0,[],[]))<|cond (zB 0 x2.1.length) (cond (zB 0 x1.1.length) (cond (decide (8≤((x1.1.getD 0 []).length : Int))) (cond (decide (1≤(x1.1.length:Int))) (some ((x2.1.getD 0 0),(List.drop 8 (x1.1.getD 0 [])),(qO x1.1 1 (x1.1.length-1)))) none) none) none) none) none) none) none) none) none
def Nw (k:Nat)(a0:vR):Option (Int×Int×AC×EQ×Bool):=
 (IF k a0 0).bind fun x0=>cond (decide (x0.1>0)) ((IF k a0 1).bind fun x1=>cond (decide (x1.1>x0.1)) (some (x1.1,1,x1.2.1,x1.2.2,true))<|some (x0.1,0,x0.2.1,x0.2.2,true))<|(IF k a0 1).bind fun x2=>cond (decide (x2.1>0)) (some (x2.1,1,x2.2.1,x2.2.2,true))<|some (0,0,[],[],false)
def Lt (k:Nat)(a0:Int):Option Bool:=
 cond (decide (a0≥0)) (some (decide (a0≤6)))<|some false
abbrev qQw:Type:=Int→Int→Int→AC→Option AC
def FP (k:Nat)(rec:qQw):qQw:=fun s1 bm bh r0=>
 cond (decide (bh<bm)) (cond (zB bh r0.length) (rec s1 bm (zA (bh+1)) (r0.set bh.toNat s1)) none)<|some r0
def Lu (k:Nat):Nat→qQw
 |0,_,_,_,_=>none
 |n+1,s1,bm,bh,r0=>FP k (Lu k n) s1 bm bh r0
def B1 (k:Nat)(a0 a1:Int):Option AC:=
 (Lt k a0).bind fun x0=>cond (!x0) (some [])<|cond (pb a0 a0 8) ((Lu k k a1 ((List.replicate a0.toNat (0:Int)).length:Int) 0 (List.replicate a0.toNat (0:Int))).bind fun z=>some z) none
abbrev yA6:Type:=Int→Int→Int→Int→EQ→Option EQ
def FR (k:Nat)(rec:yA6):yA6:=fun s0 s1 bm bh m0=>
 cond (decide (bh<bm)) ((B1 k s0 s1).bind fun x1=>cond (zB bh m0.length) (rec s0 s1 bm (zA (bh+1)) (m0.set bh.toNat x1)) none)<|some m0
def Lv (k:Nat):Nat→yA6
 |0,_,_,_,_,_=>none
 |n+1,s0,s1,bm,bh,m0=>FR k (Lv k n) s0 s1 bm bh m0
def FQ (k:Nat)(a0 a1:Int):Option EQ:=
 (Lt k a0).bind fun x0=>cond (!x0) (some [])<|cond (pb a0 a0 24) ((Lv k k a0 a1 ((List.replicate a0.toNat ([]:AC)).length:Int) 0 (List.replicate a0.toNat ([]:AC))).bind fun z=>some z) none
abbrev qM1:Type:=Int×yD×yS×yS×(List zK)×EQ×AC×EQ×AC
abbrev qYw:Type:=Int→List vH→Int→Int→yD→yS→yS→List zK→EQ→AC→EQ→AC→Option qM1
def yKr (k:Nat)(rec:qYw):qYw:=fun s3 cM s21 TY b0 b1 b2 r3 m4 r5 m6 r7=>
 cond (decide (TY<s21)) (cond (zB TY cM.length) (cond (zO (r7.length+1) 8) (rec s3 cM s21 (zA (TY+1)) b0 b1 b2 r3 m4 r5 m6 (r7++[(cM.getD TY.toNat (0,0)).1])) none) none)<|some (s3,b0,b1,b2,r3,m4,r5,m6,r7)
def qPl (k:Nat):Nat→qYw:=qZ (fun _ _ _ _ _ _ _ _ _ _ _ _=>none) (yKr k)
abbrev qR8:Type:=yS×yS×(List zK)×EQ×AC×EQ×AC×EQ
abbrev qXg:Type:=Int→Int→yD→yS→yS→List zK→EQ→AC→EQ→AC→EQ→Option qR8
def yIb (k:Nat)(rec:qXg):qXg:=fun DB tG b0 b1 b2 r3 m4 r5 m6 r7 m8=>
 cond (decide (tG<DB)) (cond (pb (b0.2.1.length : Int) (b0.2.1.length : Int) 8) (cond (zO (m8.length+1) 24) (rec DB (zA (tG+1)) b0 b1 b2 r3 m4 r5 m6 r7 (m8++[(List.replicate b0.2.1.length (0:Int))])) none) none)<|some (b1,b2,r3,m4,r5,m6,r7,m8)
def qN2 (k:Nat):Nat→qXg:=qZ (fun _ _ _ _ _ _ _ _ _ _ _=>none) (yIb k)
def zk (k:Nat)(a0:yD):Option qY:=
 cond (pb a0.1 a0.1 24) ((FQ k a0.1 (-1)).bind fun x0=>(B1 k a0.1 (-1)).bind fun x1=>(FQ k a0.1 0).bind fun x2=>(qPl k k a0.1 a0.2.1 (a0.2.1.length:Int) 0 a0 (0,0,false) (0,0,false) (List.replicate a0.1.toNat ((0,0,0):Int×Int×Int)) x0 x1 x2 []).bind fun z=>(qN2 k k z.1 0 z.2.1 z.2.2.1 z.2.2.2.1 z.2.2.2.2.1 z.2.2.2.2.2.1 z.2.2.2.2.2.2.1 z.2.2.2.2.2.2.2.1 z.2.2.2.2.2.2.2.2 []).bind fun z1=>some (z1.2.1.1,(yIe z1 ([],[],z1.2.1.2)))) none
def P4 (k:Nat)(a0:Bool):Option Int:=
 cond a0 (some 1)<|some 0
abbrev qWo:Type:=AC×Int×Int×AC
abbrev qOr:Type:=Int→Int→AC→Int→Int→AC→Option qWo
def P0 (k:Nat)(rec:qOr):qOr:=fun s5 s6 aP cL bm r0=>
 cond (decide (s6≥0)) (cond (!(decide ((zA (8 * s6))<0))) (cond (zO (r0.length+1) 1) (rec s5 (zA (s6-1)) aP cL bm (r0++[(IntKind.wrap .u8 ((shr .i64 s5 (zA (8*s6)))))])) none) none)<|some (aP,cL,bm,r0)
def xN (k:Nat):Nat→qOr:=qZ (fun _ _ _ _ _ _=>none) (P0 k)
abbrev qTk:Type:=AC→Int→Int→AC→Option AC
def E2 (k:Nat)(rec:qTk):qTk:=fun aP cL bm r0=>
 cond (decide (bm<cL)) (cond (zB bm aP.length) ((xN k k (aP.getD bm.toNat 0) 7 aP cL bm r0).bind fun z=>rec z.1 z.2.1 (zA (z.2.2.1+1)) z.2.2.2) none)<|some r0
def BS (k:Nat):Nat→qTk:=qZ (fun _ _ _ _=>none) (E2 k)
def xO (k:Nat)(a0:AC):Option AC:=
 cond (pb 0 (zA (8 * (a0.length : Int))) 1) ((BS k k a0 (a0.length:Int) 0 []).bind fun z1=>some z1) none
def P1 (k:Nat)(a0:AC):Option AC:=
 (xO k [(a0.length:Int)]).bind fun x0=>(xO k a0).bind fun x1=>cond (zO (x0.length+x1.length) 1) (some (x0++x1)) none
abbrev qVv:Type:=EQ→Int→Int→AC→Option AC
def E5 (k:Nat)(rec:qVv):qVv:=fun s6 s7 s8 r0=>
 cond (decide (s8<s7)) (cond (zB s8 s6.length) ((P1 k (s6.getD s8.toNat [])).bind fun x0=>cond (zO (r0.length+x0.length) 1) (rec s6 s7 (zA (s8+1)) (r0++x0)) none) none)<|some r0
def E4 (k:Nat):Nat→qVv:=qZ (fun _ _ _ _=>none) (E5 k)
def KV (k:Nat)(a0:EQ):Option AC:=
 (E4 k k a0 (a0.length:Int) 0 []).bind fun z=>some z
abbrev qVq:Type:=qY×AI×EQ
abbrev qXz:Type:=List zK→Int→Int→qY→AI→EQ→Option qVq
def E6 (k:Nat)(rec:qXz):qXz:=fun lV gM jo b0 b1 r2=>
 cond (decide (jo<gM)) (cond (zB jo lV.length) (cond (zO (r2.length+1) 24) (let y0:EQ:=(r2++[[(lV.getD jo.toNat aoa).1,(lV.getD jo.toNat aoa).2.1,(lV.getD jo.toNat aoa).2.2]])
    rec lV gM (zA (jo+1)) b0 b1 y0) none) none)<|some (b0,b1,r2)
def BU (k:Nat):Nat→qXz:=qZ (fun _ _ _ _ _ _=>none) (E6 k)
abbrev qTw:Type:=qY×EQ
abbrev qV4:Type:=List zD→Int→Int→qY→EQ→Option qTw
def E7 (k:Nat)(rec:qV4):qV4:=fun wk s80 tH b0 r1=>
 cond (decide (tH<s80)) (cond (zB tH wk.length) (cond (zO (r1.length+1) 24) (let y3:EQ:=(r1++[[(wk.getD tH.toNat apa).1,(wk.getD tH.toNat apa).2.1,(wk.getD tH.toNat apa).2.2.1,(wk.getD tH.toNat apa).2.2.2.1,(wk.getD tH.toNat apa).2.2.2.2.1,(wk.getD tH.toNat apa).2.2.2.2.2.1,(wk.getD tH.toNat apa).2.2.2.2.2.2]])
    rec wk s80 (zA (tH+1)) b0 y3) none) none)<|some (b0,r1)
def BV (k:Nat):Nat→qV4:=qZ (fun _ _ _ _ _=>none) (E7 k)
def ni (k:Nat)(a0:qY):Option AC:=
 (P4 k a0.2.2.2.2.2.2.2.2.2.2).bind fun x0=>(BU k k a0.2.1 (a0.2.1.length:Int) 0 a0 (Au a0) [[a0.1,a0.2.2.2.2.2.2.2.2.2.1,x0,(a0.2.1.length:Int),(a0.2.2.1.length:Int),(a0.2.2.2.1.length:Int),(a0.2.2.2.2.1.length:Int),(a0.2.2.2.2.2.2.1.length:Int),(a0.2.2.2.2.2.2.2.1.length:Int)]]).bind fun z=>cond (zO (z.2.2.length+z.2.1.2.1.length) 24) (cond (zO ((z.2.2++z.2.1.2.1).length+1) 24) (let y1:EQ:=((z.2.2++z.2.1.2.1)++[z.2.1.2.2.1])
   cond (zO (y1.length+z.2.1.2.2.2.length) 24) (cond (zO ((y1++z.2.1.2.2.2).length+1) 24) (let y2:EQ:=((y1++z.2.1.2.2.2)++[z.1.2.2.2.2.2.1])
     cond (zO (y2.length+z.1.2.2.2.2.2.2.1.length) 24) ((BV k k z.1.2.2.2.2.2.2.2.1 (z.1.2.2.2.2.2.2.2.1.length:Int) 0 z.1 (y2++z.1.2.2.2.2.2.2.1)).bind fun z1=>cond (zO (z1.2.length+1) 24) (let y4:EQ:=(z1.2++[z1.1.2.2.2.2.2.2.2.2.1])
       (KV k y4).bind fun x1=>some x1) none) none) none) none) none) none
def KS (k:Nat)(a0:AC):Option wZ:=
 cond (decide ((a0.length:Int)>60000)) (some ([],false))<|cond (zO (2+a0.length) 1) (some (([(IntKind.wrap .u8 ((shr .i64 (a0.length:Int) 8))),(IntKind.wrap .u8 ((a0.length:Int)))]++a0),true)) none
def Ro (k:Nat)(a0:vR):Option Int:=
 some a0.1
def rq (k:Nat)(a0:vR):Option Bool:=
 some a0.2.2.2.2.2.2.2.2.1
def fK (k:Nat)(a0:vR):Option (Bool×vR):=
 cond (!a0.2.2.2.2.2.2.2.1) (some (false,(qV6 a0 (zA (a0.2.2.2.2.2.2.2.2.2+1)))))<|cond (decide (a0.2.2.2.2.2.2.2.2.2<a0.2.2.2.2.2.1)) (some (false,(qV6 a0 (zA (a0.2.2.2.2.2.2.2.2.2+1)))))<|cond ((decide (0≤(zA (a0.2.2.1+(yE true (yE false a0.2.2.2.2.2.2.1 0) (zA ((a0.2.1.length : Int) - a0.2.2.1)))))))&&(decide ((zA (a0.2.2.1+(yE true (yE false a0.2.2.2.2.2.2.1 0) (zA ((a0.2.1.length : Int) - a0.2.2.1)))))≤(a0.2.1.length : Int)))) (cond ((decide (0≤(zA (a0.2.2.2.2.1+(yE true (zA ((yE false a0.2.2.2.2.2.2.1 0)-(yE true (yE false a0.2.2.2.2.2.2.1 0) (zA ((a0.2.1.length:Int)-a0.2.2.1))))) (zA ((a0.2.2.2.1.length:Int)-a0.2.2.2.2.1)))))))&&(decide ((zA (a0.2.2.2.2.1+(yE true (zA ((yE false a0.2.2.2.2.2.2.1 0)-(yE true (yE false a0.2.2.2.2.2.2.1 0) (zA ((a0.2.1.length:Int)-a0.2.2.1))))) (zA ((a0.2.2.2.1.length:Int)-a0.2.2.2.2.1)))))≤(a0.2.2.2.1.length:Int)))) (some (true,a0.1,(List.take ((zA (a0.2.2.1+(yE true (yE false a0.2.2.2.2.2.2.1 0) (zA ((a0.2.1.length:Int)-a0.2.2.1))))).toNat-0) a0.2.1),(zA (a0.2.2.1+(yE true (yE false a0.2.2.2.2.2.2.1 0) (zA ((a0.2.1.length:Int)-a0.2.2.1))))),(List.take ((zA (a0.2.2.2.2.1+(yE true (zA ((yE false a0.2.2.2.2.2.2.1 0)-(yE true (yE false a0.2.2.2.2.2.2.1 0) (zA ((a0.2.1.length:Int)-a0.2.2.1))))) (zA ((a0.2.2.2.1.length:Int)-a0.2.2.2.2.1))))).toNat-0) a0.2.2.2.1),(zA (a0.2.2.2.2.1+(yE true (zA ((yE false a0.2.2.2.2.2.2.1 0)-(yE true (yE false a0.2.2.2.2.2.2.1 0) (zA ((a0.2.1.length:Int)-a0.2.2.1))))) (zA ((a0.2.2.2.1.length:Int)-a0.2.2.2.2.1))))),a0.2.2.2.2.2.1,a0.2.2.2.2.2.2.1,a0.2.2.2.2.2.2.2.1,true,a0.2.2.2.2.2.2.2.2.2)) none) none
def Ho (k:Nat)(a0:vR)(a1:Int):Option (Int×vR):=
 (rq k a0).bind fun x0=>cond x0 (some (11,a0))<|(SD k a1).bind fun x1=>cond (!x1) (some (1,a0))<|(fK k a0).bind fun x2=>cond x2.1 (some (11,x2.2))<|cond (decide (a1=0)) (cond (decide (a1=0)) (some (0,x2.2.1,[],0,x2.2.2.2.2))<|cond (decide (a1=1)) (some (0,x2.2.1,[],x2.2.2.2.1,x2.2.2.2.2.1,0,x2.2.2.2.2.2.2)) none)<|cond (decide (a1=1)) (cond (decide (a1=0)) (some (0,x2.2.1,x2.2.2.1,0,[],x2.2.2.2.2.2))<|cond (decide (a1=1)) (some (0,x2.2.1,x2.2.2.1,x2.2.2.2.1,[],0,x2.2.2.2.2.2.2)) none) none
def vh (k:Nat)(a0:vR)(a1:Int)(a2:AC):Option (Int×vR):=
 (rq k a0).bind fun x0=>cond x0 (some (11,a0))<|(SD k a1).bind fun x1=>cond (!x1) (some (1,a0))<|cond (decide (a1=0)) (cond (decide ((a2.length:Int)>(zA (a0.1-(a0.2.1.length:Int))))) (some (3,a0))<|(fK k a0).bind fun x2=>cond x2.1 (some (11,x2.2))<|cond (decide (a1=0)) (cond (zO (x2.2.2.1.length+a2.length) 1) (some (0,x2.2.1,(x2.2.2.1++a2),x2.2.2.2)) none)<|cond (decide (a1=1)) (cond (zO (x2.2.2.2.2.1.length+a2.length) 1) (some (0,x2.2.1,x2.2.2.1,x2.2.2.2.1,(x2.2.2.2.2.1++a2),x2.2.2.2.2.2)) none) none)<|cond (decide (a1=1)) (cond (decide ((a2.length:Int)>(zA (a0.1-(a0.2.2.2.1.length:Int))))) (some (3,a0))<|(fK k a0).bind fun x3=>cond x3.1 (some (11,x3.2))<|cond (decide (a1=0)) (cond (zO (x3.2.2.1.length+a2.length) 1) (some (0,x3.2.1,(x3.2.2.1++a2),x3.2.2.2)) none)<|cond (decide (a1=1)) (cond (zO (x3.2.2.2.2.1.length+a2.length) 1) (some (0,x3.2.1,x3.2.2.1,x3.2.2.2.1,(x3.2.2.2.2.1++a2),x3.2.2.2.2.2)) none) none) none
def tg (k:Nat)(a0:vR):Option (Int×vR):=
 (rq k a0).bind fun x0=>cond x0 (some (11,a0))<|(fK k a0).bind fun x1=>cond x1.1 (some (11,x1.2))<|some (0,x1.2.1,x1.2.2.1,(x1.2.2.1.length:Int),x1.2.2.2.2.1,(x1.2.2.2.2.1.length:Int),x1.2.2.2.2.2.2)
def yr (k:Nat)(a0:vR)(a1 a2:Int)(a3:AC):Option (Int×vR):=
 (xO k [a2]).bind fun x0=>cond (zO (x0.length+a3.length) 1) ((KS k (x0++a3)).bind fun x1=>cond (!x1.2) (some (10,a0))<|cond (decide (a2>4611686018427387904)) (some (10,a0))<|(Ro k a0).bind fun x2=>cond (decide (x1.1.length>x2)) (some (10,a0))<|(Ho k a0 a1).bind fun x3=>cond (!(decide (x3.1=0))) (some (x3.1,x3.2))<|(vh k x3.2 a1 x1.1).bind fun x4=>cond (!(decide (x4.1=0))) (some (x4.1,x4.2))<|(tg k x4.2).bind fun x5=>some (x5.1,x5.2)) none
def yEb (k:Nat)(a0:vR)(a1:AC):Option ((AC×EQ×Int×vR×wK)⊕(AC×EQ×Int×vR)):=
 (Nw k a0).bind fun x0=>cond x0.2.2.2.2 (some (.inl (x0.2.2.1,x0.2.2.2.1,0,a0,x0.2.1,x0.1,(x0.2.2.2.1.length:Int),true)))<|(yr k a0 0 1 a1).bind fun x1=>cond (!(decide (x1.1=0))) (some (.inr ([],[],x1.1,x1.2)))<|cond (zO (0+a1.length) 1) (some (.inl (a1,[],0,x1.2,0,1,0,false))) none
def Sa (k:Nat)(a0:AC):Option (AC×AC×Bool):=
 cond (decide ((a0.length:Int)<8)) (some ([],[],false))<|cond (decide (8≤(a0.length : Int))) ((sQ k (List.take 8 a0)).bind fun x0=>cond (decide (8≤(a0.length : Int))) (cond (zB 0 x0.1.length) (cond (decide ((x0.1.getD 0 0)<0)) (some ([],[],false))<|cond (zB 0 x0.1.length) (cond (decide ((x0.1.getD 0 0)>(zA (Int.tdiv ((List.drop 8 a0).length:Int) 8)))) (some ([],[],false))<|cond (zB 0 x0.1.length) (cond ((decide (0≤(zA (8 * (x0.1.getD 0 0)))))&&(decide ((zA (8 * (x0.1.getD 0 0)))≤((List.drop 8 a0).length : Int)))) ((sQ k (List.take (zA (8*(x0.1.getD 0 0))).toNat (List.drop 8 a0))).bind fun x1=>cond ((decide (0≤(zA (8*(x0.1.getD 0 0)))))&&(decide ((zA (8*(x0.1.getD 0 0)))≤((List.drop 8 a0).length:Int)))) (some (x1.1,(List.drop (zA (8*(x0.1.getD 0 0))).toNat (List.drop 8 a0)),true)) none) none) none) none) none) none) none
def zw (k:Nat)(a0:wZ):Option (AC×wZ):=
 (Sa k a0.1).bind fun x0=>cond a0.2 (some (x0.1,x0.2.1,true))<|some (x0.1,x0.2.1,(!x0.2.2))
def vz (k:Nat)(a0:wZ)(a1:Int):Option (AC×wZ):=
 (zw k a0).bind fun x0=>cond (!(decide ((x0.1.length : Int)=a1))) (cond (pb a1 a1 8) (some ((List.replicate a1.toNat (0:Int)),x0.2.1,true)) none)<|some (x0.1,x0.2)
abbrev qM4:Type:=wZ×EQ
abbrev qRg:Type:=Int→wZ→EQ→Option qM4
def IJ (k:Nat)(rec:qRg):qRg:=fun s1 b0 r1=>
 cond (decide (s1>0)) (cond (!b0.2) ((zw k b0).bind fun x0=>cond (zO (r1.length+1) 24) (rec (zA (s1-1)) x0.2 (r1++[x0.1])) none)<|some (b0,r1))<|some (b0,r1)
def II (k:Nat):Nat→qRg:=qZ (fun _ _ _=>none) (IJ k)
def IG (k:Nat)(a0:wZ)(a1:Int):Option (EQ×wZ):=
 (II k k a1 a0 []).bind fun z=>some (z.2,z.1)
def yIz (k:Nat)(a0 a1:AC):Option Bool:=
 some (oO a0 a1)
abbrev yAm:Type:=AC×yS×wZ×AC×yS×(List zK)
abbrev yAs:Type:=AC→Int→yS→wZ→AC→yS→List zK→Option yAm
def IM (k:Nat)(rec:yAs):yAs:=fun s0 s7 b0 b1 r2 b3 r4=>
 cond (decide (s7>0)) (cond (!b1.2) ((vz k b1 3).bind fun x1=>cond (zB 0 x1.1.length) (cond (zB 1 x1.1.length) (cond (zB 2 x1.1.length) (cond (zO (r4.length+1) 24) (let y0:List zK:=(r4++[((x1.1.getD 0 0),(x1.1.getD 1 0),(x1.1.getD 2 0))])
       rec s0 (zA (s7-1)) b0 x1.2 r2 b3 y0) none) none) none) none)<|some (s0,b0,b1,r2,b3,r4))<|some (s0,b0,b1,r2,b3,r4)
def C3 (k:Nat):Nat→yAs:=qZ (fun _ _ _ _ _ _ _=>none) (IM k)
abbrev qS3:Type:=AC×yS×wZ×yS×(List zK)×EQ×AC×EQ×AC×EQ×(List zD)
abbrev qUj:Type:=AC→Int→yS→wZ→yS→List zK→EQ→AC→EQ→AC→EQ→List zD→Option qS3
def IP (k:Nat)(rec:qUj):qUj:=fun s0 s9 b0 b1 b2 r3 r4 r5 r6 r7 r8 r9=>
 cond (decide (s9>0)) (cond (!b1.2) ((vz k b1 7).bind fun x7=>cond (zB 0 x7.1.length) (cond (zB 1 x7.1.length) (cond (zB 2 x7.1.length) (cond (zB 3 x7.1.length) (cond (zB 4 x7.1.length) (cond (zB 5 x7.1.length) (cond (zB 6 x7.1.length) (cond (zO (r9.length+1) 56) (let y1:List zD:=(r9++[((x7.1.getD 0 0),(x7.1.getD 1 0),(x7.1.getD 2 0),(x7.1.getD 3 0),(x7.1.getD 4 0),(x7.1.getD 5 0),(x7.1.getD 6 0))])
           rec s0 (zA (s9-1)) b0 x7.2 b2 r3 r4 r5 r6 r7 r8 y1) none) none) none) none) none) none) none) none)<|some (s0,b0,b1,b2,r3,r4,r5,r6,r7,r8,r9))<|some (s0,b0,b1,b2,r3,r4,r5,r6,r7,r8,r9)
def C5 (k:Nat):Nat→qUj:=qZ (fun _ _ _ _ _ _ _ _ _ _ _ _=>none) (IP k)
def IS (k:Nat)(a0:AC):Option (qY×Bool):=
 (vz k (a0,false) 9).bind fun x0=>cond (zB 0 x0.1.length) (cond (zB 1 x0.1.length) (cond (zB 2 x0.1.length) (cond (zB 3 x0.1.length) ((C3 k k a0 (x0.1.getD 3 0) (0,0,false) x0.2 x0.1 ((x0.1.getD 0 0),(x0.1.getD 1 0),(decide ((x0.1.getD 2 0)=1))) []).bind fun z=>cond (zB 4 z.2.2.2.1.length) ((IG k z.2.2.1 (z.2.2.2.1.getD 4 0)).bind fun x2=>(zw k x2.2).bind fun x3=>cond (zB 6 z.2.2.2.1.length) ((IG k x3.2 (z.2.2.2.1.getD 6 0)).bind fun x4=>(zw k x4.2).bind fun x5=>cond (zB 7 z.2.2.2.1.length) ((IG k x5.2 (z.2.2.2.1.getD 7 0)).bind fun x6=>cond (zB 8 z.2.2.2.1.length) ((C5 k k z.1 (z.2.2.2.1.getD 8 0) z.2.1 x6.2 z.2.2.2.2.1 z.2.2.2.2.2 x2.1 x3.1 x4.1 x5.1 x6.1 []).bind fun z1=>(zw k z1.2.2.1).bind fun x8=>cond x8.2.2 (some ((0,[],[],[],[],[],[],[],[],0,false),false))<|(ni k (z1.2.2.2.1.1,(N4 z1 (x8.1,z1.2.2.2.1.2)))).bind fun x9=>(yIz k x9 z1.1).bind fun bT=>cond (!bT) (some ((0,[],[],[],[],[],[],[],[],0,false),false))<|some ((z1.2.2.2.1.1,(N4 z1 (x8.1,z1.2.2.2.1.2))),true)) none) none) none) none) none) none) none) none
def uG (k:Nat)(a0:Int):Option Int:=
 cond (decide (a0=9)) (some 0)<|cond (decide (a0=13)) (some 0)<|cond (decide (a0=14)) (some 0)<|cond (decide (a0=15)) (some 0)<|cond (decide (a0=2)) (some 1)<|cond (decide (a0=6)) (some 1)<|cond (decide (a0=7)) (some 1)<|cond (decide (a0=16)) (some 1)<|cond (decide (a0=19)) (some 1)<|cond (decide (a0=20)) (some 1)<|cond (decide (a0=21)) (some 1)<|cond (decide (a0=22)) (some 1)<|cond (decide (a0=23)) (some 1)<|cond (decide (a0=3)) (some 2)<|cond (decide (a0=4)) (some 2)<|cond (decide (a0=5)) (some 2)<|cond (decide (a0=8)) (some 2)<|cond (decide (a0=10)) (some 2)<|cond (decide (a0=11)) (some 2)<|cond (decide (a0=12)) (some 2)<|cond (decide (a0=18)) (some 4)<|cond (decide (a0=17)) (some 5)<|cond (decide (a0=1)) (some 6)<|some (-1)
def BR (k:Nat)(a0:AC):Option (zD×Int):=
 cond (decide ((a0.length:Int)=0)) (some ((0,0,0,0,0,0,0),2))<|cond (decide (1≤(a0.length : Int))) ((sQ k (List.drop 1 a0)).bind fun x0=>cond (!(decide (x0.2=0))) (some ((0,0,0,0,0,0,0),2))<|cond (zB 0 a0.length) ((uG k (zA ((a0.getD 0 0)))).bind fun x1=>cond (!(decide ((x0.1.length:Int)=x1))) (some ((0,0,0,0,0,0,0),2))<|cond (zB 0 a0.length) (some (((zA ((a0.getD 0 0))),(cond (Nat.blt 0 x0.1.length) (x0.1.getD 0 0)<|0),(cond (Nat.blt 1 x0.1.length) (x0.1.getD 1 0)<|0),(cond (Nat.blt 2 x0.1.length) (x0.1.getD 2 0)<|0),(cond (Nat.blt 3 x0.1.length) (x0.1.getD 3 0)<|0),(cond (Nat.blt 4 x0.1.length) (x0.1.getD 4 0)<|0),(cond (Nat.blt 5 x0.1.length) (x0.1.getD 5 0)<|0)),0)) none) none) none
def Sm (k:Nat)(a0:AC):Option (qU×Int):=
 cond (decide ((a0.length:Int)<8)) (some ((0,0,0,0,0,0,0,0),2))<|cond (decide (8≤(a0.length : Int))) ((sQ k (List.take 8 a0)).bind fun x0=>cond (decide (8≤(a0.length : Int))) ((BR k (List.drop 8 a0)).bind fun x1=>cond (!(decide (x1.2=0))) (some ((0,0,0,0,0,0,0,0),2))<|cond (zB 0 x0.1.length) (some (((x0.1.getD 0 0),x1.1),0)) none) none) none
def Rl (k:Nat)(a0:Int):Option Bool:=
 cond (decide (a0≥10)) (some (decide (a0≤14)))<|some false
def Mw (k:Nat)(a0:Int):Option Bool:=
 cond (decide (a0≥1)) (some (decide (a0≤14)))<|some false
abbrev qTt:Type:=AC→Int→Int→Option (Unit⊕Bool)
def lI (k:Nat)(rec:qTt):qTt:=fun bm bh aQ=>
 cond (decide (aQ<bh)) (cond (zB aQ bm.length) (cond (!(decide ((bm.getD aQ.toNat 0)=0))) (some (.inr false))<|rec bm bh (zA (aQ+1))) none)<|some (.inl ())
def mD (k:Nat):Nat→qTt:=qZ (fun _ _ _=>none) (lI k)
def lJ (k:Nat)(a0:zD):Option Bool:=
 (uG k a0.1).bind fun x0=>cond (decide (x0<0)) (some false)<|cond ((decide (0≤x0))&&(decide (x0≤6))) ((mD k k (qO [a0.2.1,a0.2.2.1,a0.2.2.2.1,a0.2.2.2.2.1,a0.2.2.2.2.2.1,a0.2.2.2.2.2.2] x0.toNat (6-x0.toNat)) ((qO [a0.2.1,a0.2.2.1,a0.2.2.2.1,a0.2.2.2.2.1,a0.2.2.2.2.2.1,a0.2.2.2.2.2.2] x0.toNat (6-x0.toNat)).length:Int) 0).bind fun z=>match z with
  |.inl z1=>some true
  |.inr z2=>some z2) none
def yp (k:Nat)(a0:yD)(a1:qY)(a2:qU):Option Int:=
 (Rl k a2.2.1).bind fun x0=>cond (decide (a2.1≥0)) ((Mw k a2.2.1).bind fun x1=>cond (!x1) (some 5)<|(lJ k a2.2).bind fun x2=>cond (!x2) (some 5)<|cond x0 (cond (!(decide (a2.1=(-1)))) (some 5)<|cond (!x0) (cond (!(decide (a2.1<a0.1))) (some 5)<|cond a1.2.2.2.2.2.2.2.2.2.2 (cond (!(decide (a2.2.1=9))) (some 7)<|some 0)<|some 0)<|cond a1.2.2.2.2.2.2.2.2.2.2 (cond (!(decide (a2.2.1=9))) (some 7)<|some 0)<|some 0)<|cond (!x0) (cond (!(decide (a2.1<a0.1))) (some 5)<|cond a1.2.2.2.2.2.2.2.2.2.2 (cond (!(decide (a2.2.1=9))) (some 7)<|some 0)<|some 0)<|cond a1.2.2.2.2.2.2.2.2.2.2 (cond (!(decide (a2.2.1=9))) (some 7)<|some 0)<|some 0)<|(Mw k a2.2.1).bind fun x3=>cond (!x3) (some 5)<|(lJ k a2.2).bind fun x4=>cond (!x4) (some 5)<|cond x0 (cond (!(decide (a2.1=(-1)))) (some 5)<|cond (!x0) (some 5)<|cond a1.2.2.2.2.2.2.2.2.2.2 (cond (!(decide (a2.2.1=9))) (some 7)<|some 0)<|some 0)<|cond (!x0) (some 5)<|cond a1.2.2.2.2.2.2.2.2.2.2 (cond (!(decide (a2.2.1=9))) (some 7)<|some 0)<|some 0
def qXo (k:Nat)(cf bj bB cw bM ca bO a1:Int):Option Bool:=
 some (decide (bj=a1))
abbrev yCz:Type:=List zD
abbrev yBl:Type:=List zD→Int→Int→Int→List zD→Option yCz
def GS (k:Nat)(rec:yBl):yBl:=fun s8 s9 av af r1=>
 cond (decide (av<s9)) (cond (zB av s8.length) ((qXo k (s8.getD av.toNat apa).1 (s8.getD av.toNat apa).2.1 (s8.getD av.toNat apa).2.2.1 (s8.getD av.toNat apa).2.2.2.1 (s8.getD av.toNat apa).2.2.2.2.1 (s8.getD av.toNat apa).2.2.2.2.2.1 (s8.getD av.toNat apa).2.2.2.2.2.2 af).bind fun x0=>cond x0 (cond (zO (r1.length+1) 56) (let y0:List zD:=(r1++[(s8.getD av.toNat apa)])
     rec s8 s9 (zA (av+1)) af y0) none)<|rec s8 s9 (zA (av+1)) af r1) none)<|some r1
def Mj (k:Nat):Nat→yBl
 |0,_,_,_,_,_=>none
 |n+1,s8,s9,av,af,r1=>GS k (Mj k n) s8 s9 av af r1
def qVg (k:Nat)(a0:List zD)(cX:Int):Option (List zD):=
 (Mj k k a0 (a0.length:Int) 0 cX []).bind fun z=>some z
def Mi (k:Nat)(a0:List zD)(a1:Int):Option (List zD):=
 (qVg k a0 a1).bind fun x0=>some x0
def yZo (k:Nat)(a0:(Int×Int×Int×Int×Int×Int×Bool×Int))(a1:Int)(a2:AC):Option jO:=
 some (a0.1,[],(iI a0 ([],[],[],[],[],[],[],[],a0.2.2.2.2.2.1,a0.2.2.2.2.2.2.1,a0.2.2.2.2.2.2.2,[(a0.2.2.2.2.2.2.2,a1,(cond (Nat.blt 0 a2.length) (a2.getD 0 0)<|0),(cond (Nat.blt 1 a2.length) (a2.getD 1 0)<|0),(cond (Nat.blt 2 a2.length) (a2.getD 2 0)<|0),(cond (Nat.blt 3 a2.length) (a2.getD 3 0)<|0),(cond (Nat.blt 4 a2.length) (a2.getD 4 0)<|0),(cond (Nat.blt 5 a2.length) (a2.getD 5 0)<|0))])))
def R0 (k:Nat)(a0:qY)(a1:Int):Option (List qU):=
 cond (zB a1 a0.2.1.length) ((Mi k a0.2.2.2.2.2.2.2.1 a1).bind fun x0=>(yZo k (0,0,0,0,0,0,false,a1) 17 [(a0.2.1.getD a1.toNat aoa).1,(a0.2.1.getD a1.toNat aoa).2.1,(a0.2.1.getD a1.toNat aoa).2.2,(x0.length:Int),a0.1]).bind fun x1=>some x1.2.2.2.2.2.2.2.2.2.2.2.2.2.2.2.2.2) none
def R1 (k:Nat)(a0:lT)(a1:Int)(a2:AC):Option jO:=
 some (vO a0 [(a0.2.2.2.2.2.2.2.2.2.2.2.2.2.2.2.2,a1,(cond (Nat.blt 0 a2.length) (a2.getD 0 0)<|0),(cond (Nat.blt 1 a2.length) (a2.getD 1 0)<|0),(cond (Nat.blt 2 a2.length) (a2.getD 2 0)<|0),(cond (Nat.blt 3 a2.length) (a2.getD 3 0)<|0),(cond (Nat.blt 4 a2.length) (a2.getD 4 0)<|0),(cond (Nat.blt 5 a2.length) (a2.getD 5 0)<|0))])
def vF (k:Nat)(a0 a1 a2:Int):Option Bool:=
 cond (decide (a0≥a1)) (some (decide (a0≤a2)))<|some false
def Mt (k:Nat)(a0:yD)(a1:Int):Option Bool:=
 cond (decide (a1≥0)) (some (decide (a1<a0.1)))<|some false
def Rh (k:Nat)(a0:yD)(a1:Int)(a2:zD):Option Bool:=
 (Mt k a0 a2.2.1).bind fun x0=>cond x0 ((Mt k a0 a2.2.2.1).bind fun x1=>cond x1 (cond (decide (a2.1≥1)) (cond (decide (a2.2.2.2.1≥1)) (cond (decide (a2.2.2.2.1≤1099511627776)) (cond (decide (a2.2.2.2.2.1≥1)) (cond (!(decide (a2.2.1=a2.2.2.1))) (cond (decide (a2.2.2.2.2.1≤3)) (cond (decide (a2.2.2.2.2.2.1≥0)) (cond (decide (a2.2.2.2.2.2.1≤a2.2.2.2.2.2.2)) (cond (decide (a2.2.2.2.2.2.2≥a1)) (some (decide (a2.2.2.2.2.2.2≤1048576)))<|some false)<|some false)<|some false)<|some false)<|some false)<|cond (!(decide (a2.2.1=a2.2.2.1))) (some false)<|some false)<|cond (!(decide (a2.2.1=a2.2.2.1))) (some false)<|some false)<|cond (!(decide (a2.2.1=a2.2.2.1))) (some false)<|some false)<|cond (!(decide (a2.2.1=a2.2.2.1))) (some false)<|some false)<|cond (decide (a2.1≥1)) (cond (decide (a2.2.2.2.1≥1)) (cond (decide (a2.2.2.2.1≤1099511627776)) (cond (decide (a2.2.2.2.2.1≥1)) (some false)<|some false)<|some false)<|some false)<|some false)<|cond (decide (a2.1≥1)) (cond (decide (a2.2.2.2.1≥1)) (cond (decide (a2.2.2.2.1≤1099511627776)) (cond (decide (a2.2.2.2.2.1≥1)) (some false)<|some false)<|some false)<|some false)<|some false
def Cn (k:Nat)(a0:yD)(a1 a2:Int):Option Int:=
 cond (decide (a1≥a0.2.2.2.1)) (some 7)<|cond (decide (a2=3)) (cond (decide (a1≥a0.2.2.1)) (some 7)<|some 0)<|some 0
def Hd (k:Nat)(a0:yD)(a1:Int)(a2:zD):Option Int:=
 (Rh k a0 a1 a2).bind fun x0=>cond (!x0) (some 1)<|(Cn k a0 a1 a2.2.2.2.2.1).bind fun x1=>some x1
def QR (k:Nat)(a0:Int):Option Bool:=
 some (!(decide (a0=a0)))
def QQ (k:Nat)(a0 a1:Int):Option Bool:=
 (QR k a0).bind fun x0=>cond x0 ((QR k a1).bind fun x1=>cond (!x1) (some true)<|some (decide (a0<a1)))<|some (decide (a0<a1))
def QT (k:Nat)(a0:Int):Option Bool:=
 some (!(decide (a0=a0)))
abbrev qMw:Type:=AC×Int×Int×Int
abbrev qUb:Type:=AC→Int→Int→Int→Int→Option qMw
def QS (k:Nat)(rec:qUb):qUb:=fun s0 s1 s6 s7 s8=>
 cond (decide (s7<s8)) (cond (zB (zA ((shr .u64 (IntKind.wrap .u64 ((zA (s7+s8)))) 1))) s0.length) ((QQ k (s0.getD (zA ((shr .u64 (IntKind.wrap .u64 ((zA (s7+s8)))) 1))).toNat 0) s1).bind fun x0=>cond x0 (rec s0 s1 s6 (zA ((zA ((shr .u64 (IntKind.wrap .u64 ((zA (s7+s8)))) 1)))+1)) s8)<|rec s0 s1 s6 s7 (zA ((shr .u64 (IntKind.wrap .u64 ((zA (s7+s8)))) 1)))) none)<|some (s0,s1,s6,s7)
def LY (k:Nat):Nat→qUb:=qZ (fun _ _ _ _ _=>none) (QS k)
def Gt (k:Nat)(a0:AC)(a1:Int):Option eX:=
 (LY k k a0 a1 (a0.length:Int) 0 (a0.length:Int)).bind fun z=>cond (decide (z.2.2.2<z.2.2.1)) (cond (zB z.2.2.2 z.1.length) (cond (decide ((z.1.getD z.2.2.2.toNat 0)=z.2.1)) (some (z.2.2.2,true))<|cond (zB z.2.2.2 z.1.length) ((QT k (z.1.getD z.2.2.2.toNat 0)).bind fun x1=>cond x1 ((QT k z.2.1).bind fun x2=>some (z.2.2.2,x2))<|some (z.2.2.2,false)) none) none)<|some (z.2.2.2,false)
def qn (k:Nat)(a0:AC):Option AC:=
 cond (zO (0+a0.length) 8) (some a0) none
abbrev ySf (k:Nat)(a0:AC)(a1:Int)(a2:AC):Option AC:=ins 8 a0 a1 a2
def Gu (k:Nat)(a0:AC)(a1:Int):Option (AC×Int):=
 (Gt k a0 a1).bind fun x0=>cond x0.2 (some (a0,6))<|cond (decide ((a0.length:Int)≥200)) (some (a0,3))<|(qn k a0).bind fun x1=>(ySf k x1 x0.1 [a1]).bind fun x2=>some (x2,0)
def Zt (k:Nat)(cf bj bB cw bM ca bO a1:Int):Option Bool:=
 some (decide (cf=a1))
abbrev qSl:Type:=List zD→Int→Int→Int→Option (Unit⊕Int)
def Gj (k:Nat)(rec:qSl):qSl:=fun s0 s7 s8 af=>
 cond (decide (s8<s7)) (cond (zB s8 s0.length) ((Zt k (s0.getD s8.toNat apa).1 (s0.getD s8.toNat apa).2.1 (s0.getD s8.toNat apa).2.2.1 (s0.getD s8.toNat apa).2.2.2.1 (s0.getD s8.toNat apa).2.2.2.2.1 (s0.getD s8.toNat apa).2.2.2.2.2.1 (s0.getD s8.toNat apa).2.2.2.2.2.2 af).bind fun x0=>cond x0 (some (.inr s8))<|rec s0 s7 (zA (s8+1)) af) none)<|some (.inl ())
def Gh (k:Nat):Nat→qSl
 |0,_,_,_,_=>none
 |n+1,s0,s7,s8,af=>Gj k (Gh k n) s0 s7 s8 af
def Zu (k:Nat)(a0:List zD)(cX:Int):Option Int:=
 (Gh k k a0 (a0.length:Int) 0 cX).bind fun z=>match z with
 |.inl z1=>some (-1)
 |.inr z2=>some z2
def pw (k:Nat)(a0:List zD)(a1:Int):Option Int:=
 (Zu k a0 a1).bind fun x0=>some x0
def QO (k:Nat)(a0:Int):Option Bool:=
 some (!(decide (a0=a0)))
def LQ (k:Nat)(a0 a1:Int):Option Int:=
 (QO k a0).bind fun x0=>(QO k a1).bind fun x1=>cond x0 (cond x1 (some 0)<|some (-1))<|cond x1 (some 1)<|cond (decide (a0<a1)) (some (-1))<|cond (decide (a0>a1)) (some 1)<|some 0
abbrev qOi:Type:=Int→AC→Int→Int→Option (Int⊕Int)
def yJz (k:Nat)(rec:qOi):qOi:=fun s3 s6 s7 s8=>
 cond (decide (s8<s7)) (cond (zB s8 s6.length) (cond (!(decide ((s6.getD s8.toNat 0)=s3))) (some (.inr (s6.getD s8.toNat 0)))<|rec s3 s6 s7 (zA (s8+1))) none)<|some (.inl s3)
def LP (k:Nat):Nat→qOi
 |0,_,_,_,_=>none
 |n+1,s3,s6,s7,s8=>yJz k (LP k n) s3 s6 s7 s8
def QN (k:Nat)(a0:AC):Option Int:=
 (LP k k 0 a0 (a0.length:Int) 0).bind fun z=>match z with
 |.inl z1=>some z1
 |.inr z2=>some z2
def Gk (k:Nat)(cf bj bB cw bM ca bO ie ct dz ez dA jc je:Int):Option Int:=
 (LQ k bj ct).bind fun x0=>(LQ k bM dA).bind fun x1=>(QN k [x0,x1]).bind fun x2=>some x2
def xX (k:Nat)(a0:List zD):Option (List zD):=
 cond (zO (0+a0.length) 56) (some a0) none
abbrev QP (k:Nat)(a0:List zD)(a1:Int)(a2:List zD):Option (List zD):=ins 56 a0 a1 a2
abbrev qRr:Type:=(List zD)×Int×zD
abbrev qUe:Type:=List zD→Int→zD→Option qRr
def Gn (k:Nat)(rec:qUe):qUe:=fun s0 s6 b0=>
 cond (decide (s6<s0.length)) (cond (zB s6 s0.length) ((Gk k (s0.getD s6.toNat apa).1 (s0.getD s6.toNat apa).2.1 (s0.getD s6.toNat apa).2.2.1 (s0.getD s6.toNat apa).2.2.2.1 (s0.getD s6.toNat apa).2.2.2.2.1 (s0.getD s6.toNat apa).2.2.2.2.2.1 (s0.getD s6.toNat apa).2.2.2.2.2.2 b0.1 b0.2.1 b0.2.2.1 b0.2.2.2.1 b0.2.2.2.2.1 b0.2.2.2.2.2.1 b0.2.2.2.2.2.2).bind fun x1=>cond (decide (x1≤0)) (rec s0 (zA (s6+1)) b0)<|some (s0,s6,b0)) none)<|some (s0,s6,b0)
def LU (k:Nat):Nat→qUe:=qZ (fun _ _ _=>none) (Gn k)
def xY (k:Nat)(a0:List zD)(a1:zD):Option ((List zD)×Int):=
 (pw k a0 a1.1).bind fun x0=>cond (decide (x0≥0)) (some (a0,6))<|cond (decide ((a0.length:Int)≥40)) (some (a0,3))<|(LU k k a0 0 a1).bind fun z=>(xX k z.1).bind fun x2=>(QP k x2 z.2.1 [z.2.2]).bind fun x3=>some (x3,0)
def Ri (k:Nat)(a0:jO)(a1:Oi):Option (Int×jO):=
 (vF k a1.2.1 0 (zA (a0.1-1))).bind fun x0=>cond (!x0) (some (1,a0))<|(vF k a1.2.2.2.1 1 3).bind fun x1=>cond (!x1) (some (1,a0))<|(Hd k (yC a0) a0.2.2.2.2.2.1 (a1.1,a0.2.2.2.2.2.2.2.2.2.2.2.2.2.2.2.2.1,a1.2)).bind fun x2=>cond (!(decide (x2=0))) (some (x2,a0))<|(Gu k a0.2.2.2.2.2.2.2.2.2.2.2.2.2.1 a1.1).bind fun x3=>cond (!(decide (x3.2=0))) (some (x3.2,a0))<|(xY k a0.2.2.2.2.2.2.2.2.2.2.2.2.1 (a1.1,a0.2.2.2.2.2.2.2.2.2.2.2.2.2.2.2.2.1,a1.2)).bind fun x4=>cond (!(decide (x4.2=0))) (some (x4.2,a0))<|some (0,(kx a0 (x4.1,x3.1,a0.2.2.2.2.2.2.2.2.2.2.2.2.2.2)))
def qN4 (k:Nat)(a0:jO)(a1:Int):Option (zD×Int):=
 (pw k a0.2.2.2.2.2.2.2.2.2.2.2.2.1 a1).bind fun x0=>cond (decide (x0<0)) (some ((0,0,0,0,0,0,0),4))<|cond (zB x0 a0.2.2.2.2.2.2.2.2.2.2.2.2.1.length) (cond (!(decide ((a0.2.2.2.2.2.2.2.2.2.2.2.2.1.getD x0.toNat apa).2.1=a0.2.2.2.2.2.2.2.2.2.2.2.2.2.2.2.2.1))) (some ((0,0,0,0,0,0,0),4))<|cond (zB x0 a0.2.2.2.2.2.2.2.2.2.2.2.2.1.length) (some ((a0.2.2.2.2.2.2.2.2.2.2.2.2.1.getD x0.toNat apa),0)) none) none
def LO (k:Nat)(a0:List zD)(a1 a2:Int):Option (List zD):=
 cond (((((decide (0≤a1))&&(decide (a1≤a2)))&&(decide (a2≤a0.length)))&&(decide (((a2.toNat : Nat) : Int)≤a0.length)))&&(decide ((a0.length : Int)≤(a0.length : Int)))) (cond (decide (a1=a2)) (some a0)<|cond ((decide (0≤a1))&&(decide (a1≤a0.length))) (cond ((decide (0≤a2))&&(decide (a2≤a0.length))) (cond (Nat.ble (a1.toNat - 0) (0+a2.toNat)) (let y0:List zD:=(((List.take (a1.toNat-0) a0)++(qO a0 (0+a2.toNat) (a0.length-a2.toNat)))++(List.drop ((a1.toNat-0)+(a0.length-a2.toNat)) a0))
     cond (((decide (0≤((qO y0 0 ((a1.toNat - 0)+(a0.length - a2.toNat))).length : Int)))&&(decide (((qO y0 0 ((a1.toNat - 0)+(a0.length - a2.toNat))).length : Int)≤(a0.length : Int))))&&(decide ((a0.length : Int)≤(((y0.length - 0) : Nat) : Int)))) (let y1:List zD:=(((List.take (0+(qO y0 0 ((a1.toNat-0)+(a0.length-a2.toNat))).length) y0)++(List.replicate (a0.length-(qO y0 0 ((a1.toNat-0)+(a0.length-a2.toNat))).length) ((0,0,0,0,0,0,0):Int×Int×Int×Int×Int×Int×Int)))++(List.drop ((0+(qO y0 0 ((a1.toNat-0)+(a0.length-a2.toNat))).length)+(a0.length-(qO y0 0 ((a1.toNat-0)+(a0.length-a2.toNat))).length)) y0))
      some (List.take ((a1.toNat-0)+(a0.length-a2.toNat)) y1)) none) none) none) none) none
def qs (k:Nat)(a0:List zD)(a1:Int):Option yCi:=
 (pw k a0 a1).bind fun x0=>cond (decide (x0<0)) (some (a0,0,0,0,0,0,0,0,4))<|(xX k a0).bind fun x1=>(LO k x1 x0 (zA (x0+1))).bind fun x2=>cond (zB x0 a0.length) (some (x2,(gf (a0.getD x0.toNat apa) 0))) none
def yo (k:Nat)(a0:jO)(a1:Int)(a2:AC):Option jO:=
 cond (zO (a0.2.2.2.2.2.2.2.2.2.2.2.2.2.2.2.2.2.length+1) 64) (let y0:List qU:=(a0.2.2.2.2.2.2.2.2.2.2.2.2.2.2.2.2.2++[(a0.2.2.2.2.2.2.2.2.2.2.2.2.2.2.2.2.1,a1,(cond (Nat.blt 0 a2.length) (a2.getD 0 0)<|0),(cond (Nat.blt 1 a2.length) (a2.getD 1 0)<|0),(cond (Nat.blt 2 a2.length) (a2.getD 2 0)<|0),(cond (Nat.blt 3 a2.length) (a2.getD 3 0)<|0),(cond (Nat.blt 4 a2.length) (a2.getD 4 0)<|0),(cond (Nat.blt 5 a2.length) (a2.getD 5 0)<|0))])
  some (yI a0 y0)) none
def Gp (k:Nat)(a0:List zD)(a1 a2:Int):Option ((List zD)×Int):=
 (qs k a0 a1).bind fun x0=>cond (!(decide (x0.2.2.2.2.2.2.2.2=0))) (some (a0,x0.2.2.2.2.2.2.2.2))<|(xY k x0.1 (iI x0 (a2,x0.2.2.2.2.2.2.1,x0.2.2.2.2.2.2.2.1))).bind fun x1=>some (x1.1,x1.2)
def ZD (k:Nat)(a0:List zD)(a1:Int):Option yCi:=
 (pw k a0 a1).bind fun x0=>cond (decide (x0<0)) none<|(xX k a0).bind fun x1=>(LO k x1 x0 (zA (x0+1))).bind fun x2=>cond (zB x0 a0.length) (some (x2,(gf (a0.getD x0.toNat apa) 0))) none
abbrev qUs:Type:=Int×(List zD)×zD
abbrev qUg:Type:=Int→List zD→zD→Option qUs
def Gr (k:Nat)(rec:qUg):qUg:=fun s9 r0 b1=>
 cond (decide (s9<r0.length)) (cond (zB s9 r0.length) ((Gk k (r0.getD s9.toNat apa).1 (r0.getD s9.toNat apa).2.1 (r0.getD s9.toNat apa).2.2.1 (r0.getD s9.toNat apa).2.2.2.1 (r0.getD s9.toNat apa).2.2.2.2.1 (r0.getD s9.toNat apa).2.2.2.2.2.1 (r0.getD s9.toNat apa).2.2.2.2.2.2 b1.1 b1.2.1 b1.2.2.1 b1.2.2.2.1 b1.2.2.2.2.1 b1.2.2.2.2.2.1 b1.2.2.2.2.2.2).bind fun x1=>cond (decide (x1<0)) (rec (zA (s9+1)) r0 b1)<|some (s9,r0,b1)) none)<|some (s9,r0,b1)
def LX (k:Nat):Nat→qUg:=qZ (fun _ _ _=>none) (Gr k)
def Gs (k:Nat)(a0:List zD)(a1:Int):Option ((List zD)×Int):=
 (ZD k a0 a1).bind fun x0=>cond (!(decide (x0.2.2.2.2.2.2.2.2=0))) (some (a0,x0.2.2.2.2.2.2.2.2))<|(LX k k 0 x0.1 (SX x0)).bind fun z=>(QP k z.2.1 z.1 [z.2.2]).bind fun x2=>some (x2,0)
def Gq (k:Nat)(a0:List zD)(a1:Int):Option ((List zD)×Int):=
 (qs k a0 a1).bind fun x0=>cond (!(decide (x0.2.2.2.2.2.2.2.2=0))) (some (a0,x0.2.2.2.2.2.2.2.2))<|(xY k x0.1 (SX x0)).bind fun x1=>some (x1.1,x1.2)
def Co (k:Nat)(a0:jO)(a1:zD):Option (Int×jO):=
 (qN4 k a0 a1.2.1).bind fun x0=>cond (!(decide (x0.2=0))) (some (x0.2,a0))<|cond (decide (a1.1=2)) ((qs k a0.2.2.2.2.2.2.2.2.2.2.2.2.1 a1.2.1).bind fun x1=>(yo k (kx a0 (x1.1,a0.2.2.2.2.2.2.2.2.2.2.2.2.2)) 20 [a1.2.1]).bind fun x2=>some (x1.2.2.2.2.2.2.2.2,x2))<|cond (decide (a1.1=4)) ((vF k a1.2.2.1 1 3).bind fun x3=>cond (!x3) (some (1,a0))<|(Cn k (yC a0) a0.2.2.2.2.2.1 a1.2.2.1).bind fun x4=>cond (!(decide (x4=0))) (some (x4,a0))<|(Gp k a0.2.2.2.2.2.2.2.2.2.2.2.2.1 a1.2.1 a1.2.2.1).bind fun x5=>some (x5.2,(kx a0 (x5.1,a0.2.2.2.2.2.2.2.2.2.2.2.2.2))))<|cond (decide (a1.2.2.1=0)) ((Gs k a0.2.2.2.2.2.2.2.2.2.2.2.2.1 a1.2.1).bind fun x6=>some (x6.2,(kx a0 (x6.1,a0.2.2.2.2.2.2.2.2.2.2.2.2.2))))<|cond (decide (a1.2.2.1=1)) ((Gq k a0.2.2.2.2.2.2.2.2.2.2.2.2.1 a1.2.1).bind fun x7=>some (x7.2,(kx a0 (x7.1,a0.2.2.2.2.2.2.2.2.2.2.2.2.2))))<|some (1,a0)
def YB (k:Nat)(a0:List zK):Option (List zK):=
 cond (zO (0+a0.length) 24) (some a0) none
def Yy (k:Nat)(a0:EQ):Option Nat:=
 cond (zO (0+a0.length) 24) (some a0.length) none
abbrev qWm:Type:=EQ→Int→Int→EQ→Nat→Option (EQ×Nat)
def Fs (k:Nat)(rec:qWm):qWm:=fun s8 s9 av m0 n0=>
 cond (decide (av<s9)) (cond (zB av s8.length) ((qn k (s8.getD av.toNat [])).bind fun x1=>cond (zB av n0) (cond (Nat.beq av.toNat m0.length) (rec s8 s9 (zA (av+1)) (m0++[x1]) n0) none) none) none)<|some (m0,n0)
def K9 (k:Nat):Nat→qWm
 |0,_,_,_,_,_=>none
 |n+1,s8,s9,av,m0,n0=>Fs k (K9 k n) s8 s9 av m0 n0
def La (k:Nat)(a0:EQ):Option EQ:=
 (Yy k a0).bind fun x0=>(K9 k k a0 (a0.length:Int) 0 [] x0).bind fun z=>Xg z.1 z.2
def gC (k:Nat)(au:List zK)(az:EQ)(ay:AC)(ax:EQ):Option AI:=
 (YB k au).bind fun x0=>(La k az).bind fun x1=>(qn k ay).bind fun x2=>(La k ax).bind fun x3=>some (x0,x1,x2,x3)
def qPk (k:Nat)(a0:jO)(a1:Int):Option Bool:=
 (vF k a1 0 (zA (a0.1-1))).bind fun x0=>cond x0 (some (!(decide (a1=a0.2.2.2.2.2.2.2.2.2.2.2.2.2.2.2.2.1))))<|some false
def Cp (k:Nat)(a0:jO)(a1:zD):Option (Int×jO):=
 (gC k a0.2.2.2.2.2.2.1 a0.2.2.2.2.2.2.2.1 a0.2.2.2.2.2.2.2.2.1 a0.2.2.2.2.2.2.2.2.2.1).bind fun x0=>cond (decide (a1.1=5)) ((qPk k a0 a1.2.1).bind fun x1=>cond (!x1) (some (1,a0))<|(vF k a1.2.2.1 (-1) 1152921504606846976).bind fun x2=>cond (!x2) (some (1,a0))<|cond (zB a0.2.2.2.2.2.2.2.2.2.2.2.2.2.2.2.2.1 x0.2.1.length) (cond (zB a1.2.1 (x0.2.1.getD a0.2.2.2.2.2.2.2.2.2.2.2.2.2.2.2.2.1.toNat []).length) (let y0:EQ:=(x0.2.1.set a0.2.2.2.2.2.2.2.2.2.2.2.2.2.2.2.2.1.toNat ((x0.2.1.getD a0.2.2.2.2.2.2.2.2.2.2.2.2.2.2.2.2.1.toNat []).set a1.2.1.toNat a1.2.2.1))
    some (0,(jD a0 (x0.1,y0,x0.2.2.1,x0.2.2.2,a0.2.2.2.2.2.2.2.2.2.2)))) none) none)<|cond (decide (a1.1=6)) ((vF k a1.2.1 (-1) 1152921504606846976).bind fun x3=>cond (!x3) (some (1,a0))<|cond (zB a0.2.2.2.2.2.2.2.2.2.2.2.2.2.2.2.2.1 x0.2.2.1.length) (let y1:AC:=(x0.2.2.1.set a0.2.2.2.2.2.2.2.2.2.2.2.2.2.2.2.2.1.toNat a1.2.1)
   some (0,(jD a0 (x0.1,x0.2.1,y1,x0.2.2.2,a0.2.2.2.2.2.2.2.2.2.2)))) none)<|(vF k a1.2.1 0 1152921504606846976).bind fun x4=>cond (!x4) (some (1,a0))<|cond (zB a0.2.2.2.2.2.2.2.2.2.2.2.2.2.2.2.2.1 x0.1.length) (let y2:List zK:=(x0.1.set a0.2.2.2.2.2.2.2.2.2.2.2.2.2.2.2.2.1.toNat ((x0.1.getD a0.2.2.2.2.2.2.2.2.2.2.2.2.2.2.2.2.1.toNat aoa).1,(x0.1.getD a0.2.2.2.2.2.2.2.2.2.2.2.2.2.2.2.2.1.toNat aoa).2.1,a1.2.1))
  some (0,(jD a0 (y2,x0.2.1,x0.2.2.1,x0.2.2.2,a0.2.2.2.2.2.2.2.2.2.2)))) none
def N0 (k:Nat)(a0:jO)(a1:Int):Option Bool:=
 (vF k a1 0 (zA ((a0.2.1.length:Int)-1))).bind fun x0=>some x0
def Hf (k:Nat)(a0:EQ):Option EQ:=
 cond (zO (0+a0.length) 24) (some a0) none
def qy (k:Nat)(a0:AC)(a1 a2:Int):Option AC:=
 (qn k a0).bind fun x0=>cond (decide (a1≥0)) (cond (decide (a1<x0.length)) (cond (zB a1 x0.length) (some (x0.set a1.toNat a2)) none)<|some x0)<|some x0
def L4 (k:Nat)(a0:Int):Option Bool:=
 cond (decide (a0≥0)) (some (decide (a0≤10000)))<|some false
def Gy (k:Nat)(a0 a1:Int):Option vH:=
 some ((IntKind.wrap .u64 ((IntKind.wrap .u64 ((IntKind.wrap .u64 ((shr .u64 a0 32)*(shr .u64 a1 32)))+(shr .u64 (IntKind.wrap .u64 ((IntKind.wrap .u64 ((shr .u64 a0 32)*(yK .u64 a1 4294967295)))+(shr .u64 (IntKind.wrap .u64 ((yK .u64 a0 4294967295)*(yK .u64 a1 4294967295))) 32))) 32)))+(shr .u64 (IntKind.wrap .u64 ((yK .u64 (IntKind.wrap .u64 ((IntKind.wrap .u64 ((shr .u64 a0 32)*(yK .u64 a1 4294967295)))+(shr .u64 (IntKind.wrap .u64 ((yK .u64 a0 4294967295)*(yK .u64 a1 4294967295))) 32))) 4294967295)+(IntKind.wrap .u64 ((yK .u64 a0 4294967295)*(shr .u64 a1 32))))) 32))),(IntKind.wrap .u64 (a0*a1)))
def yL5 (k:Nat)(a0:Int):Option Int:=
 cond (decide (a0≥4294967296)) (cond (decide ((shr .u64 a0 32)≥65536)) (cond (decide ((shr .u64 (shr .u64 a0 32) 16)≥256)) (cond (zB (IntKind.wrap .u8 ((shr .u64 (shr .u64 (shr .u64 a0 32) 16) 8))) lU.length) (some (zA (56+(zA ((lU.getD (IntKind.wrap .u8 ((shr .u64 (shr .u64 (shr .u64 a0 32) 16) 8))).toNat 0)))))) none)<|cond (zB (IntKind.wrap .u8 ((shr .u64 (shr .u64 a0 32) 16))) lU.length) (some (zA (48+(zA ((lU.getD (IntKind.wrap .u8 ((shr .u64 (shr .u64 a0 32) 16))).toNat 0)))))) none)<|cond (decide ((shr .u64 a0 32)≥256)) (cond (zB (IntKind.wrap .u8 ((shr .u64 (shr .u64 a0 32) 8))) lU.length) (some (zA (40+(zA ((lU.getD (IntKind.wrap .u8 ((shr .u64 (shr .u64 a0 32) 8))).toNat 0)))))) none)<|cond (zB (IntKind.wrap .u8 ((shr .u64 a0 32))) lU.length) (some (zA (32+(zA ((lU.getD (IntKind.wrap .u8 ((shr .u64 a0 32))).toNat 0)))))) none)<|cond (decide (a0≥65536)) (cond (decide ((shr .u64 a0 16)≥256)) (cond (zB (IntKind.wrap .u8 ((shr .u64 (shr .u64 a0 16) 8))) lU.length) (some (zA (24+(zA ((lU.getD (IntKind.wrap .u8 ((shr .u64 (shr .u64 a0 16) 8))).toNat 0)))))) none)<|cond (zB (IntKind.wrap .u8 ((shr .u64 a0 16))) lU.length) (some (zA (16+(zA ((lU.getD (IntKind.wrap .u8 ((shr .u64 a0 16))).toNat 0)))))) none)<|cond (decide (a0≥256)) (cond (zB (IntKind.wrap .u8 ((shr .u64 a0 8))) lU.length) (some (zA (8+(zA ((lU.getD (IntKind.wrap .u8 ((shr .u64 a0 8))).toNat 0)))))) none)<|cond (zB (IntKind.wrap .u8 (a0)) lU.length) (some (zA (0+(zA ((lU.getD (IntKind.wrap .u8 (a0)).toNat 0)))))) none
def qRy (k:Nat)(a0:Int):Option Int:=
 (yL5 k a0).bind fun x0=>some (zA (64-x0))
abbrev qQh:Type:=Int→Int→Int→Int→Int→Int→Int→Int→Int→Option qU
def Na (k:Nat)(rec:qQh):qQh:=fun s2 s8 s9 av aP bm bh aQ bE=>
 cond (decide (aQ≥4294967296)) (cond (decide ((IntKind.wrap .u64 (bE+s9))≥4294967296)) (some (s2,s8,s9,av,aP,bm,bh,(IntKind.wrap .u64 (aQ-1))))<|rec s2 s8 s9 av aP bm bh (IntKind.wrap .u64 (aQ-1)) (IntKind.wrap .u64 (bE+s9)))<|cond (decide ((IntKind.wrap .u64 (aQ * av))>(IntKind.wrap .u64 ((IntKind.wrap .u64 (4294967296 * bE))+bm)))) (cond (decide ((IntKind.wrap .u64 (bE+s9))≥4294967296)) (some (s2,s8,s9,av,aP,bm,bh,(IntKind.wrap .u64 (aQ-1))))<|rec s2 s8 s9 av aP bm bh (IntKind.wrap .u64 (aQ-1)) (IntKind.wrap .u64 (bE+s9)))<|some (s2,s8,s9,av,aP,bm,bh,aQ)
def zl (k:Nat):Nat→qQh:=qZ (fun _ _ _ _ _ _ _ _ _=>none) (Na k)
abbrev qOn:Type:=Int→Int→Int→Int→Int→Int→Int→Int→Int→Option Oi
def Nb (k:Nat)(rec:qOn):qOn:=fun s2 s8 s9 av bh aQ bE bb gb=>
 cond (decide (gb≥4294967296)) (cond (decide ((IntKind.wrap .u64 (bE+s9))≥4294967296)) (some (s2,s8,bh,aQ,bb,(IntKind.wrap .u64 (gb-1))))<|rec s2 s8 s9 av bh aQ (IntKind.wrap .u64 (bE+s9)) bb (IntKind.wrap .u64 (gb-1)))<|cond (decide ((IntKind.wrap .u64 (gb * av))>(IntKind.wrap .u64 ((IntKind.wrap .u64 (4294967296 * bE))+bh)))) (cond (decide ((IntKind.wrap .u64 (bE+s9))≥4294967296)) (some (s2,s8,bh,aQ,bb,(IntKind.wrap .u64 (gb-1))))<|rec s2 s8 s9 av bh aQ (IntKind.wrap .u64 (bE+s9)) bb (IntKind.wrap .u64 (gb-1)))<|some (s2,s8,bh,aQ,bb,gb)
def zm (k:Nat):Nat→qOn:=qZ (fun _ _ _ _ _ _ _ _ _=>none) (Nb k)
def Gz (k:Nat)(a0 a1 a2:Int):Option vH:=
 cond (decide (a2=0)) none<|cond (decide (a2≤a0)) none<|cond (decide (a0=0)) (cond (!(decide (a2=0))) (cond (!(decide (a2=0))) (some ((IntKind.wrap .u64 (Int.tdiv a1 a2)),(Int.tmod a1 a2))) none) none)<|(qRy k a2).bind fun x0=>cond (!(decide ((IntKind.wrap .u64 (x0))<0))) (cond (!(decide ((IntKind.wrap .u64 (x0))<0))) (cond (!(decide ((IntKind.wrap .u64 (64 - (IntKind.wrap .u64 (x0))))<0))) (cond (!(decide ((IntKind.wrap .u64 (x0))<0))) (cond (!(decide ((shr .u64 (shl .u64 a2 (IntKind.wrap .u64 (x0))) 32)=0))) ((zl k k (shl .u64 a2 (IntKind.wrap .u64 (x0))) (IntKind.wrap .u64 (x0)) (shr .u64 (shl .u64 a2 (IntKind.wrap .u64 (x0))) 32) (yK .u64 (shl .u64 a2 (IntKind.wrap .u64 (x0))) 4294967295) (wU .u64 (shl .u64 a0 (IntKind.wrap .u64 (x0))) (shr .u64 a1 (IntKind.wrap .u64 (64-(IntKind.wrap .u64 (x0)))))) (shr .u64 (shl .u64 a1 (IntKind.wrap .u64 (x0))) 32) (yK .u64 (shl .u64 a1 (IntKind.wrap .u64 (x0))) 4294967295) (IntKind.wrap .u64 (Int.tdiv (wU .u64 (shl .u64 a0 (IntKind.wrap .u64 (x0))) (shr .u64 a1 (IntKind.wrap .u64 (64-(IntKind.wrap .u64 (x0)))))) (shr .u64 (shl .u64 a2 (IntKind.wrap .u64 (x0))) 32))) (IntKind.wrap .u64 ((wU .u64 (shl .u64 a0 (IntKind.wrap .u64 (x0))) (shr .u64 a1 (IntKind.wrap .u64 (64-(IntKind.wrap .u64 (x0))))))-(IntKind.wrap .u64 ((IntKind.wrap .u64 (Int.tdiv (wU .u64 (shl .u64 a0 (IntKind.wrap .u64 (x0))) (shr .u64 a1 (IntKind.wrap .u64 (64-(IntKind.wrap .u64 (x0)))))) (shr .u64 (shl .u64 a2 (IntKind.wrap .u64 (x0))) 32)))*(shr .u64 (shl .u64 a2 (IntKind.wrap .u64 (x0))) 32)))))).bind fun z=>cond (!(decide (z.2.2.1=0))) ((zm k k z.1 z.2.1 z.2.2.1 z.2.2.2.1 z.2.2.2.2.2.2.1 z.2.2.2.2.2.2.2 (IntKind.wrap .u64 ((IntKind.wrap .u64 ((IntKind.wrap .u64 ((IntKind.wrap .u64 (z.2.2.2.2.1*4294967296))+z.2.2.2.2.2.1))-(IntKind.wrap .u64 (z.2.2.2.2.2.2.2*z.1))))-(IntKind.wrap .u64 ((IntKind.wrap .u64 (Int.tdiv (IntKind.wrap .u64 ((IntKind.wrap .u64 ((IntKind.wrap .u64 (z.2.2.2.2.1*4294967296))+z.2.2.2.2.2.1))-(IntKind.wrap .u64 (z.2.2.2.2.2.2.2*z.1)))) z.2.2.1))*z.2.2.1)))) (IntKind.wrap .u64 ((IntKind.wrap .u64 ((IntKind.wrap .u64 (z.2.2.2.2.1*4294967296))+z.2.2.2.2.2.1))-(IntKind.wrap .u64 (z.2.2.2.2.2.2.2*z.1)))) (IntKind.wrap .u64 (Int.tdiv (IntKind.wrap .u64 ((IntKind.wrap .u64 ((IntKind.wrap .u64 (z.2.2.2.2.1*4294967296))+z.2.2.2.2.2.1))-(IntKind.wrap .u64 (z.2.2.2.2.2.2.2*z.1)))) z.2.2.1))).bind fun z1=>cond (!(decide (z1.2.1<0))) (some ((IntKind.wrap .u64 ((IntKind.wrap .u64 (z1.2.2.2.1*4294967296))+z1.2.2.2.2.2)),(shr .u64 (IntKind.wrap .u64 ((IntKind.wrap .u64 ((IntKind.wrap .u64 (z1.2.2.2.2.1*4294967296))+z1.2.2.1))-(IntKind.wrap .u64 (z1.2.2.2.2.2*z1.1)))) z1.2.1))) none) none) none) none) none) none) none
def GA (k:Nat)(a0 a1 a2:Int):Option eX:=
 cond (decide (a0<0)) (some (0,false))<|cond (decide (a1<0)) (some (0,false))<|(L4 k a2).bind fun x0=>cond (!x0) (some (0,false))<|(Gy k (IntKind.wrap .u64 (a0)) (IntKind.wrap .u64 (a1))).bind fun x1=>(Gz k (Int.tmod x1.1 10000) x1.2 10000).bind fun x2=>(Gy k x2.1 (IntKind.wrap .u64 ((zA (10000-a2))))).bind fun x3=>(BL k x3.2 (IntKind.wrap .u64 (Int.tdiv (IntKind.wrap .u64 (x2.2*(IntKind.wrap .u64 ((zA (10000-a2)))))) 10000)) 0).bind fun x4=>cond (decide ((IntKind.wrap .u64 (Int.tdiv x1.1 10000))>0)) (cond (decide ((IntKind.wrap .u64 ((zA (10000-a2))))>0)) (some (0,false))<|cond (decide ((IntKind.wrap .u64 (x3.1+x4.2))>0)) (some (0,false))<|cond (decide (x4.1>9223372036854775807)) (some (0,false))<|some ((zA (x4.1)),true))<|cond (decide ((IntKind.wrap .u64 (x3.1+x4.2))>0)) (some (0,false))<|cond (decide (x4.1>9223372036854775807)) (some (0,false))<|some ((zA (x4.1)),true)
abbrev yC1:Type:=Int→Int→AC→Int→Int→Option vH
def Gx (k:Nat)(rec:yC1):yC1:=fun s4 s5 s9 av aP=>
 cond (decide (aP<av)) (cond (zB aP s9.length) ((BL k s5 (IntKind.wrap .u64 ((s9.getD aP.toNat 0))) 0).bind fun x0=>rec (zA (s4+(zA ((shr .i64 (s9.getD aP.toNat 0) 63)+(zA (x0.2)))))) x0.1 s9 av (zA (aP+1))) none)<|some (s4,s5)
def Gw (k:Nat):Nat→yC1
 |0,_,_,_,_,_=>none
 |n+1,s4,s5,s9,av,aP=>Gx k (Gw k n) s4 s5 s9 av aP
def Gv (k:Nat)(a0:AC):Option eX:=
 (Gw k k 0 0 a0 (a0.length:Int) 0).bind fun z=>cond (!(decide (z.1=(shr .i64 (zA (z.2)) 63)))) (some (0,false))<|some ((zA (z.2)),true)
abbrev qYo:Type:=AC→AC→List vH→Int→Int→AC→Option (AC⊕eX)
def sX (k:Nat)(rec:qYo):qYo:=fun s1 s2 kA aX fM r0=>
 cond (decide (fM<aX)) (cond (zB fM kA.length) (cond (zB fM s1.length) (cond (zB fM s2.length) ((GA k (s1.getD fM.toNat 0) (s2.getD fM.toNat 0) (kA.getD fM.toNat (0,0)).2).bind fun x0=>cond (!x0.2) (some (.inr (0,false)))<|cond (zO (r0.length+1) 8) (rec s1 s2 kA aX (zA (fM+1)) (r0++[x0.1])) none) none) none) none)<|some (.inl r0)
def qx (k:Nat):Nat→qYo:=qZ (fun _ _ _ _ _ _=>none) (sX k)
def nk (k:Nat)(a0:List vH)(a1 a2:AC):Option eX:=
 cond (!(decide ((a1.length:Int)=(a0.length:Int)))) (some (0,false))<|cond (!(decide ((a2.length:Int)=(a0.length:Int)))) (some (0,false))<|(qx k k a1 a2 a0 (a0.length:Int) 0 []).bind fun z=>match z with
 |.inl z1=>(Gv k z1).bind fun x1=>some (x1.1,x1.2)
 |.inr z2=>some (z2.1,z2.2)
def Rj (k:Nat)(a0:jO)(a1 a2:Int):Option (Int×jO):=
 (N0 k a0 a1).bind fun x0=>cond (!x0) (some (1,a0))<|(vF k a2 0 1099511627776).bind fun x1=>cond (!x1) (some (1,a0))<|(Hf k a0.2.2.2.2.2.2.2.2.2.2.2.1).bind fun x2=>cond (zB a0.2.2.2.2.2.2.2.2.2.2.2.2.2.2.2.2.1 x2.length) ((qy k (x2.getD a0.2.2.2.2.2.2.2.2.2.2.2.2.2.2.2.2.1.toNat []) a1 a2).bind fun x3=>cond (zB a0.2.2.2.2.2.2.2.2.2.2.2.2.2.2.2.2.1 x2.length) (let y0:EQ:=(x2.set a0.2.2.2.2.2.2.2.2.2.2.2.2.2.2.2.2.1.toNat x3)
   cond (zB a0.2.2.2.2.2.2.2.2.2.2.2.2.2.2.2.2.1 y0.length) ((nk k a0.2.1 a0.2.2.2.2.2.2.2.2.2.2.1 (y0.getD a0.2.2.2.2.2.2.2.2.2.2.2.2.2.2.2.2.1.toNat [])).bind fun x4=>cond (zB a0.2.2.2.2.2.2.2.2.2.2.2.2.2.2.2.2.1 a0.2.2.2.2.2.2.1.length) (cond (!x4.2) (some (8,a0))<|cond (decide (x4.1>1152921504606846976)) (some (8,a0))<|cond (decide (x4.1<(a0.2.2.2.2.2.2.1.getD a0.2.2.2.2.2.2.2.2.2.2.2.2.2.2.2.2.1.toNat aoa).2.1)) (cond (decide ((zA ((a0.2.2.2.2.2.2.1.getD a0.2.2.2.2.2.2.2.2.2.2.2.2.2.2.2.2.1.toNat aoa).1+x4.1))<0)) (some (9,a0))<|(gC k a0.2.2.2.2.2.2.1 a0.2.2.2.2.2.2.2.1 a0.2.2.2.2.2.2.2.2.1 a0.2.2.2.2.2.2.2.2.2.1).bind fun x5=>cond (zB a0.2.2.2.2.2.2.2.2.2.2.2.2.2.2.2.2.1 x5.1.length) (let y1:List zK:=(x5.1.set a0.2.2.2.2.2.2.2.2.2.2.2.2.2.2.2.2.1.toNat ((x5.1.getD a0.2.2.2.2.2.2.2.2.2.2.2.2.2.2.2.2.1.toNat aoa).1,x4.1,(x5.1.getD a0.2.2.2.2.2.2.2.2.2.2.2.2.2.2.2.2.1.toNat aoa).2.2))
       some (0,(jD a0 (y1,x5.2.1,x5.2.2.1,x5.2.2.2,a0.2.2.2.2.2.2.2.2.2.2.1,y0,a0.2.2.2.2.2.2.2.2.2.2.2.2)))) none)<|(gC k a0.2.2.2.2.2.2.1 a0.2.2.2.2.2.2.2.1 a0.2.2.2.2.2.2.2.2.1 a0.2.2.2.2.2.2.2.2.2.1).bind fun x6=>cond (zB a0.2.2.2.2.2.2.2.2.2.2.2.2.2.2.2.2.1 x6.1.length) (let y2:List zK:=(x6.1.set a0.2.2.2.2.2.2.2.2.2.2.2.2.2.2.2.2.1.toNat ((x6.1.getD a0.2.2.2.2.2.2.2.2.2.2.2.2.2.2.2.2.1.toNat aoa).1,x4.1,(x6.1.getD a0.2.2.2.2.2.2.2.2.2.2.2.2.2.2.2.2.1.toNat aoa).2.2))
      some (0,(jD a0 (y2,x6.2.1,x6.2.2.1,x6.2.2.2,a0.2.2.2.2.2.2.2.2.2.2.1,y0,a0.2.2.2.2.2.2.2.2.2.2.2.2)))) none) none) none) none) none
def Rk (k:Nat)(a0 a1:Int):Option eX:=
 cond (decide (a1>0)) (cond (decide (a0>(zA (9223372036854775807-a1)))) (some (0,false))<|cond (decide (a1<0)) (cond (decide (a0<(zA ((-9223372036854775808)-a1)))) (some (0,false))<|some ((zA (a0+a1)),true))<|some ((zA (a0+a1)),true))<|cond (decide (a1<0)) (cond (decide (a0<(zA ((-9223372036854775808)-a1)))) (some (0,false))<|some ((zA (a0+a1)),true))<|some ((zA (a0+a1)),true)
def P7 (k:Nat)(jg jh ft:Int):Option Bool:=
 cond (decide (jg>(-4611686018427387904))) (cond (decide (jg<4611686018427387904)) (cond (decide (jh≥0)) (cond (decide (jh≤2305843009213693952)) (cond (decide (ft≥0)) (some (decide (ft≤2305843009213693952)))<|some false)<|some false)<|some false)<|some false)<|some false
def Mv (k:Nat)(a0:zK)(a1:Int):Option (zK×Int):=
 (Rk k a0.1 a1).bind fun x0=>cond (!x0.2) (some (a0,8))<|(P7 k x0.1 a0.2.1 a0.2.2).bind fun x1=>cond (!x1) (some (a0,8))<|some ((x0.1,a0.2),0)
def HE (k:Nat)(a0:zK)(a1:Int):Option (zK×Int):=
 (Mv k a0 a1).bind fun x0=>some (x0.1,x0.2)
def xS (k:Nat)(jg jh ft a1:Int):Option Int:=
 some (yE false (zA (ft-a1)) 0)
def HF (k:Nat)(a0:zK)(a1 a2:Int):Option (zK×Int):=
 (Mv k a0 (zA (0-a1))).bind fun x0=>cond (decide (x0.2=0)) (cond (decide (a2=1)) ((xS k a0.1 a0.2.1 a0.2.2 a1).bind fun x1=>some ((x0.1.1,x0.1.2.1,x1),x0.2))<|cond (decide (a2=2)) ((xS k a0.1 a0.2.1 a0.2.2 a1).bind fun x2=>some ((x0.1.1,x0.1.2.1,x2),x0.2))<|some (x0.1,x0.2))<|some (x0.1,x0.2)
def HG (k:Nat)(a0:zK)(a1:Int):Option Int:=
 cond (decide (a1=3)) (some (zA ((zA (a0.1+a0.2.1))-a0.2.2)))<|some (zA (a0.1+a0.2.1))
def yEk (k:Nat)(a0:jO)(a1 a2 a3:Int):Option (Int×jO):=
 (vF k a2 0 (zA (a0.1-1))).bind fun x0=>cond (!x0) (some (1,a0))<|(vF k a3 1 1099511627776).bind fun x1=>cond (!x1) (some (1,a0))<|cond (zB a2 a0.2.2.2.2.2.2.1.length) ((HE k (a0.2.2.2.2.2.2.1.getD a2.toNat aoa) a3).bind fun x2=>cond (decide (a1=11)) ((HF k (a0.2.2.2.2.2.2.1.getD a2.toNat aoa) a3 3).bind fun x3=>(HG k (a0.2.2.2.2.2.2.1.getD a2.toNat aoa) 3).bind fun x4=>cond (decide (x4<a3)) (some (9,a0))<|cond (decide ((zA (a0.2.2.2.2.2.2.2.2.2.2.2.2.2.2.1-a3))<0)) (some (9,a0))<|cond (!(decide (x3.2=0))) (some (x3.2,a0))<|cond (decide ((zA (a0.2.2.2.2.2.2.2.2.2.2.2.2.2.2.1-a3))>1152921504606846976)) (some (8,a0))<|(gC k a0.2.2.2.2.2.2.1 a0.2.2.2.2.2.2.2.1 a0.2.2.2.2.2.2.2.2.1 a0.2.2.2.2.2.2.2.2.2.1).bind fun x5=>cond (zB a2 x5.1.length) (some (0,(jD a0 ((x5.1.set a2.toNat x3.1),x5.2.1,x5.2.2.1,x5.2.2.2,(Jk a0 ((zA (a0.2.2.2.2.2.2.2.2.2.2.2.2.2.2.1-a3)),a0.2.2.2.2.2.2.2.2.2.2.2.2.2.2.2)))))) none)<|cond (!(decide (x2.2=0))) (some (x2.2,a0))<|cond (decide ((zA (a0.2.2.2.2.2.2.2.2.2.2.2.2.2.2.1+a3))>1152921504606846976)) (some (8,a0))<|(gC k a0.2.2.2.2.2.2.1 a0.2.2.2.2.2.2.2.1 a0.2.2.2.2.2.2.2.2.1 a0.2.2.2.2.2.2.2.2.2.1).bind fun x6=>cond (zB a2 x6.1.length) (some (0,(jD a0 ((x6.1.set a2.toNat x2.1),x6.2.1,x6.2.2.1,x6.2.2.2,(Jk a0 ((zA (a0.2.2.2.2.2.2.2.2.2.2.2.2.2.2.1+a3)),a0.2.2.2.2.2.2.2.2.2.2.2.2.2.2.2)))))) none) none
abbrev yAz:Type:=(lT×(List qU)×AC×(List zK)×EQ×AC×EQ)⊕(Int×lT×(List qU))
abbrev qWx:Type:=EQ→Int→Int→lT→List qU→AC→List zK→EQ→AC→EQ→Option yAz
def vJ9 (k:Nat)(rec:qWx):qWx:=fun gM jo lr b0 r1 r2 r4 m5 r6 m7=>
 cond (decide (lr<jo)) (cond (zB lr gM.length) ((nk k b0.2.1 r2 (gM.getD lr.toNat [])).bind fun x4=>cond (!x4.2) (some (.inr (8,b0,r1)))<|cond (decide (x4.1>1152921504606846976)) (some (.inr (8,b0,r1)))<|cond (zB lr r4.length) (let y0:List zK:=(r4.set lr.toNat ((r4.getD lr.toNat aoa).1,x4.1,(r4.getD lr.toNat aoa).2.2))
    rec gM jo (zA (lr+1)) b0 r1 r2 y0 m5 r6 m7) none) none)<|some (.inl (b0,r1,r2,r4,m5,r6,m7))
def qYe (k:Nat):Nat→qWx:=qZ (fun _ _ _ _ _ _ _ _ _ _=>none) (vJ9 k)
def vHw (k:Nat)(a0:jO)(a1 a2:Int):Option (Int×jO):=
 (N0 k a0 a1).bind fun x0=>cond (!x0) (some (1,a0))<|(vF k a2 0 1048576).bind fun x1=>cond (!x1) (some (1,a0))<|(qy k a0.2.2.2.2.2.2.2.2.2.2.1 a1 a2).bind fun x2=>(gC k a0.2.2.2.2.2.2.1 a0.2.2.2.2.2.2.2.1 a0.2.2.2.2.2.2.2.2.1 a0.2.2.2.2.2.2.2.2.2.1).bind fun x3=>(qYe k k a0.2.2.2.2.2.2.2.2.2.2.2.1 (a0.2.2.2.2.2.2.2.2.2.2.2.1.length:Int) 0 (lP a0) a0.2.2.2.2.2.2.2.2.2.2.2.2.2.2.2.2.2 x2 x3.1 x3.2.1 x3.2.2.1 x3.2.2.2).bind fun z=>match z with
 |.inl z1=>some (0,(jD z1.1 (vZg z1 (z1.2.2.1,(qQi z1.1 z1.2.1)))))
 |.inr z2=>some (z2.1,(vO z2.2.1 z2.2.2))
def RX (k:Nat)(a0:jO)(a1:zD):Option (Int×jO):=
 cond (decide (a1.1=1)) ((Ri k a0 a1.2).bind fun x0=>some (x0.1,x0.2))<|cond (decide (a1.1=2)) ((Co k a0 a1).bind fun x1=>some (x1.1,x1.2))<|cond (decide (a1.1=3)) ((Co k a0 a1).bind fun x2=>some (x2.1,x2.2))<|cond (decide (a1.1=4)) ((Co k a0 a1).bind fun x3=>some (x3.1,x3.2))<|cond (decide (a1.1=5)) ((Cp k a0 a1).bind fun x4=>some (x4.1,x4.2))<|cond (decide (a1.1=6)) ((Cp k a0 a1).bind fun x5=>some (x5.1,x5.2))<|cond (decide (a1.1=7)) ((Cp k a0 a1).bind fun x6=>some (x6.1,x6.2))<|cond (decide (a1.1=8)) ((Rj k a0 a1.2.1 a1.2.2.1).bind fun x7=>some (x7.1,x7.2))<|cond (decide (a1.1=10)) ((yEk k a0 a1.1 a1.2.1 a1.2.2.1).bind fun x8=>some (x8.1,x8.2))<|cond (decide (a1.1=11)) ((yEk k a0 a1.1 a1.2.1 a1.2.2.1).bind fun x9=>some (x9.1,x9.2))<|cond (decide (a1.1=12)) ((vHw k a0 a1.2.1 a1.2.2.1).bind fun bT=>some (bT.1,bT.2))<|some (0,a0)
def Cm (k:Nat)(di:Int)(dR:List vH)(dU dj cg a1:Int):Option Bool:=
 some (decide (a1=dj))
def re (k:Nat)(a0 a1:Int)(a2:AC):Option qU:=
 some (a0,a1,(cond (Nat.blt 0 a2.length) (a2.getD 0 0)<|0),(cond (Nat.blt 1 a2.length) (a2.getD 1 0)<|0),(cond (Nat.blt 2 a2.length) (a2.getD 2 0)<|0),(cond (Nat.blt 3 a2.length) (a2.getD 3 0)<|0),(cond (Nat.blt 4 a2.length) (a2.getD 4 0)<|0),(cond (Nat.blt 5 a2.length) (a2.getD 5 0)<|0))
abbrev qXt:Type:=Int×(List zK)×EQ×AC×EQ×AC×EQ×(List zD)×AC×Int×Bool×Int×Int×Bool×(List qU)
abbrev yBq:Type:=List zD→Int→Int→Int→List zK→EQ→AC→EQ→AC→EQ→List zD→AC→Int→Bool→Int→Int→Bool→List qU→Option qXt
def G7 (k:Nat)(rec:yBq):yBq:=fun av aP cL af ah aj ag ba bp bq dV dW dX bW aw bD aW r2=>
 cond (decide (cL<aP)) (cond (zB cL av.length) ((re k (av.getD cL.toNat apa).2.1 22 [(av.getD cL.toNat apa).1]).bind fun x0=>cond (zO (r2.length+1) 64) (rec av aP (zA (cL+1)) af ah aj ag ba bp bq dV dW dX bW aw bD aW (r2++[x0])) none) none)<|some (af,ah,aj,ag,ba,bp,bq,dV,dW,dX,bW,aw,bD,aW,r2)
def G6 (k:Nat):Nat→yBq
 |0,_,_,_,_,_,_,_,_,_,_,_,_,_,_,_,_,_,_=>none
 |n+1,av,aP,cL,af,ah,aj,ag,ba,bp,bq,dV,dW,dX,bW,aw,bD,aW,r2=>G7 k (G6 k n) av aP cL af ah aj ag ba bp bq dV dW dX bW aw bD aW r2
abbrev yEh:Type:=List zK→Int→Int→Int→List zK→EQ→AC→EQ→AC→EQ→List zD→AC→Int→Bool→Int→Int→Bool→List qU→Option qXt
def G9 (k:Nat)(rec:yEh):yEh:=fun lW fO mL af ah aj ag ba bp bq dV dW dX bW aw bD aW r2=>
 cond (decide (mL<fO)) (cond (zB mL lW.length) ((re k mL 23 [(lW.getD mL.toNat aoa).1]).bind fun x1=>cond (zO (r2.length+1) 64) (rec lW fO (zA (mL+1)) af ah aj ag ba bp bq dV dW dX bW aw bD aW (r2++[x1])) none) none)<|some (af,ah,aj,ag,ba,bp,bq,dV,dW,dX,bW,aw,bD,aW,r2)
def Mr (k:Nat):Nat→yEh
 |0,_,_,_,_,_,_,_,_,_,_,_,_,_,_,_,_,_,_=>none
 |n+1,lW,fO,mL,af,ah,aj,ag,ba,bp,bq,dV,dW,dX,bW,aw,bD,aW,r2=>G9 k (Mr k n) lW fO mL af ah aj ag ba bp bq dV dW dX bW aw bD aW r2
def Rg (k:Nat)(mI:Int)(rz:List zK)(rA:EQ)(rC:AC)(rD:EQ)(rE:AC)(rF:EQ)(mJ:List zD)(rG:AC)(rH:Int)(rI:Bool):Option TQ:=
 (G6 k k mJ (mJ.length:Int) 0 mI rz rA rC rD rE rF mJ rG rH rI 0 0 false []).bind fun z=>(Mr k k z.2.1 (z.2.1.length:Int) 0 z.1 z.2.1 z.2.2.1 z.2.2.2.1 z.2.2.2.2.1 z.2.2.2.2.2.1 z.2.2.2.2.2.2.1 z.2.2.2.2.2.2.2.1 z.2.2.2.2.2.2.2.2.1 z.2.2.2.2.2.2.2.2.2.1 z.2.2.2.2.2.2.2.2.2.2.1 z.2.2.2.2.2.2.2.2.2.2.2.1 z.2.2.2.2.2.2.2.2.2.2.2.2.1 z.2.2.2.2.2.2.2.2.2.2.2.2.2.1 z.2.2.2.2.2.2.2.2.2.2.2.2.2.2).bind fun z1=>some (kk z1 ([],z1.2.2.2.2.2.2.2.2.1,z1.2.2.2.2.2.2.2.2.2.1,true,z1.2.2.2.2.2.2.2.2.2.2.2.2.2.2))
def qXi (k:Nat)(cf bj bB cw bM ca bO a1:Int):Option Bool:=
 some (decide (a1>bO))
def Hc (k:Nat)(di:Int)(dR:List vH)(dU dj cg a1:Int):Option Bool:=
 cond (decide (a1>0)) (cond (decide (a1<dj)) (cond (!(decide (cg=0))) (some (decide ((Int.tmod a1 cg)=0))) none)<|some false)<|some false
def Ze (k:Nat)(cf bj bB cw bM ca bO a1:Int):Option Bool:=
 cond (decide (a1≥ca)) (some (decide (a1≤bO)))<|some false
def qOp (k:Nat)(cf bj bB cw bM ca bO a1:Int):Option Bool:=
 (Ze k cf bj bB cw bM ca bO a1).bind fun x0=>some x0
def F3 (k:Nat)(rec:yBl):yBl:=fun s8 s9 av af r1=>
 cond (decide (av<s9)) (cond (zB av s8.length) ((qOp k (s8.getD av.toNat apa).1 (s8.getD av.toNat apa).2.1 (s8.getD av.toNat apa).2.2.1 (s8.getD av.toNat apa).2.2.2.1 (s8.getD av.toNat apa).2.2.2.2.1 (s8.getD av.toNat apa).2.2.2.2.2.1 (s8.getD av.toNat apa).2.2.2.2.2.2 af).bind fun x0=>cond x0 (cond (zO (r1.length+1) 56) (let y0:List zD:=(r1++[(s8.getD av.toNat apa)])
     rec s8 s9 (zA (av+1)) af y0) none)<|rec s8 s9 (zA (av+1)) af r1) none)<|some r1
def LG (k:Nat):Nat→yBl
 |0,_,_,_,_,_=>none
 |n+1,s8,s9,av,af,r1=>F3 k (LG k n) s8 s9 av af r1
def Zd (k:Nat)(a0:List zD)(cX:Int):Option (List zD):=
 (LG k k a0 (a0.length:Int) 0 cX []).bind fun z=>some z
def F2 (k:Nat)(a0:List zD)(a1:Int):Option (List zD):=
 (Zd k a0 a1).bind fun x0=>some x0
def Zk (k:Nat)(cf bj bB cw bM ca bO ie ct dz ez dA jc je:Int):Option Bool:=
 cond (decide (bj=ct)) (some (!(decide (bM=3))))<|some false
abbrev qW2:Type:=List zD→Int→Int→Int→Int→Int→Int→Int→Int→Int→Option (Unit⊕Int)
def Ga (k:Nat)(rec:qW2):qW2:=fun s0 s7 s8 af ah aj ag ba bp bq=>
 cond (decide (s8<s7)) (cond (zB s8 s0.length) ((Zk k (s0.getD s8.toNat apa).1 (s0.getD s8.toNat apa).2.1 (s0.getD s8.toNat apa).2.2.1 (s0.getD s8.toNat apa).2.2.2.1 (s0.getD s8.toNat apa).2.2.2.2.1 (s0.getD s8.toNat apa).2.2.2.2.2.1 (s0.getD s8.toNat apa).2.2.2.2.2.2 af ah aj ag ba bp bq).bind fun x0=>cond x0 (some (.inr s8))<|rec s0 s7 (zA (s8+1)) af ah aj ag ba bp bq) none)<|some (.inl ())
def LL (k:Nat):Nat→qW2
 |0,_,_,_,_,_,_,_,_,_,_=>none
 |n+1,s0,s7,s8,af,ah,aj,ag,ba,bp,bq=>Ga k (LL k n) s0 s7 s8 af ah aj ag ba bp bq
def Zl (k:Nat)(a0:List zD)(mM gg mN dB eA eE gh:Int):Option Int:=
 (LL k k a0 (a0.length:Int) 0 mM gg mN dB eA eE gh).bind fun z=>match z with
 |.inl z1=>some (-1)
 |.inr z2=>some z2
def QJ (k:Nat)(a0:List zD)(mM gg mN dB eA eE gh:Int):Option Bool:=
 (Zl k a0 mM gg mN dB eA eE gh).bind fun x0=>some (decide (x0≥0))
def Zp (k:Nat)(cf bj bB cw bM ca bO:Int)(a1:List eX)(a2:List zD):Option (Bool×(List eX)):=
 cond (!(Option.getD (List.lookup bj a1) false)) (some (true,((bj,true)::a1)))<|cond (decide (bM=3)) ((QJ k a2 cf bj bB cw bM ca bO).bind fun x0=>some ((!x0),((bj,true)::a1)))<|some (false,((bj,true)::a1))
abbrev yC7:Type:=(List eX)×(List zD)×(List zD)
abbrev qR5:Type:=List zD→Int→Int→List eX→List zD→List zD→Option yC7
def Gd (k:Nat)(rec:qR5):qR5:=fun s8 s9 av p1 bc r3=>
 cond (decide (av<s9)) (cond (zB av s8.length) ((Zp k (s8.getD av.toNat apa).1 (s8.getD av.toNat apa).2.1 (s8.getD av.toNat apa).2.2.1 (s8.getD av.toNat apa).2.2.2.1 (s8.getD av.toNat apa).2.2.2.2.1 (s8.getD av.toNat apa).2.2.2.2.2.1 (s8.getD av.toNat apa).2.2.2.2.2.2 p1 bc).bind fun x0=>cond x0.1 (cond (zO (r3.length+1) 56) (let y0:List zD:=(r3++[(s8.getD av.toNat apa)])
     rec s8 s9 (zA (av+1)) x0.2 bc y0) none)<|rec s8 s9 (zA (av+1)) x0.2 bc r3) none)<|some (p1,bc,r3)
def Gc (k:Nat):Nat→qR5
 |0,_,_,_,_,_,_=>none
 |n+1,s8,s9,av,p1,bc,r3=>Gd k (Gc k n) s8 s9 av p1 bc r3
def Zo (k:Nat)(a0:List zD)(cX:List eX)(ahj:List zD):Option ((List zD)×(List eX)):=
 (Gc k k a0 (a0.length:Int) 0 cX ahj []).bind fun z=>some (z.2.2,z.1)
def LM (k:Nat)(a0:List zD)(a1:Int):Option (List zD):=
 (F2 k a0 a1).bind fun x0=>(Zo k x0 [] x0).bind fun x1=>some x1.1
def Fx (k:Nat)(au:List zK)(az:EQ)(ay:AC)(ax:EQ)(ie ct dz ez dA jc je:Int):Option Bool:=
 cond (decide (ct≥0)) (cond (decide (ct<au.length)) (cond (decide (dz≥0)) (cond (decide (dz<au.length)) (cond (!(decide (ct=dz))) (cond (decide (ez≥1)) (cond (decide (ez≤1099511627776)) (cond (decide (dA≥1)) (some (decide (dA≤3)))<|some false)<|some false)<|some false)<|some false)<|some false)<|some false)<|some false)<|some false
def Y9 (k:Nat)(cf bj bB cw bM ca bO:Int)(cW:List zK)(jk:EQ)(jl:AC)(jm:EQ):Option Bool:=
 (Fx k cW jk jl jm cf bj bB cw bM ca bO).bind fun x0=>some (!x0)
abbrev qOm:Type:=List zD→Int→Int→List zK→EQ→AC→EQ→Option (Unit⊕Int)
def F1 (k:Nat)(rec:qOm):qOm:=fun s0 s7 s8 af ah aj ag=>
 cond (decide (s8<s7)) (cond (zB s8 s0.length) ((Y9 k (s0.getD s8.toNat apa).1 (s0.getD s8.toNat apa).2.1 (s0.getD s8.toNat apa).2.2.1 (s0.getD s8.toNat apa).2.2.2.1 (s0.getD s8.toNat apa).2.2.2.2.1 (s0.getD s8.toNat apa).2.2.2.2.2.1 (s0.getD s8.toNat apa).2.2.2.2.2.2 af ah aj ag).bind fun x0=>cond x0 (some (.inr s8))<|rec s0 s7 (zA (s8+1)) af ah aj ag) none)<|some (.inl ())
def LD (k:Nat):Nat→qOm
 |0,_,_,_,_,_,_,_=>none
 |n+1,s0,s7,s8,af,ah,aj,ag=>F1 k (LD k n) s0 s7 s8 af ah aj ag
def Za (k:Nat)(a0:List zD)(bG:List zK)(cy:EQ)(cz:AC)(cB:EQ):Option Int:=
 (LD k k a0 (a0.length:Int) 0 bG cy cz cB).bind fun z=>match z with
 |.inl z1=>some (-1)
 |.inr z2=>some z2
def QF (k:Nat)(a0:List zD)(bG:List zK)(cy:EQ)(cz:AC)(cB:EQ):Option Bool:=
 (Za k a0 bG cy cz cB).bind fun x0=>some (decide (x0≥0))
abbrev qW9:Type:=AC×AC×EQ
abbrev yBw:Type:=List zD→Int→Int→AC→AC→EQ→Option qW9
def FT (k:Nat)(rec:yBw):yBw:=fun aQ bE bb r2 r3 m4=>
 cond (decide (bb<bE)) (cond (zB bb aQ.length) (cond (zB (aQ.getD bb.toNat apa).2.1 r2.length) (cond (zB (aQ.getD bb.toNat apa).2.1 r2.length) (let y0:AC:=(r2.set (aQ.getD bb.toNat apa).2.1.toNat (zA ((r2.getD (aQ.getD bb.toNat apa).2.1.toNat 0)-(aQ.getD bb.toNat apa).2.2.2.1)))
     cond (zB (aQ.getD bb.toNat apa).2.2.1 y0.length) (cond (zB (aQ.getD bb.toNat apa).2.2.1 y0.length) (let y1:AC:=(y0.set (aQ.getD bb.toNat apa).2.2.1.toNat (zA ((y0.getD (aQ.getD bb.toNat apa).2.2.1.toNat 0)+(aQ.getD bb.toNat apa).2.2.2.1)))
       cond (zB (aQ.getD bb.toNat apa).2.1 m4.length) (cond (zB (aQ.getD bb.toNat apa).2.2.1 (m4.getD (aQ.getD bb.toNat apa).2.1.toNat []).length) (cond (zB (aQ.getD bb.toNat apa).2.2.1 (m4.getD (aQ.getD bb.toNat apa).2.1.toNat []).length) (let y2:EQ:=(m4.set (aQ.getD bb.toNat apa).2.1.toNat ((m4.getD (aQ.getD bb.toNat apa).2.1.toNat []).set (aQ.getD bb.toNat apa).2.2.1.toNat (zA (((m4.getD (aQ.getD bb.toNat apa).2.1.toNat []).getD (aQ.getD bb.toNat apa).2.2.1.toNat 0)+(aQ.getD bb.toNat apa).2.2.2.1))))
          cond (zB (aQ.getD bb.toNat apa).2.2.1 y2.length) (cond (zB (aQ.getD bb.toNat apa).2.1 (y2.getD (aQ.getD bb.toNat apa).2.2.1.toNat []).length) (cond (zB (aQ.getD bb.toNat apa).2.1 (y2.getD (aQ.getD bb.toNat apa).2.2.1.toNat []).length) (let y3:EQ:=(y2.set (aQ.getD bb.toNat apa).2.2.1.toNat ((y2.getD (aQ.getD bb.toNat apa).2.2.1.toNat []).set (aQ.getD bb.toNat apa).2.1.toNat (zA (((y2.getD (aQ.getD bb.toNat apa).2.2.1.toNat []).getD (aQ.getD bb.toNat apa).2.1.toNat 0)-(aQ.getD bb.toNat apa).2.2.2.1))))
             cond (!(decide ((aQ.getD bb.toNat apa).2.2.2.2.1=3))) (cond (zB (aQ.getD bb.toNat apa).2.1 r3.length) (cond (zB (aQ.getD bb.toNat apa).2.1 r3.length) (let y4:AC:=(r3.set (aQ.getD bb.toNat apa).2.1.toNat (zA ((r3.getD (aQ.getD bb.toNat apa).2.1.toNat 0)+(aQ.getD bb.toNat apa).2.2.2.1)))
                rec aQ bE (zA (bb+1)) y1 y4 y3) none) none)<|rec aQ bE (zA (bb+1)) y1 r3 y3) none) none) none) none) none) none) none) none) none) none) none)<|some (r2,r3,m4)
def Ly (k:Nat):Nat→yBw
 |0,_,_,_,_,_,_=>none
 |n+1,aQ,bE,bb,r2,r3,m4=>FT k (Ly k n) aQ bE bb r2 r3 m4
def QA (k:Nat)(a0:Int)(a1:List zD):Option (AC×AC×EQ):=
 (B1 k a0 0).bind fun x0=>(B1 k a0 0).bind fun x1=>(FQ k a0 0).bind fun x2=>(Ly k k a1 (a1.length:Int) 0 x0 x1 x2).bind fun z=>some (z.1,z.2.1,z.2.2)
def Y1 (k:Nat)(cf bj bB cw bM ca bO a1:Int):Option Bool:=
 some (decide (bj=a1))
def FU (k:Nat)(rec:qSl):qSl:=fun s0 s7 s8 af=>
 cond (decide (s8<s7)) (cond (zB s8 s0.length) ((Y1 k (s0.getD s8.toNat apa).1 (s0.getD s8.toNat apa).2.1 (s0.getD s8.toNat apa).2.2.1 (s0.getD s8.toNat apa).2.2.2.1 (s0.getD s8.toNat apa).2.2.2.2.1 (s0.getD s8.toNat apa).2.2.2.2.2.1 (s0.getD s8.toNat apa).2.2.2.2.2.2 af).bind fun x0=>cond x0 (some (.inr s8))<|rec s0 s7 (zA (s8+1)) af) none)<|some (.inl ())
def LA (k:Nat):Nat→qSl
 |0,_,_,_,_=>none
 |n+1,s0,s7,s8,af=>FU k (LA k n) s0 s7 s8 af
def Y2 (k:Nat)(a0:List zD)(cX:Int):Option Int:=
 (LA k k a0 (a0.length:Int) 0 cX).bind fun z=>match z with
 |.inl z1=>some (-1)
 |.inr z2=>some z2
def QB (k:Nat)(a0:List zD)(cX:Int):Option Bool:=
 (Y2 k a0 cX).bind fun x0=>some (decide (x0≥0))
def FO (k:Nat)(rec:Int→AC→Int→Int→Option Int)(s5:Int)(cL:AC)(bm bh:Int):Option Int:=
 cond (decide (bh<bm)) (cond (zB bh cL.length) (rec (zA (s5+(cL.getD bh.toNat 0))) cL bm (zA (bh+1))) none)<|some s5
def FN (k:Nat):Nat→Int→AC→Int→Int→Option Int
 |0,_,_,_,_=>none
 |n+1,s5,cL,bm,bh=>FO k (FN k n) s5 cL bm bh
def Qx (k:Nat)(au:List zK)(az:EQ)(ay:AC)(ax:EQ)(a1:Int):Option Int:=
 cond (zB a1 ax.length) ((FN k k 0 (ax.getD a1.toNat []) ((ax.getD a1.toNat []).length:Int) 0).bind fun z=>some z) none
def FW (k:Nat)(a0 a1:Int):Option Bool:=
 cond (!(decide (a1=(-1)))) (some (decide (a0>a1)))<|some false
def Y4 (k:Nat)(cf bj bB cw bM ca bO a1 oK rN oL:Int)(ahk nG:AC)(eF:EQ)(a4:Int)(TZ:List zK)(iM:EQ)(ahx:AC)(iN:EQ):Option Bool:=
 cond (!(decide (bj=a1))) (some false)<|cond (zB a1 nG.length) ((xS k oK rN oL (nG.getD a1.toNat 0)).bind fun x0=>cond (decide (bM=3)) (cond (decide (a4<x0)) (some true)<|cond (zB a1 iN.length) (cond (zB bB (iN.getD a1.toNat []).length) (cond (zB a1 eF.length) (cond (zB bB (eF.getD a1.toNat []).length) (cond (zB a1 iM.length) (cond (zB bB (iM.getD a1.toNat []).length) ((FW k (zA (((iN.getD a1.toNat []).getD bB.toNat 0)+((eF.getD a1.toNat []).getD bB.toNat 0))) ((iM.getD a1.toNat []).getD bB.toNat 0)).bind fun x1=>some x1) none) none) none) none) none) none)<|cond (zB a1 iN.length) (cond (zB bB (iN.getD a1.toNat []).length) (cond (zB a1 eF.length) (cond (zB bB (eF.getD a1.toNat []).length) (cond (zB a1 iM.length) (cond (zB bB (iM.getD a1.toNat []).length) ((FW k (zA (((iN.getD a1.toNat []).getD bB.toNat 0)+((eF.getD a1.toNat []).getD bB.toNat 0))) ((iM.getD a1.toNat []).getD bB.toNat 0)).bind fun x2=>some x2) none) none) none) none) none) none) none
abbrev qZw:Type:=List zD→Int→Int→Int→Int→Int→Int→AC→AC→EQ→Int→List zK→EQ→AC→EQ→Option (Unit⊕Int)
def FX (k:Nat)(rec:qZw):qZw:=fun s0 s7 s8 af aw aD aE bc bU bV cj jq wm wo wq=>
 cond (decide (s8<s7)) (cond (zB s8 s0.length) ((Y4 k (s0.getD s8.toNat apa).1 (s0.getD s8.toNat apa).2.1 (s0.getD s8.toNat apa).2.2.1 (s0.getD s8.toNat apa).2.2.2.1 (s0.getD s8.toNat apa).2.2.2.2.1 (s0.getD s8.toNat apa).2.2.2.2.2.1 (s0.getD s8.toNat apa).2.2.2.2.2.2 af aw aD aE bc bU bV cj jq wm wo wq).bind fun x0=>cond x0 (some (.inr s8))<|rec s0 s7 (zA (s8+1)) af aw aD aE bc bU bV cj jq wm wo wq) none)<|some (.inl ())
def LC (k:Nat):Nat→qZw
 |0,_,_,_,_,_,_,_,_,_,_,_,_,_,_,_=>none
 |n+1,s0,s7,s8,af,aw,aD,aE,bc,bU,bV,cj,jq,wm,wo,wq=>FX k (LC k n) s0 s7 s8 af aw aD aE bc bU bV cj jq wm wo wq
def Y5 (k:Nat)(a0:List zD)(cX cY dC cZ:Int)(gi eG:AC)(gj:EQ)(DC:Int)(eH:List zK)(jt:EQ)(ju:AC)(jv:EQ):Option Int:=
 (LC k k a0 (a0.length:Int) 0 cX cY dC cZ gi eG gj DC eH jt ju jv).bind fun z=>match z with
 |.inl z1=>some (-1)
 |.inr z2=>some z2
def QC (k:Nat)(a0:List zD)(cX cY dC cZ:Int)(gi eG:AC)(gj:EQ)(DC:Int)(eH:List zK)(jt:EQ)(ju:AC)(jv:EQ):Option Bool:=
 (Y5 k a0 cX cY dC cZ gi eG gj DC eH jt ju jv).bind fun x0=>some (decide (x0≥0))
abbrev qQr:Type:=(List zD)×Int×AC×AC×EQ×(List zK)×EQ×AC×EQ×Int×Int×Int×Int×Int
abbrev qZ4:Type:=List zD→Int→AC→Int→Int→AC→AC→EQ→List zK→EQ→AC→EQ→Int→Int→Int→Int→Int→Option qQr
def FY (k:Nat)(rec:qZ4):qZ4:=fun s3 aP lV gM jo af ah aj aw aD aE aG bc cj de dt jq=>
 cond (decide (jo<gM)) (cond (zB jo lV.length) (rec s3 (zA (aP+(lV.getD jo.toNat 0))) lV gM (zA (jo+1)) af ah aj aw aD aE aG bc cj de dt jq) none)<|some (s3,aP,af,ah,aj,aw,aD,aE,aG,bc,cj,de,dt,jq)
def B3 (k:Nat):Nat→qZ4
 |0,_,_,_,_,_,_,_,_,_,_,_,_,_,_,_,_,_=>none
 |n+1,s3,aP,lV,gM,jo,af,ah,aj,aw,aD,aE,aG,bc,cj,de,dt,jq=>FY k (B3 k n) s3 aP lV gM jo af ah aj aw aD aE aG bc cj de dt jq
def QE (k:Nat)(jw wu:AC)(jx:EQ)(cW:List zK)(jk:EQ)(jl:AC)(jm:EQ)(a2:Int)(a3:List zD):Option Bool:=
 cond (zB a2 cW.length) (cond (zB a2 jw.length) (cond (decide ((zA ((zA ((cW.getD a2.toNat aoa).1+(cW.getD a2.toNat aoa).2.1))+(jw.getD a2.toNat 0)))<0)) (some true)<|(Qx k cW jk jl jm a2).bind fun x0=>cond (zB a2 jx.length) ((B3 k k a3 x0 (jx.getD a2.toNat []) ((jx.getD a2.toNat []).length:Int) 0 jw wu jx cW jk jl jm a2 (cW.getD a2.toNat aoa).1 (cW.getD a2.toNat aoa).2.1 (cW.getD a2.toNat aoa).2.2 (zA ((zA ((cW.getD a2.toNat aoa).1+(cW.getD a2.toNat aoa).2.1))+(jw.getD a2.toNat 0)))).bind fun z=>cond (zB z.2.2.2.2.2.2.2.2.2.1 z.2.2.2.2.2.2.2.1.length) ((FW k z.2.1 (z.2.2.2.2.2.2.2.1.getD z.2.2.2.2.2.2.2.2.2.1.toNat 0)).bind fun x1=>cond x1 (some true)<|(QC k z.1 z.2.2.2.2.2.2.2.2.2.1 z.2.2.2.2.2.2.2.2.2.2.1 z.2.2.2.2.2.2.2.2.2.2.2.1 z.2.2.2.2.2.2.2.2.2.2.2.2.1 z.2.2.1 z.2.2.2.1 z.2.2.2.2.1 z.2.2.2.2.2.2.2.2.2.2.2.2.2 z.2.2.2.2.2.1 z.2.2.2.2.2.2.1 z.2.2.2.2.2.2.2.1 z.2.2.2.2.2.2.2.2.1).bind fun x2=>some x2) none) none) none) none
abbrev qUc:Type:=List zD→Int→Int→List zK→EQ→AC→EQ→AC→AC→EQ→AC→Option AC
def F0 (k:Nat)(rec:qUc):qUc:=fun s1 bE bb af ah aj ag r2 r3 m4 r5=>
 cond (decide (bb<bE)) ((QB k s1 bb).bind fun x1=>cond x1 ((QE k r2 r3 m4 af ah aj ag bb s1).bind fun x2=>cond x2 (cond (zO (r5.length+1) 8) (rec s1 bE (zA (bb+1)) af ah aj ag r2 r3 m4 (r5++[bb])) none)<|rec s1 bE (zA (bb+1)) af ah aj ag r2 r3 m4 r5)<|rec s1 bE (zA (bb+1)) af ah aj ag r2 r3 m4 r5)<|some r5
def FZ (k:Nat):Nat→qUc
 |0,_,_,_,_,_,_,_,_,_,_,_=>none
 |n+1,s1,bE,bb,af,ah,aj,ag,r2,r3,m4,r5=>F0 k (FZ k n) s1 bE bb af ah aj ag r2 r3 m4 r5
def B4 (k:Nat)(au:List zK)(az:EQ)(ay:AC)(ax:EQ)(a1:List zD):Option AC:=
 (QA k (au.length:Int) a1).bind fun x0=>(FZ k k a1 (au.length:Int) 0 au az ay ax x0.1 x0.2.1 x0.2.2 []).bind fun z=>some z
def B5 (k:Nat)(au:List zK)(az:EQ)(ay:AC)(ax:EQ)(a1:List zD):Option Bool:=
 cond (decide ((a1.length : Int)≤64)) ((QF k a1 au az ay ax).bind fun x0=>cond (!x0) ((B4 k au az ay ax a1).bind fun x1=>some (decide ((x1.length:Int)=0)))<|some false)<|some false
def YE (k:Nat)(cf bj bB cw bM ca bO:Int)(cW:List zK)(jk:EQ)(jl:AC)(jm:EQ):Option Bool:=
 (Fx k cW jk jl jm cf bj bB cw bM ca bO).bind fun x0=>some (!x0)
def Fy (k:Nat)(rec:qOm):qOm:=fun s0 s7 s8 af ah aj ag=>
 cond (decide (s8<s7)) (cond (zB s8 s0.length) ((YE k (s0.getD s8.toNat apa).1 (s0.getD s8.toNat apa).2.1 (s0.getD s8.toNat apa).2.2.1 (s0.getD s8.toNat apa).2.2.2.1 (s0.getD s8.toNat apa).2.2.2.2.1 (s0.getD s8.toNat apa).2.2.2.2.2.1 (s0.getD s8.toNat apa).2.2.2.2.2.2 af ah aj ag).bind fun x0=>cond x0 (some (.inr s8))<|rec s0 s7 (zA (s8+1)) af ah aj ag) none)<|some (.inl ())
def Li (k:Nat):Nat→qOm
 |0,_,_,_,_,_,_,_=>none
 |n+1,s0,s7,s8,af,ah,aj,ag=>Fy k (Li k n) s0 s7 s8 af ah aj ag
def YF (k:Nat)(a0:List zD)(bG:List zK)(cy:EQ)(cz:AC)(cB:EQ):Option Int:=
 (Li k k a0 (a0.length:Int) 0 bG cy cz cB).bind fun z=>match z with
 |.inl z1=>some (-1)
 |.inr z2=>some z2
def Qj (k:Nat)(a0:List zD)(bG:List zK)(cy:EQ)(cz:AC)(cB:EQ):Option Bool:=
 (YF k a0 bG cy cz cB).bind fun x0=>some (decide (x0≥0))
def Yo (k:Nat)(jg jh ft:Int):Option Bool:=
 (P7 k jg jh ft).bind fun x0=>some (!x0)
abbrev qY5:Type:=List zK→Int→Int→Option (Unit⊕Int)
def Fg (k:Nat)(rec:qY5):qY5:=fun s0 s7 s8=>
 cond (decide (s8<s7)) (cond (zB s8 s0.length) ((Yo k (s0.getD s8.toNat aoa).1 (s0.getD s8.toNat aoa).2.1 (s0.getD s8.toNat aoa).2.2).bind fun x0=>cond x0 (some (.inr s8))<|rec s0 s7 (zA (s8+1))) none)<|some (.inl ())
def K0 (k:Nat):Nat→qY5
 |0,_,_,_=>none
 |n+1,s0,s7,s8=>Fg k (K0 k n) s0 s7 s8
def Yp (k:Nat)(a0:List zK):Option Int:=
 (K0 k k a0 (a0.length:Int) 0).bind fun z=>match z with
 |.inl z1=>some (-1)
 |.inr z2=>some z2
def P9 (k:Nat)(a0:List zK):Option Bool:=
 (Yp k a0).bind fun x0=>some (decide (x0≥0))
def Yl (k:Nat)(a0:Int):Option Bool:=
 cond (decide (a0≥(-1))) (some (decide (a0≤2305843009213693952)))<|some false
def Yr (k:Nat)(a0:Int):Option Bool:=
 (Yl k a0).bind fun x0=>some (!x0)
abbrev yFc:Type:=AC→Int→Int→Option (Unit⊕Int)
def Fh (k:Nat)(rec:yFc):yFc:=fun s0 s7 s8=>
 cond (decide (s8<s7)) (cond (zB s8 s0.length) ((Yr k (s0.getD s8.toNat 0)).bind fun x0=>cond x0 (some (.inr s8))<|rec s0 s7 (zA (s8+1))) none)<|some (.inl ())
def K1 (k:Nat):Nat→yFc
 |0,_,_,_=>none
 |n+1,s0,s7,s8=>Fh k (K1 k n) s0 s7 s8
def Ys (k:Nat)(a0:AC):Option Int:=
 (K1 k k a0 (a0.length:Int) 0).bind fun z=>match z with
 |.inl z1=>some (-1)
 |.inr z2=>some z2
def Qa (k:Nat)(a0:AC):Option Bool:=
 (Ys k a0).bind fun x0=>some (decide (x0≥0))
def K3 (k:Nat)(a0:AC)(a1:Int):Option Bool:=
 cond (decide ((a0.length : Int)=a1)) ((Qa k a0).bind fun x0=>some (!x0))<|some false
abbrev qZu:Type:=Int→EQ→Int→Int→Option (Unit⊕Bool)
def Fj (k:Nat)(rec:qZu):qZu:=fun s1 bm bh aQ=>
 cond (decide (aQ<bh)) (cond (zB aQ bm.length) ((K3 k (bm.getD aQ.toNat []) s1).bind fun x0=>cond (!x0) (some (.inr false))<|rec s1 bm bh (zA (aQ+1))) none)<|some (.inl ())
def K4 (k:Nat):Nat→qZu
 |0,_,_,_,_=>none
 |n+1,s1,bm,bh,aQ=>Fj k (K4 k n) s1 bm bh aQ
def Qd (k:Nat)(a0:EQ)(a1:Int):Option Bool:=
 cond (!(decide ((a0.length:Int)=a1))) (some false)<|(K4 k k a1 a0 (a0.length:Int) 0).bind fun z=>match z with
 |.inl z1=>some true
 |.inr z2=>some z2
def P8 (k:Nat)(a0:Int):Option Bool:=
 cond (decide (a0>(-72057594037927936))) (some (decide (a0<72057594037927936)))<|some false
def Yu (k:Nat)(a0:Int):Option Bool:=
 (P8 k a0).bind fun x0=>some (!x0)
def Fi (k:Nat)(rec:yFc):yFc:=fun s0 s7 s8=>
 cond (decide (s8<s7)) (cond (zB s8 s0.length) ((Yu k (s0.getD s8.toNat 0)).bind fun x0=>cond x0 (some (.inr s8))<|rec s0 s7 (zA (s8+1))) none)<|some (.inl ())
def K2 (k:Nat):Nat→yFc
 |0,_,_,_=>none
 |n+1,s0,s7,s8=>Fi k (K2 k n) s0 s7 s8
def Yv (k:Nat)(a0:AC):Option Int:=
 (K2 k k a0 (a0.length:Int) 0).bind fun z=>match z with
 |.inl z1=>some (-1)
 |.inr z2=>some z2
def Qb (k:Nat)(a0:AC):Option Bool:=
 (Yv k a0).bind fun x0=>some (decide (x0≥0))
def Qc (k:Nat)(a0:AC)(a1:Int):Option Bool:=
 cond (decide ((a0.length : Int)=a1)) ((Qb k a0).bind fun x0=>some (!x0))<|some false
def Fk (k:Nat)(rec:qZu):qZu:=fun s1 bm bh aQ=>
 cond (decide (aQ<bh)) (cond (zB aQ bm.length) ((Qc k (bm.getD aQ.toNat []) s1).bind fun x0=>cond (!x0) (some (.inr false))<|rec s1 bm bh (zA (aQ+1))) none)<|some (.inl ())
def K5 (k:Nat):Nat→qZu
 |0,_,_,_,_=>none
 |n+1,s1,bm,bh,aQ=>Fk k (K5 k n) s1 bm bh aQ
def Qe (k:Nat)(a0:EQ)(a1:Int):Option Bool:=
 cond (!(decide ((a0.length:Int)=a1))) (some false)<|(K5 k k a1 a0 (a0.length:Int) 0).bind fun z=>match z with
 |.inl z1=>some true
 |.inr z2=>some z2
abbrev qT7:Type:=(EQ×EQ×Int×Int)⊕Bool
abbrev qQ8:Type:=EQ→Int→EQ→Int→Int→AC→Int→Int→Option qT7
def Fm (k:Nat)(rec:qQ8):qQ8:=fun s0 s3 s7 s8 s9 bh aQ bE=>
 cond (decide (bE<aQ)) (cond (zB bE bh.length) (cond (zB bE s0.length) (cond (zB s3 (s0.getD bE.toNat []).length) (cond (!(decide (((s0.getD bE.toNat []).getD s3.toNat 0)=(zA (0-(bh.getD bE.toNat 0)))))) (some (.inr false))<|rec s0 s3 s7 s8 s9 bh aQ (zA (bE+1))) none) none) none)<|some (.inl (s0,s7,s8,s9))
def Fl (k:Nat):Nat→qQ8
 |0,_,_,_,_,_,_,_,_=>none
 |n+1,s0,s3,s7,s8,s9,bh,aQ,bE=>Fm k (Fl k n) s0 s3 s7 s8 s9 bh aQ bE
abbrev qSz:Type:=EQ→EQ→Int→Int→Option (Unit⊕Bool)
def Fo (k:Nat)(rec:qSz):qSz:=fun s0 s7 s8 s9=>
 cond (decide (s9<s8)) (cond (zB s9 s7.length) ((Fl k k s0 s9 s7 s8 s9 (s7.getD s9.toNat []) ((s7.getD s9.toNat []).length:Int) 0).bind fun z=>match z with
   |.inl z1=>rec z1.1 z1.2.1 z1.2.2.1 (zA (z1.2.2.2+1))
   |.inr z2=>some (.inr z2)) none)<|some (.inl ())
def K6 (k:Nat):Nat→qSz
 |0,_,_,_,_=>none
 |n+1,s0,s7,s8,s9=>Fo k (K6 k n) s0 s7 s8 s9
def Qf (k:Nat)(a0:EQ):Option Bool:=
 (K6 k k a0 a0 (a0.length:Int) 0).bind fun z3=>match z3 with
 |.inl z4=>some true
 |.inr z5=>some z5
def Fp (k:Nat)(au:List zK)(az:EQ)(ay:AC)(ax:EQ):Option Bool:=
 cond (decide ((au.length:Int)<1)) (some false)<|cond (decide ((au.length:Int)>6)) (some false)<|(P9 k au).bind fun x0=>cond x0 (some false)<|(Qd k az (au.length:Int)).bind fun x1=>cond x1 ((K3 k ay (au.length:Int)).bind fun x2=>cond x2 ((Qe k ax (au.length:Int)).bind fun x3=>cond x3 ((Qf k ax).bind fun x4=>some x4)<|some false)<|some false)<|some false
abbrev qZs:Type:=(List zK)×EQ×AC×EQ×(List zK)×EQ×AC×EQ
abbrev qMk:Type:=List zD→Int→Int→List zK→EQ→AC→EQ→List zK→EQ→AC→EQ→Option qZs
def FC (k:Nat)(rec:qMk):qMk:=fun bz kA aX af ah aj ag r3 m4 r5 m6=>
 cond (decide (aX<kA)) (cond (zB aX bz.length) (cond (zB (bz.getD aX.toNat apa).2.1 r3.length) (cond (zB (bz.getD aX.toNat apa).2.2.1 r3.length) (let y0:List zK:=(r3.set (bz.getD aX.toNat apa).2.1.toNat ((zA ((r3.getD (bz.getD aX.toNat apa).2.1.toNat aoa).1-(bz.getD aX.toNat apa).2.2.2.1)),(r3.getD (bz.getD aX.toNat apa).2.1.toNat aoa).2))
     let y1:List zK:=(y0.set (bz.getD aX.toNat apa).2.2.1.toNat ((zA ((y0.getD (bz.getD aX.toNat apa).2.2.1.toNat aoa).1+(bz.getD aX.toNat apa).2.2.2.1)),(y0.getD (bz.getD aX.toNat apa).2.2.1.toNat aoa).2))
     cond (!(decide ((bz.getD aX.toNat apa).2.2.2.2.1=3))) ((xS k (y1.getD (bz.getD aX.toNat apa).2.1.toNat aoa).1 (y1.getD (bz.getD aX.toNat apa).2.1.toNat aoa).2.1 (y1.getD (bz.getD aX.toNat apa).2.1.toNat aoa).2.2 (bz.getD aX.toNat apa).2.2.2.1).bind fun x2=>let y2:List zK:=(y1.set (bz.getD aX.toNat apa).2.1.toNat ((y1.getD (bz.getD aX.toNat apa).2.1.toNat aoa).1,(y1.getD (bz.getD aX.toNat apa).2.1.toNat aoa).2.1,x2))
      cond (zB (bz.getD aX.toNat apa).2.1 m6.length) (cond (zB (bz.getD aX.toNat apa).2.2.1 (m6.getD (bz.getD aX.toNat apa).2.1.toNat []).length) (cond (zB (bz.getD aX.toNat apa).2.2.1 (m6.getD (bz.getD aX.toNat apa).2.1.toNat []).length) (let y3:EQ:=(m6.set (bz.getD aX.toNat apa).2.1.toNat ((m6.getD (bz.getD aX.toNat apa).2.1.toNat []).set (bz.getD aX.toNat apa).2.2.1.toNat (zA (((m6.getD (bz.getD aX.toNat apa).2.1.toNat []).getD (bz.getD aX.toNat apa).2.2.1.toNat 0)+(bz.getD aX.toNat apa).2.2.2.1))))
         cond (zB (bz.getD aX.toNat apa).2.2.1 y3.length) (cond (zB (bz.getD aX.toNat apa).2.1 (y3.getD (bz.getD aX.toNat apa).2.2.1.toNat []).length) (cond (zB (bz.getD aX.toNat apa).2.1 (y3.getD (bz.getD aX.toNat apa).2.2.1.toNat []).length) (let y4:EQ:=(y3.set (bz.getD aX.toNat apa).2.2.1.toNat ((y3.getD (bz.getD aX.toNat apa).2.2.1.toNat []).set (bz.getD aX.toNat apa).2.1.toNat (zA (((y3.getD (bz.getD aX.toNat apa).2.2.1.toNat []).getD (bz.getD aX.toNat apa).2.1.toNat 0)-(bz.getD aX.toNat apa).2.2.2.1))))
            rec bz kA (zA (aX+1)) af ah aj ag y2 m4 r5 y4) none) none) none) none) none) none)<|cond (zB (bz.getD aX.toNat apa).2.1 m6.length) (cond (zB (bz.getD aX.toNat apa).2.2.1 (m6.getD (bz.getD aX.toNat apa).2.1.toNat []).length) (cond (zB (bz.getD aX.toNat apa).2.2.1 (m6.getD (bz.getD aX.toNat apa).2.1.toNat []).length) (let y5:EQ:=(m6.set (bz.getD aX.toNat apa).2.1.toNat ((m6.getD (bz.getD aX.toNat apa).2.1.toNat []).set (bz.getD aX.toNat apa).2.2.1.toNat (zA (((m6.getD (bz.getD aX.toNat apa).2.1.toNat []).getD (bz.getD aX.toNat apa).2.2.1.toNat 0)+(bz.getD aX.toNat apa).2.2.2.1))))
        cond (zB (bz.getD aX.toNat apa).2.2.1 y5.length) (cond (zB (bz.getD aX.toNat apa).2.1 (y5.getD (bz.getD aX.toNat apa).2.2.1.toNat []).length) (cond (zB (bz.getD aX.toNat apa).2.1 (y5.getD (bz.getD aX.toNat apa).2.2.1.toNat []).length) (let y6:EQ:=(y5.set (bz.getD aX.toNat apa).2.2.1.toNat ((y5.getD (bz.getD aX.toNat apa).2.2.1.toNat []).set (bz.getD aX.toNat apa).2.1.toNat (zA (((y5.getD (bz.getD aX.toNat apa).2.2.1.toNat []).getD (bz.getD aX.toNat apa).2.1.toNat 0)-(bz.getD aX.toNat apa).2.2.2.1))))
           rec bz kA (zA (aX+1)) af ah aj ag y1 m4 r5 y6) none) none) none) none) none) none) none) none) none)<|some (af,ah,aj,ag,r3,m4,r5,m6)
def FB (k:Nat):Nat→qMk
 |0,_,_,_,_,_,_,_,_,_,_,_=>none
 |n+1,bz,kA,aX,af,ah,aj,ag,r3,m4,r5,m6=>FC k (FB k n) bz kA aX af ah aj ag r3 m4 r5 m6
def qp (k:Nat)(au:List zK)(az:EQ)(ay:AC)(ax:EQ)(a1:List zD):Option ((List zK)×EQ×AC×EQ×Int):=
 cond (decide ((a1.length:Int)>64)) (some (au,az,ay,ax,1))<|(Qj k a1 au az ay ax).bind fun x0=>cond x0 (some (au,az,ay,ax,1))<|(gC k au az ay ax).bind fun x1=>(FB k k a1 (a1.length:Int) 0 au az ay ax x1.1 x1.2.1 x1.2.2.1 x1.2.2.2).bind fun z=>(Fp k z.2.2.2.2.1 z.2.2.2.2.2.1 z.2.2.2.2.2.2.1 z.2.2.2.2.2.2.2).bind fun x3=>cond (!x3) (some (vW z 8))<|some (yUy z 0)
abbrev qNf:Type:=((List zK)×EQ×AC×EQ×Int×Int×Int×Int×Int×Int×Int)⊕(Bool×Int×Int×Int×Int×Int×Int×Int×(List zK)×EQ×AC×EQ)
abbrev yEw:Type:=Int→Int→List zK→EQ→AC→EQ→Int→Int→Int→Int→Int→Int→Int→List zD→Option qNf
def GG (k:Nat)(rec:yEw):yEw:=fun bE bb af ah aj ag aw aD aE aG aJ aK aL r3=>
 cond (decide (bb<bE)) (cond (zB bb r3.length) ((B5 k af ah aj ag [(r3.getD bb.toNat apa)]).bind fun x1=>cond (!x1) (rec bE (zA (bb+1)) af ah aj ag aw aD aE aG aJ aK aL r3)<|(qp k af ah aj ag [(r3.getD bb.toNat apa)]).bind fun x2=>cond (decide (x2.2.2.2.2=0)) (some (.inr (true,(gf (r3.getD bb.toNat apa) (jU x2)))))<|rec bE (zA (bb+1)) af ah aj ag aw aD aE aG aJ aK aL r3) none)<|some (.inl (af,ah,aj,ag,aw,aD,aE,aG,aJ,aK,aL))
def L6 (k:Nat):Nat→yEw
 |0,_,_,_,_,_,_,_,_,_,_,_,_,_,_=>none
 |n+1,bE,bb,af,ah,aj,ag,aw,aD,aE,aG,aJ,aK,aL,r3=>GG k (L6 k n) bE bb af ah aj ag aw aD aE aG aJ aK aL r3
def Q0 (k:Nat)(au:List zK)(az:EQ)(ay:AC)(ax:EQ)(a1:List zD)(a2:Int):Option (Int×Int×Int×Int×Int×Int×Int×(List zK)×EQ×AC×EQ×Bool):=
 (LM k a1 a2).bind fun x0=>(L6 k k (x0.length:Int) 0 au az ay ax 0 0 0 0 0 0 0 x0).bind fun z=>match z with
 |.inl z1=>some (0,0,0,0,0,0,0,(vW z1 false))
 |.inr z2=>some (ahh z2 z2.1)
abbrev qWt:Type:=(List zD)×(List zK)×EQ×AC×EQ×(List zD)
abbrev qQ7:Type:=Int→List zD→List zK→EQ→AC→EQ→List zD→Option qWt
def GI (k:Nat)(rec:qQ7):qQ7:=fun s2 s7 af ah aj ag r1=>
 (Q0 k af ah aj ag s7 s2).bind fun x0=>cond (!x0.2.2.2.2.2.2.2.2.2.2.2) (some (s7,af,ah,aj,ag,r1))<|(qs k s7 x0.1).bind fun x1=>cond (zO (r1.length+1) 56) (let y0:List zD:=(r1++[(vS x0)])
  rec s2 x1.1 x0.2.2.2.2.2.2.2.1 x0.2.2.2.2.2.2.2.2.1 x0.2.2.2.2.2.2.2.2.2.1 x0.2.2.2.2.2.2.2.2.2.2.1 y0) none
def L7 (k:Nat):Nat→qQ7
 |0,_,_,_,_,_,_,_=>none
 |n+1,s2,s7,af,ah,aj,ag,r1=>GI k (L7 k n) s2 s7 af ah aj ag r1
def Q1 (k:Nat)(au:List zK)(az:EQ)(ay:AC)(ax:EQ)(a1:List zD)(a2:Int):Option tC:=
 (L7 k k a2 a1 au az ay ax []).bind fun z=>some (iI z (z.1,z.2.2.2.2.2))
abbrev qO5:Type:=(Int×Int×(List zK)×EQ×AC×EQ×Int×Int×Int×Int×Int×Int×Int×Int×Int×Int×Int×Int×Int×Int×(List zD))⊕ySh
abbrev qP1:Type:=Int→Int→Int→Int→List zK→EQ→AC→EQ→Int→Int→Int→Int→Int→Int→Int→Int→Int→Int→Int→Int→Int→Int→List zD→Int→Int→Int→Int→Int→Int→Int→Option qO5
def GL (k:Nat)(rec:qP1):qP1:=fun cQ cM kA aX af ah aj ag aw aD aE aG aJ aK aL cC cD bD aW cm cn cp r2 cj de dt ig ij ik il=>
 cond (decide (aX<kA)) (cond (zB aX r2.length) (cond (!(decide ((r2.getD aX.toNat apa).2.1=dt))) (rec cQ cM kA (zA (aX+1)) af ah aj ag aw aD aE aG aJ aK aL cC cD bD aW cm cn cp r2 cj de dt ig ij ik il)<|cond (!(decide ((r2.getD aX.toNat apa).2.2.1=de))) (rec cQ cM kA (zA (aX+1)) af ah aj ag aw aD aE aG aJ aK aL cC cD bD aW cm cn cp r2 cj de dt ig ij ik il)<|cond (decide (de≥(r2.getD aX.toNat apa).2.1)) (rec cQ cM kA (zA (aX+1)) af ah aj ag aw aD aE aG aJ aK aL cC cD bD aW cm cn cp r2 cj de dt ig ij ik il)<|(B5 k af ah aj ag [(cj,de,dt,ig,ij,ik,il),(r2.getD aX.toNat apa)]).bind fun x1=>cond (!x1) (rec cQ cM kA (zA (aX+1)) af ah aj ag aw aD aE aG aJ aK aL cC cD bD aW cm cn cp r2 cj de dt ig ij ik il)<|(qp k af ah aj ag [(cj,de,dt,ig,ij,ik,il),(r2.getD aX.toNat apa)]).bind fun x2=>cond (decide (x2.2.2.2.2=0)) (some (.inr (true,cj,de,dt,ig,ij,ik,il,(gf (r2.getD aX.toNat apa) (jU x2)))))<|rec cQ cM kA (zA (aX+1)) af ah aj ag aw aD aE aG aJ aK aL cC cD bD aW cm cn cp r2 cj de dt ig ij ik il) none)<|some (.inl (cQ,cM,af,ah,aj,ag,aw,aD,aE,aG,aJ,aK,aL,cC,cD,bD,aW,cm,cn,cp,r2))
def L8 (k:Nat):Nat→qP1
 |0,_,_,_,_,_,_,_,_,_,_,_,_,_,_,_,_,_,_,_,_,_,_,_,_,_,_,_,_,_,_=>none
 |n+1,cQ,cM,kA,aX,af,ah,aj,ag,aw,aD,aE,aG,aJ,aK,aL,cC,cD,bD,aW,cm,cn,cp,r2,cj,de,dt,ig,ij,ik,il=>GL k (L8 k n) cQ cM kA aX af ah aj ag aw aD aE aG aJ aK aL cC cD bD aW cm cn cp r2 cj de dt ig ij ik il
abbrev qXs:Type:=(Int×Int×Int×Int×Int×Int×Int×Int×Int×Int×Int×Int×Int×Int)⊕ySh
abbrev qMr:Type:=Int→Int→List zK→EQ→AC→EQ→Int→Int→Int→Int→Int→Int→Int→Int→Int→Int→Int→Int→Int→Int→List zD→Option qXs
def GM (k:Nat)(rec:qMr):qMr:=fun cQ cM af ah aj ag aw aD aE aG aJ aK aL cC cD bD aW cm cn cp r2=>
 cond (decide (cM<cQ)) (cond (zB cM r2.length) ((L8 k k cQ cM (r2.length:Int) 0 af ah aj ag aw aD aE aG aJ aK aL cC cD bD aW cm cn cp r2 (r2.getD cM.toNat apa).1 (r2.getD cM.toNat apa).2.1 (r2.getD cM.toNat apa).2.2.1 (r2.getD cM.toNat apa).2.2.2.1 (r2.getD cM.toNat apa).2.2.2.2.1 (r2.getD cM.toNat apa).2.2.2.2.2.1 (r2.getD cM.toNat apa).2.2.2.2.2.2).bind fun z=>match z with
   |.inl z1=>rec z1.1 (zA (z1.2.1+1)) z1.2.2.1 z1.2.2.2.1 z1.2.2.2.2.1 z1.2.2.2.2.2.1 z1.2.2.2.2.2.2.1 z1.2.2.2.2.2.2.2.1 z1.2.2.2.2.2.2.2.2.1 z1.2.2.2.2.2.2.2.2.2.1 z1.2.2.2.2.2.2.2.2.2.2.1 z1.2.2.2.2.2.2.2.2.2.2.2.1 z1.2.2.2.2.2.2.2.2.2.2.2.2.1 z1.2.2.2.2.2.2.2.2.2.2.2.2.2.1 z1.2.2.2.2.2.2.2.2.2.2.2.2.2.2.1 z1.2.2.2.2.2.2.2.2.2.2.2.2.2.2.2.1 z1.2.2.2.2.2.2.2.2.2.2.2.2.2.2.2.2.1 z1.2.2.2.2.2.2.2.2.2.2.2.2.2.2.2.2.2.1 z1.2.2.2.2.2.2.2.2.2.2.2.2.2.2.2.2.2.2.1 z1.2.2.2.2.2.2.2.2.2.2.2.2.2.2.2.2.2.2.2.1 z1.2.2.2.2.2.2.2.2.2.2.2.2.2.2.2.2.2.2.2.2
   |.inr z2=>some (.inr (z2.1,z2.2.1,z2.2.2.1,z2.2.2.2.1,z2.2.2.2.2.1,z2.2.2.2.2.2.1,z2.2.2.2.2.2.2.1,z2.2.2.2.2.2.2.2.1,z2.2.2.2.2.2.2.2.2.1,z2.2.2.2.2.2.2.2.2.2.1,z2.2.2.2.2.2.2.2.2.2.2.1,z2.2.2.2.2.2.2.2.2.2.2.2.1,z2.2.2.2.2.2.2.2.2.2.2.2.2.1,z2.2.2.2.2.2.2.2.2.2.2.2.2.2.1,z2.2.2.2.2.2.2.2.2.2.2.2.2.2.2.1,z2.2.2.2.2.2.2.2.2.2.2.2.2.2.2.2.1,z2.2.2.2.2.2.2.2.2.2.2.2.2.2.2.2.2.1,z2.2.2.2.2.2.2.2.2.2.2.2.2.2.2.2.2.2.1,z2.2.2.2.2.2.2.2.2.2.2.2.2.2.2.2.2.2.2))) none)<|some (.inl (aw,aD,aE,aG,aJ,aK,aL,cC,cD,bD,aW,cm,cn,cp))
def Ma (k:Nat):Nat→qMr
 |0,_,_,_,_,_,_,_,_,_,_,_,_,_,_,_,_,_,_,_,_,_=>none
 |n+1,cQ,cM,af,ah,aj,ag,aw,aD,aE,aG,aJ,aK,aL,cC,cD,bD,aW,cm,cn,cp,r2=>GM k (Ma k n) cQ cM af ah aj ag aw aD aE aG aJ aK aL cC cD bD aW cm cn cp r2
def Q3 (k:Nat)(au:List zK)(az:EQ)(ay:AC)(ax:EQ)(a1:List zD)(a2:Int):Option (Int×Int×Int×Int×Int×Int×Int×Int×Int×Int×Int×Int×Int×Int×(List zK)×EQ×AC×EQ×Bool):=
 (LM k a1 a2).bind fun x0=>(Ma k k (x0.length:Int) 0 au az ay ax 0 0 0 0 0 0 0 0 0 0 0 0 0 0 x0).bind fun z3=>match z3 with
 |.inl z4=>some (0,0,0,0,0,0,0,0,0,0,0,0,0,0,[],[],[],[],false)
 |.inr z5=>some (yBm z5 z5.1)
abbrev qN3:Type:=Int×(List zD)×(List zK)×EQ×AC×EQ×(List zD)
abbrev qQ6:Type:=Int→List zD→Int→Int→List zK→EQ→AC→EQ→List zD→List zD→Option qN3
def yd (k:Nat)(rec:qQ6):qQ6:=fun s2 s7 DB tG af ah aj ag r1 r2=>
 cond (decide (tG<DB)) (cond (zB tG r2.length) ((qs k s7 (r2.getD tG.toNat apa).1).bind fun x1=>cond (zO (r1.length+1) 56) (let y0:List zD:=(r1++[(r2.getD tG.toNat apa)])
    rec s2 x1.1 DB (zA (tG+1)) af ah aj ag y0 r2) none) none)<|some (s2,s7,af,ah,aj,ag,r1)
def yc (k:Nat):Nat→qQ6
 |0,_,_,_,_,_,_,_,_,_,_=>none
 |n+1,s2,s7,DB,tG,af,ah,aj,ag,r1,r2=>yd k (yc k n) s2 s7 DB tG af ah aj ag r1 r2
def GN (k:Nat)(rec:qQ7):qQ7:=fun s2 s7 af ah aj ag r1=>
 (Q3 k af ah aj ag s7 s2).bind fun x0=>cond (!x0.2.2.2.2.2.2.2.2.2.2.2.2.2.2.2.2.2.2) (some (s7,af,ah,aj,ag,r1))<|(yc k k s2 s7 2 0 x0.2.2.2.2.2.2.2.2.2.2.2.2.2.2.1 x0.2.2.2.2.2.2.2.2.2.2.2.2.2.2.2.1 x0.2.2.2.2.2.2.2.2.2.2.2.2.2.2.2.2.1 x0.2.2.2.2.2.2.2.2.2.2.2.2.2.2.2.2.2.1 r1 [(vS x0),(yC3 x0)]).bind fun z=>rec z.1 z.2.1 z.2.2.1 z.2.2.2.1 z.2.2.2.2.1 z.2.2.2.2.2.1 z.2.2.2.2.2.2
def Mb (k:Nat):Nat→qQ7
 |0,_,_,_,_,_,_,_=>none
 |n+1,s2,s7,af,ah,aj,ag,r1=>GN k (Mb k n) s2 s7 af ah aj ag r1
def Q4 (k:Nat)(au:List zK)(az:EQ)(ay:AC)(ax:EQ)(a1:List zD)(a2:Int):Option tC:=
 (Mb k k a2 a1 au az ay ax []).bind fun z1=>some (iI z1 (z1.1,z1.2.2.2.2.2))
def Rb (k:Nat)(rec:qQ7):qQ7:=fun s2 s7 af ah aj ag r1=>
 (Q1 k af ah aj ag s7 s2).bind fun x0=>(Q4 k x0.1 x0.2.1 x0.2.2.1 x0.2.2.2.1 x0.2.2.2.2.1 s2).bind fun x1=>cond (zO (r1.length+x0.2.2.2.2.2.length) 56) (cond (zO ((r1++x0.2.2.2.2.2).length+x1.2.2.2.2.2.length) 56) (let y0:List zD:=((r1++x0.2.2.2.2.2)++x1.2.2.2.2.2)
   cond (decide ((x1.2.2.2.2.2.length:Int)=0)) (some (x1.2.2.2.2.1,(vW x1 y0)))<|rec s2 x1.2.2.2.2.1 x1.1 x1.2.1 x1.2.2.1 x1.2.2.2.1 y0) none) none
def Mm (k:Nat):Nat→qQ7
 |0,_,_,_,_,_,_,_=>none
 |n+1,s2,s7,af,ah,aj,ag,r1=>Rb k (Mm k n) s2 s7 af ah aj ag r1
def Mn (k:Nat)(au:List zK)(az:EQ)(ay:AC)(ax:EQ)(a1:List zD)(a2:Int):Option tC:=
 (Mm k k a2 a1 au az ay ax []).bind fun z=>some (iI z (z.1,z.2.2.2.2.2))
def Z9 (k:Nat)(a0:AC):Option AC:=
 cond (zO (0+a0.length) 8) (some a0) none
def yDd (k:Nat)(cf bj bB cw bM ca bO:Int)(a1:AC):Option (Bool×AC):=
 cond (decide (bj<0)) (some (false,a1))<|cond (decide (bj≥a1.length)) (some (false,a1))<|cond (zB bj a1.length) (cond (decide ((a1.getD bj.toNat 0)<1)) (some (false,a1))<|cond (zB bj a1.length) (cond (zB bj a1.length) (some (true,(a1.set bj.toNat (zA ((a1.getD bj.toNat 0)-1))))) none) none) none
abbrev qS7:Type:=AC×(List zD)
abbrev qO0:Type:=List zD→Int→Int→AC→List zD→Option qS7
def GR (k:Nat)(rec:qO0):qO0:=fun s8 s9 av r1 r2=>
 cond (decide (av<s9)) (cond (zB av s8.length) ((yDd k (s8.getD av.toNat apa).1 (s8.getD av.toNat apa).2.1 (s8.getD av.toNat apa).2.2.1 (s8.getD av.toNat apa).2.2.2.1 (s8.getD av.toNat apa).2.2.2.2.1 (s8.getD av.toNat apa).2.2.2.2.2.1 (s8.getD av.toNat apa).2.2.2.2.2.2 r1).bind fun x0=>cond x0.1 (cond (zO (r2.length+1) 56) (let y0:List zD:=(r2++[(s8.getD av.toNat apa)])
     rec s8 s9 (zA (av+1)) x0.2 y0) none)<|rec s8 s9 (zA (av+1)) x0.2 r2) none)<|some (r1,r2)
def GQ (k:Nat):Nat→qO0
 |0,_,_,_,_,_=>none
 |n+1,s8,s9,av,r1,r2=>GR k (GQ k n) s8 s9 av r1 r2
def qLx (k:Nat)(a0:List zD)(cX:AC):Option ((List zD)×AC):=
 (GQ k k a0 (a0.length:Int) 0 cX []).bind fun z=>some (z.2,z.1)
def GP (k:Nat)(a0:List zD)(a1:AC):Option (List zD):=
 (Z9 k a1).bind fun x0=>(qLx k a0 x0).bind fun x1=>some x1.1
abbrev qSc:Type:=Int×(List zK)×EQ×AC×EQ×AC×(List zD)
abbrev yE4:Type:=Int→Int→Int→List zK→EQ→AC→EQ→AC→List zD→Option qSc
def GU (k:Nat)(rec:yE4):yE4:=fun s7 gb cQ af ah aj ag r1 r2=>
 cond (decide (cQ<gb)) ((Mi k r2 cQ).bind fun x1=>cond (zO (r1.length+1) 8) (rec s7 gb (zA (cQ+1)) af ah aj ag (r1++[(x1.length:Int)]) r2) none)<|some (s7,af,ah,aj,ag,r1,r2)
def Cf (k:Nat):Nat→yE4
 |0,_,_,_,_,_,_,_,_,_=>none
 |n+1,s7,gb,cQ,af,ah,aj,ag,r1,r2=>GU k (Cf k n) s7 gb cQ af ah aj ag r1 r2
abbrev qVz:Type:=Int→Int→Int→List zK→EQ→AC→EQ→AC→List zD→AC→Option qSc
def GW (k:Nat)(rec:qVz):qVz:=fun s7 T0 oM af ah aj ag r1 r2 r3=>
 cond (decide (oM<T0)) (cond (zB oM r3.length) (cond (zB (r3.getD oM.toNat 0) r1.length) (cond (zB (r3.getD oM.toNat 0) r1.length) (let y0:AC:=(r1.set (r3.getD oM.toNat 0).toNat (zA ((r1.getD (r3.getD oM.toNat 0).toNat 0)-1)))
     rec s7 T0 (zA (oM+1)) af ah aj ag y0 r2 r3) none) none) none)<|some (s7,af,ah,aj,ag,r1,r2)
def GV (k:Nat):Nat→qVz
 |0,_,_,_,_,_,_,_,_,_,_=>none
 |n+1,s7,T0,oM,af,ah,aj,ag,r1,r2,r3=>GW k (GV k n) s7 T0 oM af ah aj ag r1 r2 r3
abbrev qOa:Type:=Int→List zK→EQ→AC→EQ→AC→List zD→Option (Int×AC)
def GX (k:Nat)(rec:qOa):qOa:=fun s7 af ah aj ag r1 r2=>
 (GP k r2 r1).bind fun x2=>(B4 k af ah aj ag x2).bind fun x3=>cond (decide ((x3.length:Int)=0)) (some ((zA (s7+1)),r1))<|(GV k k (zA (s7+1)) (x3.length:Int) 0 af ah aj ag r1 r2 x3).bind fun z1=>rec z1.1 z1.2.1 z1.2.2.1 z1.2.2.2.1 z1.2.2.2.2.1 z1.2.2.2.2.2.1 z1.2.2.2.2.2.2
def Mk (k:Nat):Nat→qOa
 |0,_,_,_,_,_,_,_=>none
 |n+1,s7,af,ah,aj,ag,r1,r2=>GX k (Mk k n) s7 af ah aj ag r1 r2
def Q8 (k:Nat)(au:List zK)(az:EQ)(ay:AC)(ax:EQ)(a1:List zD)(a2:Int):Option (AC×Int):=
 (F2 k a1 a2).bind fun x0=>(Cf k k 0 (au.length:Int) 0 au az ay ax [] x0).bind fun z=>(Mk k k z.1 z.2.1 z.2.2.1 z.2.2.2.1 z.2.2.2.2.1 z.2.2.2.2.2.1 z.2.2.2.2.2.2).bind fun z2=>some (z2.2,z2.1)
abbrev qSr:Type:=List zD→Int→Int→List zK→EQ→AC→EQ→List zD→Option qWt
def GY (k:Nat)(rec:qSr):qSr:=fun s7 lV gM af ah aj ag r1=>
 cond (decide (gM<lV)) (cond (zB gM r1.length) ((qs k s7 (r1.getD gM.toNat apa).1).bind fun x4=>rec x4.1 lV (zA (gM+1)) af ah aj ag r1) none)<|some (s7,af,ah,aj,ag,r1)
def Cg (k:Nat):Nat→qSr
 |0,_,_,_,_,_,_,_,_=>none
 |n+1,s7,lV,gM,af,ah,aj,ag,r1=>GY k (Cg k n) s7 lV gM af ah aj ag r1
def Ch (k:Nat)(au:List zK)(az:EQ)(ay:AC)(ax:EQ)(a1:List zD)(a2:Int):Option tC:=
 (Q8 k au az ay ax a1 a2).bind fun x0=>(F2 k a1 a2).bind fun x1=>(GP k x1 x0.1).bind fun x2=>(qp k au az ay ax x2).bind fun x3=>cond (!(decide (x3.2.2.2.2=0))) (some (au,az,ay,ax,a1,[]))<|(Cg k k a1 (x2.length:Int) 0 x3.1 x3.2.1 x3.2.2.1 x3.2.2.2.1 x2).bind fun z=>some (iI z (z.1,z.2.2.2.2.2))
def yh (k:Nat)(au:List zK)(az:EQ)(ay:AC)(ax:EQ)(a1:List zD)(a2:Int)(a3:Bool):Option tC:=
 (Mn k au az ay ax a1 a2).bind fun x0=>cond (!a3) (some (x0.1,x0.2.1,x0.2.2.1,x0.2.2.2.1,x0.2.2.2.2.1,x0.2.2.2.2.2))<|(Ch k x0.1 x0.2.1 x0.2.2.1 x0.2.2.2.1 x0.2.2.2.2.1 a2).bind fun x1=>cond (decide ((x1.2.2.2.2.2.length:Int)=0)) (some (fL x1 x0.2.2.2.2.2))<|(Mn k x1.1 x1.2.1 x1.2.2.1 x1.2.2.2.1 x1.2.2.2.2.1 a2).bind fun x2=>cond (zO (x0.2.2.2.2.2.length+x1.2.2.2.2.2.length) 56) (cond (zO ((x0.2.2.2.2.2++x1.2.2.2.2.2).length+x2.2.2.2.2.2.length) 56) (let y0:List zD:=((x0.2.2.2.2.2++x1.2.2.2.2.2)++x2.2.2.2.2.2)
   some (fL x2 y0)) none) none
abbrev yBu:Type:=(List zD)×Int×Int×(List qU)
abbrev yDt:Type:=List zD→Int→Int→Int→Int→List qU→Int→Int→Int→Int→Int→Int→Int→AC→Option yBu
def yk (k:Nat)(rec:yDt):yDt:=fun s8 s9 av cQ cM r0 aw aD aE aG aJ aK aL r2=>
 cond (decide (cM<cQ)) (cond (zB cM r2.length) ((re k (r2.getD cM.toNat 0) 18 [aw,aD,aE,aG]).bind fun x0=>cond (zO (r0.length+1) 64) (rec s8 s9 av cQ (zA (cM+1)) (r0++[x0]) aw aD aE aG aJ aK aL r2) none) none)<|some (s8,s9,av,r0)
def yj (k:Nat):Nat→yDt
 |0,_,_,_,_,_,_,_,_,_,_,_,_,_,_=>none
 |n+1,s8,s9,av,cQ,cM,r0,aw,aD,aE,aG,aJ,aK,aL,r2=>yk k (yj k n) s8 s9 av cQ cM r0 aw aD aE aG aJ aK aL r2
abbrev qWn:Type:=List qU
abbrev qOs:Type:=List zD→Int→Int→List qU→Option qWn
def G1 (k:Nat)(rec:qOs):qOs:=fun s8 s9 av r0=>
 cond (decide (av<s9)) (cond (zB av s8.length) ((yj k k s8 s9 av 2 0 r0 (s8.getD av.toNat apa).1 (s8.getD av.toNat apa).2.1 (s8.getD av.toNat apa).2.2.1 (s8.getD av.toNat apa).2.2.2.1 (s8.getD av.toNat apa).2.2.2.2.1 (s8.getD av.toNat apa).2.2.2.2.2.1 (s8.getD av.toNat apa).2.2.2.2.2.2 [(s8.getD av.toNat apa).2.1,(s8.getD av.toNat apa).2.2.1]).bind fun z=>rec z.1 z.2.1 (zA (z.2.2.1+1)) z.2.2.2) none)<|some r0
def Mo (k:Nat):Nat→qOs
 |0,_,_,_,_=>none
 |n+1,s8,s9,av,r0=>G1 k (Mo k n) s8 s9 av r0
def Rc (k:Nat)(a0:List zD):Option (List qU):=
 (Mo k k a0 (a0.length:Int) 0 []).bind fun z1=>some z1
def uX (k:Nat)(mI:Int)(rz:List zK)(rA:EQ)(rC:AC)(rD:EQ)(rE:AC)(rF:EQ)(mJ:List zD)(rG:AC)(rH:Int)(rI a1:Bool):Option TQ:=
 (yh k rz rA rC rD mJ mI a1).bind fun x0=>(Rc k x0.2.2.2.2.2).bind fun x1=>some (mI,(vW x0 (rE,rF,x0.2.2.2.2.1,rG,rH,rI,x1)))
abbrev yFg:Type:=Int×(List vH)×Int×Int×Int×Int×(List zK)×EQ×AC×EQ×AC×EQ×(List zD)×AC×Int×Bool×Int×Int×Bool×(List qU)×(List zD)
abbrev qY9:Type:=List zD→Int→Int→Int→List vH→Int→Int→Int→Int→List zK→EQ→AC→EQ→AC→EQ→List zD→AC→Int→Bool→Int→Int→Bool→List qU→List zD→Option yFg
def Hb (k:Nat)(rec:qY9):qY9:=fun fM lW fO af ah aj ag ba aw aD aE aG aJ aK aL cC cD bD aW bc rO lu r3 r4=>
 cond (decide (fO<lW)) (cond (zB fO fM.length) ((qXi k (fM.getD fO.toNat apa).1 (fM.getD fO.toNat apa).2.1 (fM.getD fO.toNat apa).2.2.1 (fM.getD fO.toNat apa).2.2.2.1 (fM.getD fO.toNat apa).2.2.2.2.1 (fM.getD fO.toNat apa).2.2.2.2.2.1 (fM.getD fO.toNat apa).2.2.2.2.2.2 aw).bind fun x2=>cond x2 ((re k (fM.getD fO.toNat apa).2.1 21 [(fM.getD fO.toNat apa).1]).bind fun x3=>cond (zO (r3.length+1) 64) (rec fM lW (zA (fO+1)) af ah aj ag ba aw aD aE aG aJ aK aL cC cD bD aW bc rO lu (r3++[x3]) r4) none)<|cond (zO (r4.length+1) 56) (let y0:List zD:=(r4++[(fM.getD fO.toNat apa)])
    rec fM lW (zA (fO+1)) af ah aj ag ba aw aD aE aG aJ aK aL cC cD bD aW bc rO lu r3 y0) none) none)<|some (af,ah,aj,ag,ba,aw,aD,aE,aG,aJ,aK,aL,cC,cD,bD,aW,bc,rO,lu,r3,r4)
def Ha (k:Nat):Nat→qY9
 |0,_,_,_,_,_,_,_,_,_,_,_,_,_,_,_,_,_,_,_,_,_,_,_,_=>none
 |n+1,fM,lW,fO,af,ah,aj,ag,ba,aw,aD,aE,aG,aJ,aK,aL,cC,cD,bD,aW,bc,rO,lu,r3,r4=>Hb k (Ha k n) fM lW fO af ah aj ag ba aw aD aE aG aJ aK aL cC cD bD aW bc rO lu r3 r4
def ym (k:Nat)(di:Int)(dR:List vH)(dU dj cg jy:Int)(cE:List zK)(dD:EQ)(dE:AC)(dF:EQ)(gk:AC)(jz:EQ)(gl:List zD)(rP:AC)(j0:Int)(j3:Bool):Option TQ:=
 cond j3 (some (jy,cE,dD,dE,dF,gk,jz,gl,rP,j0,j3,[]))<|(Cm k di dR dU dj cg (zA (jy+1))).bind fun x0=>cond x0 ((Rg k (zA (jy+1)) cE dD dE dF gk jz gl rP j0 j3).bind fun x1=>some (x1.1,x1.2.1,x1.2.2.1,x1.2.2.2.1,x1.2.2.2.2.1,x1.2.2.2.2.2.1,x1.2.2.2.2.2.2.1,x1.2.2.2.2.2.2.2.1,x1.2.2.2.2.2.2.2.2.1,x1.2.2.2.2.2.2.2.2.2.1,x1.2.2.2.2.2.2.2.2.2.2.1,x1.2.2.2.2.2.2.2.2.2.2.2))<|(Ha k k gl (gl.length:Int) 0 di dR dU dj cg (zA (jy+1)) cE dD dE dF gk jz gl rP j0 j3 0 0 false [] []).bind fun z=>(Hc k z.1 z.2.1 z.2.2.1 z.2.2.2.1 z.2.2.2.2.1 z.2.2.2.2.2.1).bind fun x4=>(uX k z.2.2.2.2.2.1 z.2.2.2.2.2.2.1 z.2.2.2.2.2.2.2.1 z.2.2.2.2.2.2.2.2.1 z.2.2.2.2.2.2.2.2.2.1 z.2.2.2.2.2.2.2.2.2.2.1 z.2.2.2.2.2.2.2.2.2.2.2.1 z.2.2.2.2.2.2.2.2.2.2.2.2.2.2.2.2.2.2.2.2 z.2.2.2.2.2.2.2.2.2.2.2.2.2.1 z.2.2.2.2.2.2.2.2.2.2.2.2.2.2.1 z.2.2.2.2.2.2.2.2.2.2.2.2.2.2.2.1 x4).bind fun x5=>cond (zO (z.2.2.2.2.2.2.2.2.2.2.2.2.2.2.2.2.2.2.2.1.length+x5.2.2.2.2.2.2.2.2.2.2.2.length) 64) (let y1:List qU:=(z.2.2.2.2.2.2.2.2.2.2.2.2.2.2.2.2.2.2.2.1++x5.2.2.2.2.2.2.2.2.2.2.2)
  some (AE x5 y1)) none
def vI2 (k:Nat)(a0:lT)(a1:Oi):Option (Int×jO):=
 (vF k a1.2.1 0 (zA (a0.1-1))).bind fun x0=>cond (!x0) (some (1,(vO a0 [])))<|(vF k a1.2.2.2.1 1 3).bind fun x1=>cond (!x1) (some (1,(vO a0 [])))<|(Hd k (yC a0) a0.2.2.2.2.2.1 (a1.1,a0.2.2.2.2.2.2.2.2.2.2.2.2.2.2.2.2,a1.2)).bind fun x2=>cond (!(decide (x2=0))) (some (x2,(vO a0 [])))<|(Gu k a0.2.2.2.2.2.2.2.2.2.2.2.2.2.1 a1.1).bind fun x3=>cond (!(decide (x3.2=0))) (some (x3.2,(vO a0 [])))<|(xY k a0.2.2.2.2.2.2.2.2.2.2.2.2.1 (a1.1,a0.2.2.2.2.2.2.2.2.2.2.2.2.2.2.2.2,a1.2)).bind fun x4=>cond (!(decide (x4.2=0))) (some (x4.2,(vO a0 [])))<|some (0,(kx a0 (x4.1,x3.1,a0.2.2.2.2.2.2.2.2.2.2.2.2.2.2.1,a0.2.2.2.2.2.2.2.2.2.2.2.2.2.2.2.1,a0.2.2.2.2.2.2.2.2.2.2.2.2.2.2.2.2,[])))
def Tg (k:Nat)(a0:lT)(a1:zD):Option (Int×jO):=
 (qN4 k (vO a0 []) a1.2.1).bind fun x0=>cond (!(decide (x0.2=0))) (some (x0.2,(vO a0 [])))<|cond (decide (a1.1=2)) ((qs k a0.2.2.2.2.2.2.2.2.2.2.2.2.1 a1.2.1).bind fun x1=>(R1 k (kx a0 (x1.1,a0.2.2.2.2.2.2.2.2.2.2.2.2.2)) 20 [a1.2.1]).bind fun x2=>some (x1.2.2.2.2.2.2.2.2,x2))<|cond (decide (a1.1=4)) ((vF k a1.2.2.1 1 3).bind fun x3=>cond (!x3) (some (1,(vO a0 [])))<|(Cn k (yC a0) a0.2.2.2.2.2.1 a1.2.2.1).bind fun x4=>cond (!(decide (x4=0))) (some (x4,(vO a0 [])))<|(Gp k a0.2.2.2.2.2.2.2.2.2.2.2.2.1 a1.2.1 a1.2.2.1).bind fun x5=>some (x5.2,(kx a0 (x5.1,(qPm a0 [])))))<|cond (decide (a1.2.2.1=0)) ((Gs k a0.2.2.2.2.2.2.2.2.2.2.2.2.1 a1.2.1).bind fun x6=>some (x6.2,(kx a0 (x6.1,(qPm a0 [])))))<|cond (decide (a1.2.2.1=1)) ((Gq k a0.2.2.2.2.2.2.2.2.2.2.2.2.1 a1.2.1).bind fun x7=>some (x7.2,(kx a0 (x7.1,(qPm a0 [])))))<|some (1,(vO a0 []))
def Th (k:Nat)(a0:lT)(a1:zD):Option (Int×jO):=
 (gC k a0.2.2.2.2.2.2.1 a0.2.2.2.2.2.2.2.1 a0.2.2.2.2.2.2.2.2.1 a0.2.2.2.2.2.2.2.2.2.1).bind fun x0=>cond (decide (a1.1=5)) ((qPk k (vO a0 []) a1.2.1).bind fun x1=>cond (!x1) (some (1,(vO a0 [])))<|(vF k a1.2.2.1 (-1) 1152921504606846976).bind fun x2=>cond (!x2) (some (1,(vO a0 [])))<|cond (zB a0.2.2.2.2.2.2.2.2.2.2.2.2.2.2.2.2 x0.2.1.length) (cond (zB a1.2.1 (x0.2.1.getD a0.2.2.2.2.2.2.2.2.2.2.2.2.2.2.2.2.toNat []).length) (let y0:EQ:=(x0.2.1.set a0.2.2.2.2.2.2.2.2.2.2.2.2.2.2.2.2.toNat ((x0.2.1.getD a0.2.2.2.2.2.2.2.2.2.2.2.2.2.2.2.2.toNat []).set a1.2.1.toNat a1.2.2.1))
    some (0,(jD a0 (x0.1,y0,x0.2.2.1,x0.2.2.2,(qYr a0 []))))) none) none)<|cond (decide (a1.1=6)) ((vF k a1.2.1 (-1) 1152921504606846976).bind fun x3=>cond (!x3) (some (1,(vO a0 [])))<|cond (zB a0.2.2.2.2.2.2.2.2.2.2.2.2.2.2.2.2 x0.2.2.1.length) (let y1:AC:=(x0.2.2.1.set a0.2.2.2.2.2.2.2.2.2.2.2.2.2.2.2.2.toNat a1.2.1)
   some (0,(jD a0 (x0.1,x0.2.1,y1,x0.2.2.2,(qYr a0 []))))) none)<|(vF k a1.2.1 0 1152921504606846976).bind fun x4=>cond (!x4) (some (1,(vO a0 [])))<|cond (zB a0.2.2.2.2.2.2.2.2.2.2.2.2.2.2.2.2 x0.1.length) (let y2:List zK:=(x0.1.set a0.2.2.2.2.2.2.2.2.2.2.2.2.2.2.2.2.toNat ((x0.1.getD a0.2.2.2.2.2.2.2.2.2.2.2.2.2.2.2.2.toNat aoa).1,(x0.1.getD a0.2.2.2.2.2.2.2.2.2.2.2.2.2.2.2.2.toNat aoa).2.1,a1.2.1))
  some (0,(jD a0 (y2,x0.2.1,x0.2.2.1,x0.2.2.2,(qYr a0 []))))) none
def yNu (k:Nat)(a0:lT)(a1 a2:Int):Option (Int×jO):=
 (N0 k (vO a0 []) a1).bind fun x0=>cond (!x0) (some (1,(vO a0 [])))<|(vF k a2 0 1099511627776).bind fun x1=>cond (!x1) (some (1,(vO a0 [])))<|(Hf k a0.2.2.2.2.2.2.2.2.2.2.2.1).bind fun x2=>cond (zB a0.2.2.2.2.2.2.2.2.2.2.2.2.2.2.2.2 x2.length) ((qy k (x2.getD a0.2.2.2.2.2.2.2.2.2.2.2.2.2.2.2.2.toNat []) a1 a2).bind fun x3=>cond (zB a0.2.2.2.2.2.2.2.2.2.2.2.2.2.2.2.2 x2.length) (let y0:EQ:=(x2.set a0.2.2.2.2.2.2.2.2.2.2.2.2.2.2.2.2.toNat x3)
   cond (zB a0.2.2.2.2.2.2.2.2.2.2.2.2.2.2.2.2 y0.length) ((nk k a0.2.1 a0.2.2.2.2.2.2.2.2.2.2.1 (y0.getD a0.2.2.2.2.2.2.2.2.2.2.2.2.2.2.2.2.toNat [])).bind fun x4=>cond (zB a0.2.2.2.2.2.2.2.2.2.2.2.2.2.2.2.2 a0.2.2.2.2.2.2.1.length) (cond (!x4.2) (some (8,(vO a0 [])))<|cond (decide (x4.1>1152921504606846976)) (some (8,(vO a0 [])))<|cond (decide (x4.1<(a0.2.2.2.2.2.2.1.getD a0.2.2.2.2.2.2.2.2.2.2.2.2.2.2.2.2.toNat aoa).2.1)) (cond (decide ((zA ((a0.2.2.2.2.2.2.1.getD a0.2.2.2.2.2.2.2.2.2.2.2.2.2.2.2.2.toNat aoa).1+x4.1))<0)) (some (9,(vO a0 [])))<|(gC k a0.2.2.2.2.2.2.1 a0.2.2.2.2.2.2.2.1 a0.2.2.2.2.2.2.2.2.1 a0.2.2.2.2.2.2.2.2.2.1).bind fun x5=>cond (zB a0.2.2.2.2.2.2.2.2.2.2.2.2.2.2.2.2 x5.1.length) (let y1:List zK:=(x5.1.set a0.2.2.2.2.2.2.2.2.2.2.2.2.2.2.2.2.toNat ((x5.1.getD a0.2.2.2.2.2.2.2.2.2.2.2.2.2.2.2.2.toNat aoa).1,x4.1,(x5.1.getD a0.2.2.2.2.2.2.2.2.2.2.2.2.2.2.2.2.toNat aoa).2.2))
       some (0,(jD a0 (y1,x5.2.1,x5.2.2.1,x5.2.2.2,a0.2.2.2.2.2.2.2.2.2.2.1,y0,(yS6 a0 []))))) none)<|(gC k a0.2.2.2.2.2.2.1 a0.2.2.2.2.2.2.2.1 a0.2.2.2.2.2.2.2.2.1 a0.2.2.2.2.2.2.2.2.2.1).bind fun x6=>cond (zB a0.2.2.2.2.2.2.2.2.2.2.2.2.2.2.2.2 x6.1.length) (let y2:List zK:=(x6.1.set a0.2.2.2.2.2.2.2.2.2.2.2.2.2.2.2.2.toNat ((x6.1.getD a0.2.2.2.2.2.2.2.2.2.2.2.2.2.2.2.2.toNat aoa).1,x4.1,(x6.1.getD a0.2.2.2.2.2.2.2.2.2.2.2.2.2.2.2.2.toNat aoa).2.2))
      some (0,(jD a0 (y2,x6.2.1,x6.2.2.1,x6.2.2.2,a0.2.2.2.2.2.2.2.2.2.2.1,y0,(yS6 a0 []))))) none) none) none) none) none
def HD (k:Nat)(a0:lT)(a1 a2 a3:Int):Option (Int×jO):=
 (vF k a2 0 (zA (a0.1-1))).bind fun x0=>cond (!x0) (some (1,(vO a0 [])))<|(vF k a3 1 1099511627776).bind fun x1=>cond (!x1) (some (1,(vO a0 [])))<|cond (zB a2 a0.2.2.2.2.2.2.1.length) ((HE k (a0.2.2.2.2.2.2.1.getD a2.toNat aoa) a3).bind fun x2=>cond (decide (a1=11)) ((HF k (a0.2.2.2.2.2.2.1.getD a2.toNat aoa) a3 3).bind fun x3=>(HG k (a0.2.2.2.2.2.2.1.getD a2.toNat aoa) 3).bind fun x4=>cond (decide (x4<a3)) (some (9,(vO a0 [])))<|cond (decide ((zA (a0.2.2.2.2.2.2.2.2.2.2.2.2.2.2.1-a3))<0)) (some (9,(vO a0 [])))<|cond (!(decide (x3.2=0))) (some (x3.2,(vO a0 [])))<|cond (decide ((zA (a0.2.2.2.2.2.2.2.2.2.2.2.2.2.2.1-a3))>1152921504606846976)) (some (8,(vO a0 [])))<|(gC k a0.2.2.2.2.2.2.1 a0.2.2.2.2.2.2.2.1 a0.2.2.2.2.2.2.2.2.1 a0.2.2.2.2.2.2.2.2.2.1).bind fun x5=>cond (zB a2 x5.1.length) (some (0,(jD a0 ((x5.1.set a2.toNat x3.1),x5.2.1,x5.2.2.1,x5.2.2.2,(Jk a0 ((zA (a0.2.2.2.2.2.2.2.2.2.2.2.2.2.2.1-a3)),a0.2.2.2.2.2.2.2.2.2.2.2.2.2.2.2.1,a0.2.2.2.2.2.2.2.2.2.2.2.2.2.2.2.2,[])))))) none)<|cond (!(decide (x2.2=0))) (some (x2.2,(vO a0 [])))<|cond (decide ((zA (a0.2.2.2.2.2.2.2.2.2.2.2.2.2.2.1+a3))>1152921504606846976)) (some (8,(vO a0 [])))<|(gC k a0.2.2.2.2.2.2.1 a0.2.2.2.2.2.2.2.1 a0.2.2.2.2.2.2.2.2.1 a0.2.2.2.2.2.2.2.2.2.1).bind fun x6=>cond (zB a2 x6.1.length) (some (0,(jD a0 ((x6.1.set a2.toNat x2.1),x6.2.1,x6.2.2.1,x6.2.2.2,(Jk a0 ((zA (a0.2.2.2.2.2.2.2.2.2.2.2.2.2.2.1+a3)),a0.2.2.2.2.2.2.2.2.2.2.2.2.2.2.2.1,a0.2.2.2.2.2.2.2.2.2.2.2.2.2.2.2.2,[])))))) none) none
abbrev qZ9:Type:=(lT×AC×(List zK)×EQ×AC×EQ)⊕(Int×lT)
abbrev yDa:Type:=EQ→Int→Int→lT→AC→List zK→EQ→AC→EQ→Option qZ9
def HI (k:Nat)(rec:yDa):yDa:=fun gM jo lr b0 r1 r3 m4 r5 m6=>
 cond (decide (lr<jo)) (cond (zB lr gM.length) ((nk k b0.2.1 r1 (gM.getD lr.toNat [])).bind fun x4=>cond (!x4.2) (some (.inr (8,b0)))<|cond (decide (x4.1>1152921504606846976)) (some (.inr (8,b0)))<|cond (zB lr r3.length) (let y0:List zK:=(r3.set lr.toNat ((r3.getD lr.toNat aoa).1,x4.1,(r3.getD lr.toNat aoa).2.2))
    rec gM jo (zA (lr+1)) b0 r1 y0 m4 r5 m6) none) none)<|some (.inl (b0,r1,r3,m4,r5,m6))
def vm (k:Nat):Nat→yDa:=qZ (fun _ _ _ _ _ _ _ _ _=>none) (HI k)
def RF (k:Nat)(a0:lT)(a1 a2:Int):Option (Int×jO):=
 (N0 k (vO a0 []) a1).bind fun x0=>cond (!x0) (some (1,(vO a0 [])))<|(vF k a2 0 1048576).bind fun x1=>cond (!x1) (some (1,(vO a0 [])))<|(qy k a0.2.2.2.2.2.2.2.2.2.2.1 a1 a2).bind fun x2=>(gC k a0.2.2.2.2.2.2.1 a0.2.2.2.2.2.2.2.1 a0.2.2.2.2.2.2.2.2.1 a0.2.2.2.2.2.2.2.2.2.1).bind fun x3=>(vm k k a0.2.2.2.2.2.2.2.2.2.2.2.1 (a0.2.2.2.2.2.2.2.2.2.2.2.1.length:Int) 0 a0 x2 x3.1 x3.2.1 x3.2.2.1 x3.2.2.2).bind fun z=>match z with
 |.inl z1=>some (0,(jD z1.1 (Cz z1 (z1.2.1,(qQi z1.1 [])))))
 |.inr z2=>some (jT z2 [])
def H8 (k:Nat)(a0:lT)(a1:zD):Option (Int×jO):=
 cond (decide (a1.1=1)) ((vI2 k a0 a1.2).bind fun x0=>some (x0.1,x0.2))<|cond (decide (a1.1=2)) ((Tg k a0 a1).bind fun x1=>some (x1.1,x1.2))<|cond (decide (a1.1=3)) ((Tg k a0 a1).bind fun x2=>some (x2.1,x2.2))<|cond (decide (a1.1=4)) ((Tg k a0 a1).bind fun x3=>some (x3.1,x3.2))<|cond (decide (a1.1=5)) ((Th k a0 a1).bind fun x4=>some (x4.1,x4.2))<|cond (decide (a1.1=6)) ((Th k a0 a1).bind fun x5=>some (x5.1,x5.2))<|cond (decide (a1.1=7)) ((Th k a0 a1).bind fun x6=>some (x6.1,x6.2))<|cond (decide (a1.1=8)) ((yNu k a0 a1.2.1 a1.2.2.1).bind fun x7=>some (x7.1,x7.2))<|cond (decide (a1.1=10)) ((HD k a0 a1.1 a1.2.1 a1.2.2.1).bind fun x8=>some (x8.1,x8.2))<|cond (decide (a1.1=11)) ((HD k a0 a1.1 a1.2.1 a1.2.2.1).bind fun x9=>some (x9.1,x9.2))<|cond (decide (a1.1=12)) ((RF k a0 a1.2.1 a1.2.2.1).bind fun bT=>some (bT.1,bT.2))<|some (0,(vO a0 []))
def M7 (k:Nat)(a0:yD)(a1:qY)(a2:qU):Option (qY×(List qU)×Int):=
 (yp k a0 a1 a2).bind fun x0=>cond (!(decide (x0=0))) (some (a1,[],x0))<|cond (decide (a2.2.1=9)) ((R0 k a1 a2.1).bind fun x1=>some (a1,x1,0))<|cond (!(decide (a2.1=(-1)))) ((R1 k (vK a0 (vQ a1 a2.1)) 15 []).bind fun x2=>(RX k x2 a2.2).bind fun x3=>cond (!(decide (x3.1=0))) (some (a1,[],x3.1))<|cond (decide (a2.2.1=14)) ((ym k a0.1 a0.2.1 a0.2.2.1 a0.2.2.2.1 a0.2.2.2.2 a1.1 a1.2.1 a1.2.2.1 a1.2.2.2.1 a1.2.2.2.2.1 a1.2.2.2.2.2.1 a1.2.2.2.2.2.2.1 a1.2.2.2.2.2.2.2.1 a1.2.2.2.2.2.2.2.2.1 a1.2.2.2.2.2.2.2.2.2.1 a1.2.2.2.2.2.2.2.2.2.2).bind fun x4=>some ((qP x4),x4.2.2.2.2.2.2.2.2.2.2.2,0))<|(uX k x3.2.2.2.2.2.2.1 x3.2.2.2.2.2.2.2.1 x3.2.2.2.2.2.2.2.2.1 x3.2.2.2.2.2.2.2.2.2.1 x3.2.2.2.2.2.2.2.2.2.2.1 x3.2.2.2.2.2.2.2.2.2.2.2.1 x3.2.2.2.2.2.2.2.2.2.2.2.2.1 x3.2.2.2.2.2.2.2.2.2.2.2.2.2.1 x3.2.2.2.2.2.2.2.2.2.2.2.2.2.2.1 x3.2.2.2.2.2.2.2.2.2.2.2.2.2.2.2.1 x3.2.2.2.2.2.2.2.2.2.2.2.2.2.2.2.2.1 (decide (a2.2.1=13))).bind fun x5=>cond (zO (x3.2.2.2.2.2.2.2.2.2.2.2.2.2.2.2.2.2.2.length+x5.2.2.2.2.2.2.2.2.2.2.2.length) 64) (let y0:List qU:=(x3.2.2.2.2.2.2.2.2.2.2.2.2.2.2.2.2.2.2++x5.2.2.2.2.2.2.2.2.2.2.2)
   cond (decide (a2.2.1=1)) ((pw k x5.2.2.2.2.2.2.2.1 a2.2.2.1).bind fun x6=>cond (decide (x6≥0)) ((yo k (RZ x3 y0) 19 [a2.2.2.1]).bind fun x7=>some ((qP x5),x7.2.2.2.2.2.2.2.2.2.2.2.2.2.2.2.2.2,0))<|some ((qP x5),y0,0))<|some ((qP x5),y0,0)) none)<|(H8 k (vK a0 (vQ a1 a2.1)) a2.2).bind fun x8=>cond (!(decide (x8.1=0))) (some (a1,[],x8.1))<|cond (decide (a2.2.1=14)) ((ym k a0.1 a0.2.1 a0.2.2.1 a0.2.2.2.1 a0.2.2.2.2 a1.1 a1.2.1 a1.2.2.1 a1.2.2.2.1 a1.2.2.2.2.1 a1.2.2.2.2.2.1 a1.2.2.2.2.2.2.1 a1.2.2.2.2.2.2.2.1 a1.2.2.2.2.2.2.2.2.1 a1.2.2.2.2.2.2.2.2.2.1 a1.2.2.2.2.2.2.2.2.2.2).bind fun x9=>some ((qP x9),x9.2.2.2.2.2.2.2.2.2.2.2,0))<|(uX k x8.2.2.2.2.2.2.1 x8.2.2.2.2.2.2.2.1 x8.2.2.2.2.2.2.2.2.1 x8.2.2.2.2.2.2.2.2.2.1 x8.2.2.2.2.2.2.2.2.2.2.1 x8.2.2.2.2.2.2.2.2.2.2.2.1 x8.2.2.2.2.2.2.2.2.2.2.2.2.1 x8.2.2.2.2.2.2.2.2.2.2.2.2.2.1 x8.2.2.2.2.2.2.2.2.2.2.2.2.2.2.1 x8.2.2.2.2.2.2.2.2.2.2.2.2.2.2.2.1 x8.2.2.2.2.2.2.2.2.2.2.2.2.2.2.2.2.1 (decide (a2.2.1=13))).bind fun bT=>cond (zO (x8.2.2.2.2.2.2.2.2.2.2.2.2.2.2.2.2.2.2.length+bT.2.2.2.2.2.2.2.2.2.2.2.length) 64) (let y1:List qU:=(x8.2.2.2.2.2.2.2.2.2.2.2.2.2.2.2.2.2.2++bT.2.2.2.2.2.2.2.2.2.2.2)
  cond (decide (a2.2.1=1)) ((pw k bT.2.2.2.2.2.2.2.1 a2.2.2.1).bind fun cN=>cond (decide (cN≥0)) ((yo k (RZ x8 y1) 19 [a2.2.2.1]).bind fun gK=>some ((qP bT),gK.2.2.2.2.2.2.2.2.2.2.2.2.2.2.2.2.2,0))<|some ((qP bT),y1,0))<|some ((qP bT),y1,0)) none
def ou (k:Nat)(aC:wK)(bC:vR)(a1:AC):Option (Int×wK×vR):=
 (yr k bC (zA (1-aC.1)) (zA (aC.2.1+1)) a1).bind fun x0=>cond (decide (x0.1=0)) (some (x0.1,((zA (1-aC.1)),(zA (aC.2.1+1)),0,false),x0.2))<|some (x0.1,aC,x0.2)
def qOo (k:Nat)(a0:Int):Option Bool:=
 (vF k a0 0 1048576).bind fun x0=>some (!x0)
def Iu (k:Nat)(rec:yFc):yFc:=fun s0 s7 s8=>
 cond (decide (s8<s7)) (cond (zB s8 s0.length) ((qOo k (s0.getD s8.toNat 0)).bind fun x0=>cond x0 (some (.inr s8))<|rec s0 s7 (zA (s8+1))) none)<|some (.inl ())
def CV (k:Nat):Nat→yFc
 |0,_,_,_=>none
 |n+1,s0,s7,s8=>Iu k (CV k n) s0 s7 s8
def qRw (k:Nat)(a0:AC):Option Int:=
 (CV k k a0 (a0.length:Int) 0).bind fun z=>match z with
 |.inl z1=>some (-1)
 |.inr z2=>some z2
def Np (k:Nat)(a0:AC):Option Bool:=
 (qRw k a0).bind fun x0=>some (decide (x0≥0))
def yEj (k:Nat)(a0:Int):Option Bool:=
 some (decide (a0>1099511627776))
def Iv (k:Nat)(rec:yFc):yFc:=fun s0 s7 s8=>
 cond (decide (s8<s7)) (cond (zB s8 s0.length) ((yEj k (s0.getD s8.toNat 0)).bind fun x0=>cond x0 (some (.inr s8))<|rec s0 s7 (zA (s8+1))) none)<|some (.inl ())
def CW (k:Nat):Nat→yFc
 |0,_,_,_=>none
 |n+1,s0,s7,s8=>Iv k (CW k n) s0 s7 s8
def yEo (k:Nat)(a0:AC):Option Int:=
 (CW k k a0 (a0.length:Int) 0).bind fun z=>match z with
 |.inl z1=>some (-1)
 |.inr z2=>some z2
def R9 (k:Nat)(a0:AC):Option Bool:=
 (yEo k a0).bind fun x0=>some (decide (x0≥0))
abbrev yD9:Type:=EQ→Int→Int→yD→qY→Option (Unit⊕Bool)
def Iw (k:Nat)(rec:yD9):yD9:=fun lW fO mL b0 b1=>
 cond (decide (mL<fO)) (cond (zB mL lW.length) ((nk k b0.2.1 b1.2.2.2.2.2.1 (lW.getD mL.toNat [])).bind fun x1=>cond (!x1.2) (some (.inr false))<|cond (decide (x1.1>1152921504606846976)) (some (.inr false))<|cond (zB mL b1.2.1.length) (cond (!(decide (x1.1=(b1.2.1.getD mL.toNat aoa).2.1))) (some (.inr false))<|(R9 k (lW.getD mL.toNat [])).bind fun x2=>cond x2 (some (.inr false))<|rec lW fO (zA (mL+1)) b0 b1) none) none)<|some (.inl ())
def zv (k:Nat):Nat→yD9:=qZ (fun _ _ _ _ _=>none) (Iw k)
def Nq (k:Nat)(a0:yD)(a1:qY):Option Bool:=
 cond (!(decide ((a1.2.2.2.2.2.1.length:Int)=(a0.2.1.length:Int)))) (some false)<|cond (!(decide ((a1.2.2.2.2.2.2.1.length:Int)=a0.1))) (some false)<|(Np k a1.2.2.2.2.2.1).bind fun x0=>cond x0 (some false)<|(zv k k a1.2.2.2.2.2.2.1 (a1.2.2.2.2.2.2.1.length:Int) 0 a0 a1).bind fun z=>match z with
 |.inl z1=>some true
 |.inr z2=>some z2
abbrev yAw:Type:=List zD→Int→Option (Unit⊕Bool)
def R7 (k:Nat)(rec:yAw):yAw:=fun s0 s5=>
 cond (decide (s5>0)) (cond (zB s5 s0.length) (cond (zB (zA (s5 - 1)) s0.length) ((Gk k (s0.getD s5.toNat apa).1 (s0.getD s5.toNat apa).2.1 (s0.getD s5.toNat apa).2.2.1 (s0.getD s5.toNat apa).2.2.2.1 (s0.getD s5.toNat apa).2.2.2.2.1 (s0.getD s5.toNat apa).2.2.2.2.2.1 (s0.getD s5.toNat apa).2.2.2.2.2.2 (s0.getD (zA (s5-1)).toNat apa).1 (s0.getD (zA (s5-1)).toNat apa).2.1 (s0.getD (zA (s5-1)).toNat apa).2.2.1 (s0.getD (zA (s5-1)).toNat apa).2.2.2.1 (s0.getD (zA (s5-1)).toNat apa).2.2.2.2.1 (s0.getD (zA (s5-1)).toNat apa).2.2.2.2.2.1 (s0.getD (zA (s5-1)).toNat apa).2.2.2.2.2.2).bind fun x0=>cond (decide (x0<0)) (some (.inr false))<|rec s0 (zA (s5-1))) none) none)<|some (.inl ())
def CR (k:Nat):Nat→yAw:=qZ (fun _ _=>none) (R7 k)
def R6 (k:Nat)(a0:List zD):Option Bool:=
 (CR k k a0 (zA ((a0.length:Int)-1))).bind fun z=>match z with
 |.inl z1=>some true
 |.inr z2=>some z2
abbrev qMg:Type:=(List zD)⊕Bool
abbrev qZo:Type:=List zD→List zD→Int→Int→Option qMg
def Iq (k:Nat)(rec:qZo):qZo:=fun s0 s5 s6 s7=>
 cond (decide (s7<s6)) (cond (zB s7 s5.length) ((pw k s0 (s5.getD s7.toNat apa).1).bind fun x0=>cond (!(decide (x0=s7))) (some (.inr false))<|rec s0 s5 s6 (zA (s7+1))) none)<|some (.inl s0)
def CQ (k:Nat):Nat→qZo
 |0,_,_,_,_=>none
 |n+1,s0,s5,s6,s7=>Iq k (CQ k n) s0 s5 s6 s7
def Nl (k:Nat)(a0:List zD):Option Bool:=
 (CQ k k a0 a0 (a0.length:Int) 0).bind fun z=>match z with
 | .inl z1=>cond (decide ((z1.length : Int)≤40)) ((R6 k z1).bind fun x1=>some x1)<|some false
 |.inr z2=>some z2
abbrev qVw:Type:=AC→Int→AC→Int→Int→Option (AC⊕Bool)
def Ir (k:Nat)(rec:qVw):qVw:=fun s0 s3 s6 s7 s8=>
 cond (decide (s8<s7)) (cond (zB s8 s6.length) (cond (decide ((s6.getD s8.toNat 0)≤s3)) (some (.inr false))<|rec s0 (s6.getD s8.toNat 0) s6 s7 (zA (s8+1))) none)<|some (.inl s0)
def CT (k:Nat):Nat→qVw:=qZ (fun _ _ _ _ _=>none) (Ir k)
def Nm (k:Nat)(a0:AC):Option Bool:=
 (CT k k a0 0 a0 (a0.length:Int) 0).bind fun z=>match z with
 |.inl z1=>some (decide ((z1.length:Int)≤200))
 |.inr z2=>some z2
def QU (k:Nat)(a0:AC)(a1:Int):Option Bool:=
 (Gt k a0 a1).bind fun x0=>some x0.2
def R8 (k:Nat)(a0:zD)(a1:qY):Option Bool:=
 (Fx k a1.2.1 a1.2.2.1 a1.2.2.2.1 a1.2.2.2.2.1 a0.1 a0.2.1 a0.2.2.1 a0.2.2.2.1 a0.2.2.2.2.1 a0.2.2.2.2.2.1 a0.2.2.2.2.2.2).bind fun x0=>cond (!x0) (some true)<|cond (decide (a0.2.2.2.2.2.1<0)) (some true)<|(vF k a0.2.2.2.2.2.2 a0.2.2.2.2.2.1 1048576).bind fun x1=>cond (!x1) (some true)<|(QU k a1.2.2.2.2.2.2.2.2.1 a0.1).bind fun x2=>some (!x2)
abbrev qUu:Type:=List zD→Int→Int→Int→List zK→EQ→AC→EQ→AC→EQ→List zD→AC→Int→Bool→Option (Unit⊕Int)
def Is (k:Nat)(rec:qUu):qUu:=fun s0 s7 s8 af ah aj ag ba bp bq dV dW dX bW=>
 cond (decide (s8<s7)) (cond (zB s8 s0.length) ((R8 k (s0.getD s8.toNat apa) (af,ah,aj,ag,ba,bp,bq,dV,dW,dX,bW)).bind fun x0=>cond x0 (some (.inr s8))<|rec s0 s7 (zA (s8+1)) af ah aj ag ba bp bq dV dW dX bW) none)<|some (.inl ())
def CU (k:Nat):Nat→qUu
 |0,_,_,_,_,_,_,_,_,_,_,_,_,_,_=>none
 |n+1,s0,s7,s8,af,ah,aj,ag,ba,bp,bq,dV,dW,dX,bW=>Is k (CU k n) s0 s7 s8 af ah aj ag ba bp bq dV dW dX bW
def qSo (k:Nat)(a0:List zD)(gm:Int)(bP:List zK)(cF:EQ)(cG:AC)(cH:EQ)(dG:AC)(eI:EQ)(gn:List zD)(j4:AC)(eJ:Int)(gp:Bool):Option Int:=
 (CU k k a0 (a0.length:Int) 0 gm bP cF cG cH dG eI gn j4 eJ gp).bind fun z=>match z with
 |.inl z1=>some (-1)
 |.inr z2=>some z2
def No (k:Nat)(a0:List zD)(gm:Int)(bP:List zK)(cF:EQ)(cG:AC)(cH:EQ)(dG:AC)(eI:EQ)(gn:List zD)(j4:AC)(eJ:Int)(gp:Bool):Option Bool:=
 (qSo k a0 gm bP cF cG cH dG eI gn j4 eJ gp).bind fun x0=>some (decide (x0≥0))
def Nn (k:Nat)(a0:qY):Option Bool:=
 (Nl k a0.2.2.2.2.2.2.2.1).bind fun x0=>cond x0 ((Nm k a0.2.2.2.2.2.2.2.2.1).bind fun x1=>cond x1 ((No k a0.2.2.2.2.2.2.2.1 a0.1 a0.2.1 a0.2.2.1 a0.2.2.2.1 a0.2.2.2.2.1 a0.2.2.2.2.2.1 a0.2.2.2.2.2.2.1 a0.2.2.2.2.2.2.2.1 a0.2.2.2.2.2.2.2.2.1 a0.2.2.2.2.2.2.2.2.2.1 a0.2.2.2.2.2.2.2.2.2.2).bind fun x2=>some (!x2))<|some false)<|some false
abbrev qRc:Type:=yD×qY×AC
abbrev qZ6:Type:=List zK→Int→Int→yD→qY→AC→Option qRc
def Iz (k:Nat)(rec:qZ6):qZ6:=fun oM s45 T1 b0 b1 r2=>
 cond (decide (T1<s45)) (cond (zB T1 oM.length) (cond (zO (r2.length+1) 8) (rec oM s45 (zA (T1+1)) b0 b1 (r2++[(oM.getD T1.toNat aoa).1])) none) none)<|some (b0,b1,r2)
def Iy (k:Nat):Nat→qZ6:=qZ (fun _ _ _ _ _ _=>none) (Iz k)
def Ix (k:Nat)(a0:yD)(a1:qY):Option Bool:=
 (vF k a1.1 0 a0.2.2.2.1).bind fun x0=>cond (!x0) (some false)<|(Fp k a1.2.1 a1.2.2.1 a1.2.2.2.1 a1.2.2.2.2.1).bind fun x1=>cond (!x1) (some false)<|cond (!(decide ((a1.2.1.length:Int)=a0.1))) (some false)<|(Nq k a0 a1).bind fun x2=>cond (!x2) (some false)<|(Nn k a1).bind fun x3=>cond (!x3) (some false)<|(Iy k k a1.2.1 (a1.2.1.length:Int) 0 a0 a1 []).bind fun z=>(Gv k z.2.2).bind fun x4=>cond (!x4.2) (some false)<|cond (!(decide (x4.1=z.2.1.2.2.2.2.2.2.2.2.2.1))) (some false)<|(vF k x4.1 0 1152921504606846976).bind fun x5=>cond (!x5) (some false)<|(Cm k z.1.1 z.1.2.1 z.1.2.2.1 z.1.2.2.2.1 z.1.2.2.2.2 z.2.1.1).bind fun x6=>cond (eL z.2.1.2.2.2.2.2.2.2.2.2.2 x6) (cond (!z.2.1.2.2.2.2.2.2.2.2.2.2) (some true)<|some (decide ((z.2.1.2.2.2.2.2.2.2.1.length:Int)=0)))<|some false
abbrev qNq:Type:=Int×Bool×DA×AC×AC×yD×wK×qY
abbrev yDm:Type:=Int→Bool→EQ→Int→Int→DA→AC→AC→yD→wK→qY→Option qNq
def IU (k:Nat)(rec:yDm):yDm:=fun s2 cL T2 s73 Ol b0 r1 r2 b3 b4 b5=>
 cond (decide (Ol<s73)) (cond (zB Ol T2.length) ((Sm k (T2.getD Ol.toNat [])).bind fun x8=>cond (decide (x8.2=0)) ((M7 k b3 b5 x8.1).bind fun x9=>rec s2 cL T2 s73 (zA (Ol+1)) b0 r1 r2 b3 b4 x9.1)<|rec s2 cL T2 s73 (zA (Ol+1)) b0 r1 r2 b3 b4 b5) none)<|some (s2,cL,b0,r1,r2,b3,b4,b5)
def tu (k:Nat):Nat→yDm:=qZ (fun _ _ _ _ _ _ _ _ _ _ _=>none) (IU k)
def fq (k:Nat)(a0:yD)(a1:vR)(a2:Int):Option ((Int×vR×kz×wK)⊕(Int×vR)):=
 (NG k a0).bind fun x0=>cond (!x0) (some (.inr (1,a1)))<|cond (decide (a2<1)) (some (.inr (1,a1)))<|cond (decide (a2>1000)) (some (.inr (1,a1)))<|(Nw k a1).bind fun x1=>(zk k a0).bind fun x2=>(ni k x2).bind fun x3=>(yEb k a1 x3).bind fun x4=>match x4 with
 |.inl x5=>cond (!(decide (x5.2.2.1=0))) (some (.inr (x5.2.2.1,x5.2.2.2.1)))<|(IS k x5.1).bind fun x6=>cond (!x6.2) ((zk k a0).bind fun x7=>(tu k k a2 x1.2.2.2.2 x5.2.1 (x5.2.1.length:Int) 0 (x5.2.2.2.1.1,x5.2.2.2.1.2.2.1,x5.2.2.2.1.2.2.2.2) x5.2.2.2.1.2.1 x5.2.2.2.1.2.2.2.1 a0 x5.2.2.2.2 x7).bind fun z=>cond z.2.1 ((ni k z.2.2.2.2.2.2.2).bind fun bT=>(ou k z.2.2.2.2.2.2.1 (z.2.2.1.1,z.2.2.2.1,z.2.2.1.2.1,z.2.2.2.2.1,z.2.2.1.2.2) bT).bind fun cN=>cond (!(decide (cN.1=0))) (some (.inr (cN.1,cN.2.2)))<|some (.inl (0,cN.2.2,(vK z.2.2.2.2.2.1 (lK z (z.1,false))),cN.2.1)))<|some (.inl (0,(z.2.2.1.1,z.2.2.2.1,z.2.2.1.2.1,z.2.2.2.2.1,z.2.2.1.2.2),(vK z.2.2.2.2.2.1 (lK z (z.1,false))),z.2.2.2.2.2.2.1)))<|(Ix k a0 x6.1).bind fun gK=>cond (!gK) ((zk k a0).bind fun lS=>(tu k k a2 x1.2.2.2.2 x5.2.1 (x5.2.1.length:Int) 0 (x5.2.2.2.1.1,x5.2.2.2.1.2.2.1,x5.2.2.2.1.2.2.2.2) x5.2.2.2.1.2.1 x5.2.2.2.1.2.2.2.1 a0 x5.2.2.2.2 lS).bind fun z1=>cond z1.2.1 ((ni k z1.2.2.2.2.2.2.2).bind fun iJ=>(ou k z1.2.2.2.2.2.2.1 (z1.2.2.1.1,z1.2.2.2.1,z1.2.2.1.2.1,z1.2.2.2.2.1,z1.2.2.1.2.2) iJ).bind fun bH=>cond (!(decide (bH.1=0))) (some (.inr (bH.1,bH.2.2)))<|some (.inl (0,bH.2.2,(vK z1.2.2.2.2.2.1 (lK z1 (z1.1,false))),bH.2.1)))<|some (.inl (0,(z1.2.2.1.1,z1.2.2.2.1,z1.2.2.1.2.1,z1.2.2.2.2.1,z1.2.2.1.2.2),(vK z1.2.2.2.2.2.1 (lK z1 (z1.1,false))),z1.2.2.2.2.2.2.1)))<|(tu k k a2 x1.2.2.2.2 x5.2.1 (x5.2.1.length:Int) 0 (x5.2.2.2.1.1,x5.2.2.2.1.2.2.1,x5.2.2.2.1.2.2.2.2) x5.2.2.2.1.2.1 x5.2.2.2.1.2.2.2.1 a0 x5.2.2.2.2 x6.1).bind fun z2=>cond z2.2.1 ((ni k z2.2.2.2.2.2.2.2).bind fun oE=>(ou k z2.2.2.2.2.2.2.1 (z2.2.2.1.1,z2.2.2.2.1,z2.2.2.1.2.1,z2.2.2.2.2.1,z2.2.2.1.2.2) oE).bind fun cq=>cond (!(decide (cq.1=0))) (some (.inr (cq.1,cq.2.2)))<|some (.inl (0,cq.2.2,(vK z2.2.2.2.2.2.1 (lK z2 (z2.1,false))),cq.2.1)))<|some (.inl (0,(z2.2.2.1.1,z2.2.2.2.1,z2.2.2.1.2.1,z2.2.2.2.2.1,z2.2.2.1.2.2),(vK z2.2.2.2.2.2.1 (lK z2 (z2.1,false))),z2.2.2.2.2.2.2.1))
 |.inr ky=>cond (!(decide (ky.2.2.1=0))) (some (.inr (ky.2.2.1,ky.2.2.2)))<|(IS k ky.1).bind fun iK=>cond (!iK.2) ((zk k a0).bind fun iL=>none)<|(Ix k a0 iK.1).bind fun we=>cond (!we) ((zk k a0).bind fun AJ=>none) none
def Jf (k:Nat)(a0 a1 a2:Int):Option Bool:=
 cond (decide (a0≥a1)) (some (decide (a0≤a2)))<|some false
abbrev qOl:Type:=yD⊕Bool
abbrev qRn:Type:=Int→yD→Option qOl
def vDj (k:Nat)(rec:qRn):qRn:=fun s3 b0=>
 cond (decide (s3<b0.2.1.length)) (cond (zB s3 b0.2.1.length) ((Jf k (b0.2.1.getD s3.toNat (0,0)).1 0 1048576).bind fun x0=>cond (!x0) (some (.inr false))<|cond (zB s3 b0.2.1.length) ((Jf k (b0.2.1.getD s3.toNat (0,0)).2 0 10000).bind fun x1=>cond (!x1) (some (.inr false))<|rec (zA (s3+1)) b0) none) none)<|some (.inl b0)
def qXy (k:Nat):Nat→qRn:=qZ (fun _ _=>none) (vDj k)
def ND (k:Nat)(a0:yD):Option Bool:=
 cond (decide (a0.1<1)) (some false)<|cond (decide (a0.1>6)) (some false)<|cond (decide ((a0.2.1.length:Int)>3)) (some false)<|(qXy k k 0 a0).bind fun z=>match z with
 |.inl z1=>(Jf k z1.2.2.2.1 1 1048576).bind fun x2=>cond x2 ((Jf k z1.2.2.1 0 z1.2.2.2.1).bind fun x3=>cond x3 ((Jf k z1.2.2.2.2 1 1048576).bind fun x4=>some x4)<|some false)<|some false
 |.inr z2=>some z2
def qX0 (k:Nat)(a0:wX)(a1:Int):Option AC:=
 cond (decide (a1<0)) (some [])<|cond (decide (a1>1)) (some [])<|cond (decide (a1=0)) (cond (zO (0+a0.1.length) 1) (some a0.1) none)<|cond (decide (a1=1)) (cond (zO (0+a0.2.1.length) 1) (some a0.2.1) none) none
def Sg (k:Nat)(rec:yBs):yBs:=fun s0 r0=>
 cond (decide ((s0.length : Int)≥2)) (cond (zB 0 s0.length) (cond (zB 1 s0.length) (cond (decide ((zA ((zA ((zA ((s0.getD 0 0)))*256))+(zA ((s0.getD 1 0)))))>60000)) (some (s0,r0))<|cond (decide ((zA ((zA ((zA ((s0.getD 0 0)))*256))+(zA ((s0.getD 1 0)))))>(zA ((s0.length:Int)-2)))) (some (s0,r0))<|cond ((decide (2≤(zA (2+(zA ((zA ((zA ((s0.getD 0 0))) * 256))+(zA ((s0.getD 1 0)))))))))&&(decide ((zA (2+(zA ((zA ((zA ((s0.getD 0 0))) * 256))+(zA ((s0.getD 1 0)))))))≤(s0.length : Int)))) (cond (zO (0+(qO s0 2 ((zA (2+(zA ((zA ((zA ((s0.getD 0 0))) * 256))+(zA ((s0.getD 1 0))))))).toNat - 2)).length) 1) (let y0:AC:=(qO s0 2 ((zA (2+(zA ((zA ((zA ((s0.getD 0 0)))*256))+(zA ((s0.getD 1 0))))))).toNat-2))
      cond (zO (r0.length+1) 24) (cond ((decide (0≤(zA (2+(zA ((zA ((zA ((s0.getD 0 0)))*256))+(zA ((s0.getD 1 0)))))))))&&(decide ((zA (2+(zA ((zA ((zA ((s0.getD 0 0)))*256))+(zA ((s0.getD 1 0)))))))≤(s0.length:Int)))) (rec (List.drop (zA (2+(zA ((zA ((zA ((s0.getD 0 0)))*256))+(zA ((s0.getD 1 0))))))).toNat s0) (r0++[y0])) none) none) none) none) none) none)<|some (s0,r0)
def Nu (k:Nat):Nat→yBs:=qZ (fun _ _=>none) (Sg k)
def qXn (k:Nat)(a0:AC):Option (EQ×Int):=
 (Nu k k a0 []).bind fun z=>some (z.2,(z.1.length:Int))
def PX (k:Nat)(rec:AC→Int→Int→Option Int)(s0:AC)(s3 s4:Int):Option Int:=
 cond (decide (s4<8)) (cond (zB s4 s0.length) (rec s0 (wU .u64 (shl .u64 s3 8) (IntKind.wrap .u64 ((s0.getD s4.toNat 0)))) (zA (s4+1))) none)<|some s3
def KQ (k:Nat):Nat→AC→Int→Int→Option Int:=qZ (fun _ _ _=>none) (PX k)
def KP (k:Nat)(a0:AC):Option Int:=
 (KQ k k a0 0 0).bind fun z=>some (zA (z))
abbrev qOg:Type:=AC→Int→AC→Option AC
def EZ (k:Nat)(rec:qOg):qOg:=fun s0 s5 r0=>
 cond (decide (s5<s0.length)) (cond (((decide (0≤s5))&&(decide (s5≤(zA (s5+8)))))&&(decide ((zA (s5+8))≤s0.length))) ((KP k (qO s0 s5.toNat ((zA (s5+8)).toNat-s5.toNat))).bind fun x0=>cond (zO (r0.length+1) 8) (rec s0 (zA (s5+8)) (r0++[x0])) none) none)<|some r0
def BP (k:Nat):Nat→qOg:=qZ (fun _ _ _=>none) (EZ k)
def xL (k:Nat)(a0:AC):Option (AC×Int):=
 cond (!(decide ((Int.tmod (a0.length:Int) 8)=0))) (some ([],2))<|(BP k k a0 0 []).bind fun z=>some (z,0)
def Nv (k:Nat)(a0:wX)(a1:Int):Option (Int×AC×EQ×Bool):=
 (qX0 k a0 a1).bind fun x0=>(qXn k x0).bind fun x1=>cond (decide ((x1.1.length:Int)=0)) (some (0,[],[],false))<|cond (zB 0 x1.1.length) (cond (decide (((x1.1.getD 0 []).length:Int)<8)) (some (0,[],[],false))<|cond (zB 0 x1.1.length) (cond (decide (8≤((x1.1.getD 0 []).length : Int))) ((xL k (List.take 8 (x1.1.getD 0 []))).bind fun x2=>cond (zB 0 x2.1.length) (cond (decide ((x2.1.getD 0 0)<1)) (some (0,[],[],false))<|cond (zB 0 x2.1.length) (cond (decide ((x2.1.getD 0 0)>4611686018427387904)) (some (0,[],[],false))<|cond (zB 0 x2.1.length) (cond (zB 0 x1.1.length) (cond (decide (8≤((x1.1.getD 0 []).length : Int))) (cond (decide (1≤(x1.1.length:Int))) (some ((x2.1.getD 0 0),(List.drop 8 (x1.1.getD 0 [])),(qO x1.1 1 (x1.1.length-1)),true)) none) none) none) none) none) none) none) none) none
def Nx (k:Nat)(a0:wX):Option (Int×Int×AC×EQ×Bool):=
 (Nv k a0 0).bind fun x0=>(Nv k a0 1).bind fun x1=>cond x1.2.2.2 (cond (!x0.2.2.2) (some (x1.1,1,x1.2.1,x1.2.2.1,true))<|cond (decide (x1.1>x0.1)) (some (x1.1,1,x1.2.1,x1.2.2.1,true))<|some (x0.1,0,x0.2.1,x0.2.2.1,x0.2.2.2))<|some (x0.1,0,x0.2.1,x0.2.2.1,x0.2.2.2)
def yIc (k:Nat)(rec:qQw):qQw:=fun s0 s1 s6 r0=>
 cond (decide (s6<s0)) (cond (zB s6 r0.length) (rec s0 s1 (zA (s6+1)) (r0.set s6.toNat s1)) none)<|some r0
def Tm (k:Nat):Nat→qQw
 |0,_,_,_,_=>none
 |n+1,s0,s1,s6,r0=>yIc k (Tm k n) s0 s1 s6 r0
def qOj (k:Nat)(a0 a1:Int):Option AC:=
 cond (decide (a0<0)) (some [])<|cond (decide (a0>6)) (some [])<|cond (pb a0 a0 8) ((Tm k k a0 a1 0 (List.replicate a0.toNat (0:Int))).bind fun z=>some z) none
abbrev qU3:Type:=Int→Int→Int→EQ→Option EQ
def yLm (k:Nat)(rec:qU3):qU3:=fun s0 s1 s6 m0=>
 cond (decide (s6<s0)) ((qOj k s0 s1).bind fun x0=>cond (zO (m0.length+1) 24) (rec s0 s1 (zA (s6+1)) (m0++[x0])) none)<|some m0
def Tn (k:Nat):Nat→qU3
 |0,_,_,_,_=>none
 |n+1,s0,s1,s6,m0=>yLm k (Tn k n) s0 s1 s6 m0
def qZj (k:Nat)(a0 a1:Int):Option EQ:=
 cond (decide (a0<0)) (some [])<|cond (decide (a0>6)) (some [])<|(Tn k k a0 a1 0 []).bind fun z=>some z
abbrev yDj:Type:=Int→Int→yD→yS→yS→List zK→EQ→AC→EQ→AC→Option qM1
def vG4 (k:Nat)(rec:yDj):yDj:=fun s3 s5 b0 b1 b2 r3 m4 r5 m6 r7=>
 cond (decide (s5<b0.2.1.length)) (cond (zB s5 b0.2.1.length) (cond (zO (r7.length+1) 8) (rec s3 (zA (s5+1)) b0 b1 b2 r3 m4 r5 m6 (r7++[(b0.2.1.getD s5.toNat (0,0)).1])) none) none)<|some (s3,b0,b1,b2,r3,m4,r5,m6,r7)
def qQ3 (k:Nat):Nat→yDj:=qZ (fun _ _ _ _ _ _ _ _ _ _=>none) (vG4 k)
def yMo (k:Nat)(rec:qXg):qXg:=fun s3 s6 b0 b1 b2 r3 m4 r5 m6 r7 m8=>
 cond (decide (s6<s3)) (cond (pb (b0.2.1.length : Int) (b0.2.1.length : Int) 8) (cond (zO (m8.length+1) 24) (rec s3 (zA (s6+1)) b0 b1 b2 r3 m4 r5 m6 r7 (m8++[(List.replicate b0.2.1.length (0:Int))])) none) none)<|some (b1,b2,r3,m4,r5,m6,r7,m8)
def yBr (k:Nat):Nat→qXg:=qZ (fun _ _ _ _ _ _ _ _ _ _ _=>none) (yMo k)
def zz (k:Nat)(a0:yD):Option qY:=
 cond (pb a0.1 a0.1 24) ((qZj k a0.1 (-1)).bind fun x0=>(qOj k a0.1 (-1)).bind fun x1=>(qZj k a0.1 0).bind fun x2=>(qQ3 k k a0.1 0 a0 (0,0,false) (0,0,false) (List.replicate a0.1.toNat ((0,0,0):Int×Int×Int)) x0 x1 x2 []).bind fun z=>(yBr k k z.1 0 z.2.1 z.2.2.1 z.2.2.2.1 z.2.2.2.2.1 z.2.2.2.2.2.1 z.2.2.2.2.2.2.1 z.2.2.2.2.2.2.2.1 z.2.2.2.2.2.2.2.2 []).bind fun z1=>some (z1.2.1.1,(yIe z1 ([],[],z1.2.1.2)))) none
abbrev yDr:Type:=AC→Int→Int→AC→Option qSx
def Rm (k:Nat)(rec:yDr):yDr:=fun s0 s4 s5 r0=>
 cond (decide (s5≥0)) (cond (zB s4 s0.length) (cond (!(decide ((IntKind.wrap .u64 (s5))<0))) (cond (zO (r0.length+1) 1) (rec s0 s4 (zA (s5-8)) (r0++[(IntKind.wrap .u8 ((shr .u64 (IntKind.wrap .u64 ((s0.getD s4.toNat 0))) (IntKind.wrap .u64 (s5)))))])) none) none) none)<|some (s0,s4,r0)
def Mx (k:Nat):Nat→yDr:=qZ (fun _ _ _ _=>none) (Rm k)
def Hg (k:Nat)(rec:qOg):qOg:=fun s0 s4 r0=>
 cond (decide (s4<s0.length)) ((Mx k k s0 s4 56 r0).bind fun z=>rec z.1 (zA (z.2.1+1)) z.2.2)<|some r0
def Cq (k:Nat):Nat→qOg:=qZ (fun _ _ _=>none) (Hg k)
def yq (k:Nat)(a0:AC):Option AC:=
 (Cq k k a0 0 []).bind fun z1=>some z1
def kj (k:Nat)(a0:AC):Option AC:=
 (yq k [(a0.length:Int)]).bind fun x0=>(yq k a0).bind fun x1=>cond (zO (x0.length+x1.length) 1) (some (x0++x1)) none
abbrev qVt:Type:=EQ→Int→AC→Option AC
def Hi (k:Nat)(rec:qVt):qVt:=fun s0 s4 r0=>
 cond (decide (s4<s0.length)) (cond (zB s4 s0.length) ((kj k (s0.getD s4.toNat [])).bind fun x0=>cond (zO (r0.length+x0.length) 1) (rec s0 (zA (s4+1)) (r0++x0)) none) none)<|some r0
def Hh (k:Nat):Nat→qVt:=qZ (fun _ _ _=>none) (Hi k)
def pD (k:Nat)(a0:EQ):Option AC:=
 (Hh k k a0 0 []).bind fun z=>some z
abbrev yEr:Type:=qY×AI×AC
abbrev qLs:Type:=Int→qY→AI→AC→Option yEr
def Hj (k:Nat)(rec:qLs):qLs:=fun s6 b0 b1 r2=>
 cond (decide (s6<b1.1.length)) (cond (zB s6 b1.1.length) (cond (zB s6 b1.1.length) (cond (zB s6 b1.1.length) ((kj k [(b1.1.getD s6.toNat aoa).1,(b1.1.getD s6.toNat aoa).2.1,(b1.1.getD s6.toNat aoa).2.2]).bind fun x1=>cond (zO (r2.length+x1.length) 1) (rec (zA (s6+1)) b0 b1 (r2++x1)) none) none) none) none)<|some (b0,b1,r2)
def vd (k:Nat):Nat→qLs:=qZ (fun _ _ _ _=>none) (Hj k)
abbrev yAu:Type:=qY×AC
abbrev yCq:Type:=Int→qY→AC→Option yAu
def Hk (k:Nat)(rec:yCq):yCq:=fun s7 b0 r1=>
 cond (decide (s7<b0.2.2.2.2.2.2.2.1.length)) (cond (zB s7 b0.2.2.2.2.2.2.2.1.length) ((kj k [(b0.2.2.2.2.2.2.2.1.getD s7.toNat apa).1,(b0.2.2.2.2.2.2.2.1.getD s7.toNat apa).2.1,(b0.2.2.2.2.2.2.2.1.getD s7.toNat apa).2.2.1,(b0.2.2.2.2.2.2.2.1.getD s7.toNat apa).2.2.2.1,(b0.2.2.2.2.2.2.2.1.getD s7.toNat apa).2.2.2.2.1,(b0.2.2.2.2.2.2.2.1.getD s7.toNat apa).2.2.2.2.2.1,(b0.2.2.2.2.2.2.2.1.getD s7.toNat apa).2.2.2.2.2.2]).bind fun x7=>cond (zO (r1.length+x7.length) 1) (rec (zA (s7+1)) b0 (r1++x7)) none) none)<|some (b0,r1)
def vf (k:Nat):Nat→yCq:=qZ (fun _ _ _=>none) (Hk k)
def ot (k:Nat)(a0:qY):Option AC:=
 cond a0.2.2.2.2.2.2.2.2.2.2 ((kj k [a0.1,a0.2.2.2.2.2.2.2.2.2.1,1,(a0.2.1.length:Int),(a0.2.2.1.length:Int),(a0.2.2.2.1.length:Int),(a0.2.2.2.2.1.length:Int),(a0.2.2.2.2.2.2.1.length:Int),(a0.2.2.2.2.2.2.2.1.length:Int)]).bind fun x0=>(vd k k 0 a0 (Au a0) x0).bind fun z=>(pD k z.2.1.2.1).bind fun x2=>cond (zO (z.2.2.length+x2.length) 1) ((kj k z.2.1.2.2.1).bind fun x3=>cond (zO ((z.2.2++x2).length+x3.length) 1) ((pD k z.2.1.2.2.2).bind fun x4=>cond (zO (((z.2.2++x2)++x3).length+x4.length) 1) ((kj k z.1.2.2.2.2.2.1).bind fun x5=>cond (zO ((((z.2.2++x2)++x3)++x4).length+x5.length) 1) ((pD k z.1.2.2.2.2.2.2.1).bind fun x6=>cond (zO (((((z.2.2++x2)++x3)++x4)++x5).length+x6.length) 1) ((vf k k 0 z.1 (((((z.2.2++x2)++x3)++x4)++x5)++x6)).bind fun z1=>(kj k z1.1.2.2.2.2.2.2.2.2.1).bind fun x8=>cond (zO (z1.2.length+x8.length) 1) (some (z1.2++x8)) none) none) none) none) none) none)<|(kj k [a0.1,a0.2.2.2.2.2.2.2.2.2.1,0,(a0.2.1.length:Int),(a0.2.2.1.length:Int),(a0.2.2.2.1.length:Int),(a0.2.2.2.2.1.length:Int),(a0.2.2.2.2.2.2.1.length:Int),(a0.2.2.2.2.2.2.2.1.length:Int)]).bind fun x9=>(vd k k 0 a0 (Au a0) x9).bind fun z2=>(pD k z2.2.1.2.1).bind fun bT=>cond (zO (z2.2.2.length+bT.length) 1) ((kj k z2.2.1.2.2.1).bind fun cN=>cond (zO ((z2.2.2++bT).length+cN.length) 1) ((pD k z2.2.1.2.2.2).bind fun gK=>cond (zO (((z2.2.2++bT)++cN).length+gK.length) 1) ((kj k z2.1.2.2.2.2.2.1).bind fun lS=>cond (zO ((((z2.2.2++bT)++cN)++gK).length+lS.length) 1) ((pD k z2.1.2.2.2.2.2.2.1).bind fun iJ=>cond (zO (((((z2.2.2++bT)++cN)++gK)++lS).length+iJ.length) 1) ((vf k k 0 z2.1 (((((z2.2.2++bT)++cN)++gK)++lS)++iJ)).bind fun z3=>(kj k z3.1.2.2.2.2.2.2.2.2.1).bind fun bH=>cond (zO (z3.2.length+bH.length) 1) (some (z3.2++bH)) none) none) none) none) none) none
def Mz (k:Nat)(a0:AC):Option wZ:=
 cond (decide ((a0.length:Int)>60000)) (some ([],false))<|cond (zO (2+a0.length) 1) (let y0:AC:=([(IntKind.wrap .u8 ((zA (Int.tdiv (a0.length:Int) 256)))),(IntKind.wrap .u8 ((Int.tmod (a0.length:Int) 256)))]++a0)
  some (y0,true)) none
def qQ1 (k:Nat)(a0:wX):Option Int:=
 some a0.2.2.2.2.1
def vg (k:Nat)(a0:wX):Option (Bool×wX):=
 cond (!a0.2.2.2.2.2.2.2.2.1) (some (false,(fL a0 ((zA (a0.2.2.2.2.2.1+1)),a0.2.2.2.2.2.2))))<|cond (decide (a0.2.2.2.2.2.1<a0.2.2.2.2.2.2.1)) (some (false,(fL a0 ((zA (a0.2.2.2.2.2.1+1)),a0.2.2.2.2.2.2))))<|cond ((decide (0≤(zA (a0.2.2.1+(yE true (yE false a0.2.2.2.2.2.2.2.1 0) (zA ((a0.1.length : Int) - a0.2.2.1)))))))&&(decide ((zA (a0.2.2.1+(yE true (yE false a0.2.2.2.2.2.2.2.1 0) (zA ((a0.1.length : Int) - a0.2.2.1)))))≤(a0.1.length : Int)))) (cond ((decide (0≤(zA (a0.2.2.2.1+(yE true (zA ((yE false a0.2.2.2.2.2.2.2.1 0)-(yE true (yE false a0.2.2.2.2.2.2.2.1 0) (zA ((a0.1.length:Int)-a0.2.2.1))))) (zA ((a0.2.1.length:Int)-a0.2.2.2.1)))))))&&(decide ((zA (a0.2.2.2.1+(yE true (zA ((yE false a0.2.2.2.2.2.2.2.1 0)-(yE true (yE false a0.2.2.2.2.2.2.2.1 0) (zA ((a0.1.length:Int)-a0.2.2.1))))) (zA ((a0.2.1.length:Int)-a0.2.2.2.1)))))≤(a0.2.1.length:Int)))) (some (true,(List.take ((zA (a0.2.2.1+(yE true (yE false a0.2.2.2.2.2.2.2.1 0) (zA ((a0.1.length:Int)-a0.2.2.1))))).toNat-0) a0.1),(List.take ((zA (a0.2.2.2.1+(yE true (zA ((yE false a0.2.2.2.2.2.2.2.1 0)-(yE true (yE false a0.2.2.2.2.2.2.2.1 0) (zA ((a0.1.length:Int)-a0.2.2.1))))) (zA ((a0.2.1.length:Int)-a0.2.2.2.1))))).toNat-0) a0.2.1),(zA (a0.2.2.1+(yE true (yE false a0.2.2.2.2.2.2.2.1 0) (zA ((a0.1.length:Int)-a0.2.2.1))))),(zA (a0.2.2.2.1+(yE true (zA ((yE false a0.2.2.2.2.2.2.2.1 0)-(yE true (yE false a0.2.2.2.2.2.2.2.1 0) (zA ((a0.1.length:Int)-a0.2.2.1))))) (zA ((a0.2.1.length:Int)-a0.2.2.2.1))))),(ahi a0 true))) none) none
def yAh (k:Nat)(a0:wX)(a1:Int):Option (Int×wX):=
 cond a0.2.2.2.2.2.2.2.2.2 (some (11,a0))<|cond (decide (a1<0)) (some (1,a0))<|cond (decide (a1>1)) (some (1,a0))<|(vg k a0).bind fun x0=>cond x0.1 (some (11,x0.2))<|cond (decide (a1=0)) (cond (decide (a1=0)) (some (0,[],x0.2.2.1,0,x0.2.2.2.2))<|cond (decide (a1=1)) (some (0,[],x0.2.2.1,x0.2.2.2.1,0,x0.2.2.2.2.2)) none)<|cond (decide (a1=1)) (cond (decide (a1=0)) (some (0,x0.2.1,[],0,x0.2.2.2.2))<|cond (decide (a1=1)) (some (0,x0.2.1,[],x0.2.2.2.1,0,x0.2.2.2.2.2)) none) none
def Hn (k:Nat)(a0:wX)(a1:Int)(a2:AC):Option (Int×wX):=
 cond a0.2.2.2.2.2.2.2.2.2 (some (11,a0))<|cond (decide (a1<0)) (some (1,a0))<|cond (decide (a1>1)) (some (1,a0))<|cond (decide (a1=0)) (cond (decide ((a2.length:Int)>(zA (a0.2.2.2.2.1-(a0.1.length:Int))))) (some (3,a0))<|(vg k a0).bind fun x0=>cond x0.1 (some (11,x0.2))<|cond (decide (a1=0)) (cond (zO (0+x0.2.1.length) 1) (cond (zO (x0.2.1.length+a2.length) 1) (cond (decide (a1=0)) (some (0,(x0.2.1++a2),x0.2.2))<|cond (decide (a1=1)) (some (0,x0.2.1,(x0.2.1++a2),x0.2.2.2)) none) none) none)<|cond (decide (a1=1)) (cond (zO (0+x0.2.2.1.length) 1) (cond (zO (x0.2.2.1.length+a2.length) 1) (cond (decide (a1=0)) (some (0,(x0.2.2.1++a2),x0.2.2))<|cond (decide (a1=1)) (some (0,x0.2.1,(x0.2.2.1++a2),x0.2.2.2)) none) none) none) none)<|cond (decide (a1=1)) (cond (decide ((a2.length:Int)>(zA (a0.2.2.2.2.1-(a0.2.1.length:Int))))) (some (3,a0))<|(vg k a0).bind fun x1=>cond x1.1 (some (11,x1.2))<|cond (decide (a1=0)) (cond (zO (0+x1.2.1.length) 1) (cond (zO (x1.2.1.length+a2.length) 1) (cond (decide (a1=0)) (some (0,(x1.2.1++a2),x1.2.2))<|cond (decide (a1=1)) (some (0,x1.2.1,(x1.2.1++a2),x1.2.2.2)) none) none) none)<|cond (decide (a1=1)) (cond (zO (0+x1.2.2.1.length) 1) (cond (zO (x1.2.2.1.length+a2.length) 1) (cond (decide (a1=0)) (some (0,(x1.2.2.1++a2),x1.2.2))<|cond (decide (a1=1)) (some (0,x1.2.1,(x1.2.2.1++a2),x1.2.2.2)) none) none) none) none) none
def Ct (k:Nat)(a0:wX):Option (Int×wX):=
 cond a0.2.2.2.2.2.2.2.2.2 (some (11,a0))<|(vg k a0).bind fun x0=>cond x0.1 (some (11,x0.2))<|some (0,x0.2.1,x0.2.2.1,(x0.2.1.length:Int),(x0.2.2.1.length:Int),x0.2.2.2.2.2)
def Hq (k:Nat)(a0:wX)(a1 a2:Int)(a3:AC):Option (Int×wX):=
 (yq k [a1]).bind fun x0=>cond (zO (x0.length+a3.length) 1) ((Mz k (x0++a3)).bind fun x1=>cond (!x1.2) (some (10,a0))<|(qQ1 k a0).bind fun x2=>cond (decide (x1.1.length>x2)) (some (10,a0))<|cond (decide (a1>4611686018427387904)) (some (10,a0))<|(yAh k a0 a2).bind fun x3=>cond (decide (x3.1=0)) ((Hn k x3.2 a2 x1.1).bind fun x4=>cond (decide (x4.1=0)) ((Ct k x4.2).bind fun x5=>some (x5.1,x5.2))<|some (x4.1,x4.2))<|cond (decide (x3.1=0)) ((Ct k x3.2).bind fun x6=>some (x6.1,x6.2))<|some (x3.1,x3.2)) none
def qO2 (k:Nat)(a0:wX)(a1:AC):Option ((AC×EQ×Int×wX×wK)⊕(AC×EQ×Int×wX)):=
 (Nx k a0).bind fun x0=>cond x0.2.2.2.2 (some (.inl (x0.2.2.1,x0.2.2.2.1,0,a0,x0.1,x0.2.1,(x0.2.2.2.1.length:Int),true)))<|(Hq k a0 1 0 a1).bind fun x1=>cond (!(decide (x1.1=0))) (some (.inr ([],[],x1.1,x1.2)))<|cond (zO (0+a1.length) 1) (some (.inl (a1,[],0,x1.2,1,0,0,false))) none
def Sb (k:Nat)(a0:AC):Option (AC×AC×Bool):=
 cond (decide ((a0.length:Int)<8)) (some ([],[],false))<|cond (decide (8≤(a0.length : Int))) ((KP k (List.take 8 a0)).bind fun x0=>cond (decide (x0<0)) (some ([],[],false))<|cond (decide (x0>(zA (Int.tdiv (zA ((a0.length:Int)-8)) 8)))) (some ([],[],false))<|cond ((decide (8≤(zA (8+(zA (8 * x0))))))&&(decide ((zA (8+(zA (8 * x0))))≤(a0.length : Int)))) ((xL k (qO a0 8 ((zA (8+(zA (8*x0)))).toNat-8))).bind fun x1=>cond ((decide (0≤(zA (8+(zA (8*x0))))))&&(decide ((zA (8+(zA (8*x0))))≤(a0.length:Int)))) (some (x1.1,(List.drop (zA (8+(zA (8*x0)))).toNat a0),true)) none) none) none
def zx (k:Nat)(a0:wZ):Option (AC×wZ):=
 (Sb k a0.1).bind fun x0=>cond a0.2 (some (x0.1,x0.2))<|some (x0.1,x0.2.1,false)
def v9 (k:Nat)(a0:wZ)(a1:Int):Option (AC×wZ):=
 (zx k a0).bind fun x0=>cond (!(decide ((x0.1.length : Int)=a1))) (cond (pb a1 a1 8) (some ((List.replicate a1.toNat (0:Int)),x0.2.1,false)) none)<|some (x0.1,x0.2)
abbrev yEm:Type:=Int→Int→wZ→EQ→Option qM4
def IL (k:Nat)(rec:yEm):yEm:=fun s1 s6 b0 r1=>
 cond (decide (s6<s1)) (cond b0.2 ((zx k b0).bind fun x0=>cond (zO (r1.length+1) 24) (rec s1 (zA (s6+1)) x0.2 (r1++[x0.1])) none)<|some (b0,r1))<|some (b0,r1)
def IK (k:Nat):Nat→yEm:=qZ (fun _ _ _ _=>none) (IL k)
def IH (k:Nat)(a0:wZ)(a1:Int):Option (EQ×wZ):=
 (IK k k a1 0 a0 []).bind fun z=>some (z.2,z.1)
def IN (k:Nat)(rec:yAs):yAs:=fun s0 s7 b0 b1 r2 b3 r4=>
 cond (zB 3 r2.length) (cond (decide (s7<(r2.getD 3 0))) (cond b1.2 ((v9 k b1 3).bind fun x1=>cond (zB 0 x1.1.length) (cond (zB 1 x1.1.length) (cond (zB 2 x1.1.length) (cond (zO (r4.length+1) 24) (let y0:List zK:=(r4++[((x1.1.getD 0 0),(x1.1.getD 1 0),(x1.1.getD 2 0))])
        rec s0 (zA (s7+1)) b0 x1.2 r2 b3 y0) none) none) none) none)<|some (s0,b0,b1,r2,b3,r4))<|some (s0,b0,b1,r2,b3,r4)) none
def C4 (k:Nat):Nat→yAs:=qZ (fun _ _ _ _ _ _ _=>none) (IN k)
abbrev qNn:Type:=AC→Int→yS→wZ→AC→yS→List zK→EQ→AC→EQ→AC→EQ→List zD→Option qS3
def IQ (k:Nat)(rec:qNn):qNn:=fun s0 s9 b0 b1 r2 b3 r4 r5 r6 r7 r8 r9 T3=>
 cond (zB 8 r2.length) (cond (decide (s9<(r2.getD 8 0))) (cond b1.2 ((v9 k b1 7).bind fun x7=>cond (zB 0 x7.1.length) (cond (zB 1 x7.1.length) (cond (zB 2 x7.1.length) (cond (zB 3 x7.1.length) (cond (zB 4 x7.1.length) (cond (zB 5 x7.1.length) (cond (zB 6 x7.1.length) (cond (zO (T3.length+1) 56) (let y1:List zD:=(T3++[((x7.1.getD 0 0),(x7.1.getD 1 0),(x7.1.getD 2 0),(x7.1.getD 3 0),(x7.1.getD 4 0),(x7.1.getD 5 0),(x7.1.getD 6 0))])
            rec s0 (zA (s9+1)) b0 x7.2 r2 b3 r4 r5 r6 r7 r8 r9 y1) none) none) none) none) none) none) none) none)<|some (s0,b0,b1,b3,r4,r5,r6,r7,r8,r9,T3))<|some (s0,b0,b1,b3,r4,r5,r6,r7,r8,r9,T3)) none
def C6 (k:Nat):Nat→qNn:=qZ (fun _ _ _ _ _ _ _ _ _ _ _ _ _=>none) (IQ k)
def IT (k:Nat)(a0:AC):Option (qY×Bool):=
 (v9 k (a0,true) 9).bind fun x0=>cond (zB 0 x0.1.length) (cond (zB 1 x0.1.length) (cond (zB 2 x0.1.length) ((C4 k k a0 0 (0,0,false) x0.2 x0.1 ((x0.1.getD 0 0),(x0.1.getD 1 0),(decide ((x0.1.getD 2 0)=1))) []).bind fun z=>cond (zB 4 z.2.2.2.1.length) ((IH k z.2.2.1 (z.2.2.2.1.getD 4 0)).bind fun x2=>(zx k x2.2).bind fun x3=>cond (zB 6 z.2.2.2.1.length) ((IH k x3.2 (z.2.2.2.1.getD 6 0)).bind fun x4=>(zx k x4.2).bind fun x5=>cond (zB 7 z.2.2.2.1.length) ((IH k x5.2 (z.2.2.2.1.getD 7 0)).bind fun x6=>(C6 k k z.1 0 z.2.1 x6.2 z.2.2.2.1 z.2.2.2.2.1 z.2.2.2.2.2 x2.1 x3.1 x4.1 x5.1 x6.1 []).bind fun z1=>(zx k z1.2.2.1).bind fun x8=>cond (!x8.2.2) (some ((0,[],[],[],[],[],[],[],[],0,false),false))<|cond (decide ((x8.2.1.length:Int)>0)) (some ((0,[],[],[],[],[],[],[],[],0,false),false))<|(ot k (z1.2.2.2.1.1,(N4 z1 (x8.1,z1.2.2.2.1.2)))).bind fun x9=>cond (!(oO x9 z1.1)) (some ((0,[],[],[],[],[],[],[],[],0,false),false))<|some ((z1.2.2.2.1.1,(N4 z1 (x8.1,z1.2.2.2.1.2))),true)) none) none) none) none) none) none
def BQ (k:Nat)(a0:Int):Option Int:=
 cond (decide (a0<0)) (some (-1))<|cond (decide (a0≥24)) (some (-1))<|cond (zB a0 24) (some (List.getD [(-1),6,1,2,2,2,1,1,2,0,2,2,2,0,0,0,1,5,4,1,1,1,1,1] a0.toNat 0)) none
abbrev qPq:Type:=zD×zD
abbrev yFd:Type:=Int→zD→zD→AC→Option qPq
def vGk (k:Nat)(rec:yFd):yFd:=fun s7 b0 b1 r2=>
 cond (decide (s7<r2.length)) (cond (zB s7 r2.length) (cond (decide (s7=0)) (rec (zA (s7+1)) b0 (b1.1,(r2.getD s7.toNat 0),b1.2.2) r2)<|cond (decide (s7=1)) (rec (zA (s7+1)) b0 (b1.1,b1.2.1,(r2.getD s7.toNat 0),b1.2.2.2) r2)<|cond (decide (s7=2)) (rec (zA (s7+1)) b0 (b1.1,b1.2.1,b1.2.2.1,(r2.getD s7.toNat 0),b1.2.2.2.2) r2)<|cond (decide (s7=3)) (rec (zA (s7+1)) b0 (vW b1 ((r2.getD s7.toNat 0),b1.2.2.2.2.2)) r2)<|cond (decide (s7=4)) (rec (zA (s7+1)) b0 (fL b1 ((r2.getD s7.toNat 0),b1.2.2.2.2.2.2)) r2)<|cond (decide (s7=5)) (rec (zA (s7+1)) b0 (jD b1 (r2.getD s7.toNat 0)) r2) none) none)<|some (b0,b1)
def PZ (k:Nat):Nat→yFd:=qZ (fun _ _ _ _=>none) (vGk k)
def E1 (k:Nat)(a0:AC):Option (zD×Int):=
 cond (decide ((a0.length:Int)=0)) (some ((0,0,0,0,0,0,0),2))<|cond (zB 0 a0.length) (cond (decide (1≤(a0.length : Int))) ((xL k (List.drop 1 a0)).bind fun x0=>cond (!(decide (x0.2=0))) (some ((0,0,0,0,0,0,0),2))<|(BQ k (zA ((a0.getD 0 0)))).bind fun x1=>cond (!(decide ((x0.1.length:Int)=x1))) (some ((0,0,0,0,0,0,0),2))<|(PZ k k 0 (0,0,0,0,0,0,0) ((zA ((a0.getD 0 0))),0,0,0,0,0,0) x0.1).bind fun z=>some (z.2,0)) none) none
def Sn (k:Nat)(a0:AC):Option (qU×Int):=
 cond (decide ((a0.length:Int)<8)) (some ((0,0,0,0,0,0,0,0),2))<|cond (decide (8≤(a0.length : Int))) ((xL k (List.take 8 a0)).bind fun x0=>cond (decide (8≤(a0.length : Int))) ((E1 k (List.drop 8 a0)).bind fun x1=>cond (!(decide (x1.2=0))) (some ((0,0,0,0,0,0,0,0),2))<|cond (zB 0 x0.1.length) (some (((x0.1.getD 0 0),x1.1),0)) none) none) none
def RV (k:Nat)(a0:Int):Option Bool:=
 cond (decide (a0≥1)) (some (decide (a0≤14)))<|some false
abbrev yCb:Type:=Int→Int→zD→Option (Int⊕Bool)
def qYk (k:Nat)(rec:yCb):yCb:=fun s3 s4 b0=>
 cond (decide (s4<6)) (cond (decide (s4=0)) (cond (!(decide (b0.2.1=0))) (some (.inr false))<|rec s3 (zA (s4+1)) b0)<|cond (decide (s4=1)) (cond (!(decide (b0.2.2.1=0))) (some (.inr false))<|rec s3 (zA (s4+1)) b0)<|cond (decide (s4=2)) (cond (!(decide (b0.2.2.2.1=0))) (some (.inr false))<|rec s3 (zA (s4+1)) b0)<|cond (decide (s4=3)) (cond (!(decide (b0.2.2.2.2.1=0))) (some (.inr false))<|rec s3 (zA (s4+1)) b0)<|cond (decide (s4=4)) (cond (!(decide (b0.2.2.2.2.2.1=0))) (some (.inr false))<|rec s3 (zA (s4+1)) b0)<|cond (decide (s4=5)) (cond (!(decide (b0.2.2.2.2.2.2=0))) (some (.inr false))<|rec s3 (zA (s4+1)) b0) none)<|some (.inl s3)
def yv (k:Nat):Nat→yCb:=qZ (fun _ _ _=>none) (qYk k)
def th (k:Nat)(a0:zD):Option Bool:=
 (BQ k a0.1).bind fun x0=>(yv k k x0 (yE false x0 0) a0).bind fun z=>match z with
 |.inl z1=>some (decide (z1≥0))
 |.inr z2=>some z2
def RW (k:Nat)(a0:Int):Option Bool:=
 cond (decide (a0≥10)) (some (decide (a0≤14)))<|some false
def CI (k:Nat)(a0:yD)(a1:qU):Option Bool:=
 (RV k a1.2.1).bind fun x0=>cond (!x0) (some false)<|(th k a1.2).bind fun x1=>cond (!x1) (some false)<|(RW k a1.2.1).bind fun x2=>cond x2 (some (decide (a1.1=(-1))))<|cond (decide (a1.1≥0)) (some (decide (a1.1<a0.1)))<|some false
abbrev qSj:Type:=List zD→Int→Int→List zD→Option yCz
def F6 (k:Nat)(rec:qSj):qSj:=fun s0 s1 s6 r0=>
 cond (decide (s6<s0.length)) (cond (zB s6 s0.length) (cond (decide ((s0.getD s6.toNat apa).2.1=s1)) (cond (zB s6 s0.length) (cond (zO (r0.length+1) 56) (let y0:List zD:=(r0++[(s0.getD s6.toNat apa)])
      rec s0 s1 (zA (s6+1)) y0) none) none)<|rec s0 s1 (zA (s6+1)) r0) none)<|some r0
def LI (k:Nat):Nat→qSj
 |0,_,_,_,_=>none
 |n+1,s0,s1,s6,r0=>F6 k (LI k n) s0 s1 s6 r0
def uP (k:Nat)(a0:List zD)(a1:Int):Option (List zD):=
 (LI k k a0 a1 0 []).bind fun z=>some z
abbrev qNy:Type:=Int×Int×Int×Int×Int×Int×Int×Int×Int×Int×Int×Int×Int×Int
abbrev qQl:Type:=AC→Int→Int→Int→Int→Int→Int→Int→Int→Int→Int→Int→Int→Int→Int→Int→Option qNy
def yMm (k:Nat)(rec:qQl):qQl:=fun s1 s6 af ah aj ag ba bp bq aw aD aE aG aJ aK aL=>
 cond (decide (s6<s1.length)) (cond (decide (s6<6)) (cond (zB s6 s1.length) (cond (decide (s6=0)) (rec s1 (zA (s6+1)) af ah aj ag ba bp bq aw (s1.getD s6.toNat 0) aE aG aJ aK aL)<|cond (decide (s6=1)) (rec s1 (zA (s6+1)) af ah aj ag ba bp bq aw aD (s1.getD s6.toNat 0) aG aJ aK aL)<|cond (decide (s6=2)) (rec s1 (zA (s6+1)) af ah aj ag ba bp bq aw aD aE (s1.getD s6.toNat 0) aJ aK aL)<|cond (decide (s6=3)) (rec s1 (zA (s6+1)) af ah aj ag ba bp bq aw aD aE aG (s1.getD s6.toNat 0) aK aL)<|cond (decide (s6=4)) (rec s1 (zA (s6+1)) af ah aj ag ba bp bq aw aD aE aG aJ (s1.getD s6.toNat 0) aL)<|cond (decide (s6=5)) (rec s1 (zA (s6+1)) af ah aj ag ba bp bq aw aD aE aG aJ aK (s1.getD s6.toNat 0)) none) none)<|some (af,ah,aj,ag,ba,bp,bq,aw,aD,aE,aG,aJ,aK,aL))<|some (af,ah,aj,ag,ba,bp,bq,aw,aD,aE,aG,aJ,aK,aL)
def Tv (k:Nat):Nat→qQl
 |0,_,_,_,_,_,_,_,_,_,_,_,_,_,_,_,_=>none
 |n+1,s1,s6,af,ah,aj,ag,ba,bp,bq,aw,aD,aE,aG,aJ,aK,aL=>yMm k (Tv k n) s1 s6 af ah aj ag ba bp bq aw aD aE aG aJ aK aL
def eQ (k:Nat)(a0:Int)(a1:AC):Option zD:=
 (Tv k k a1 0 0 0 0 0 0 0 0 a0 0 0 0 0 0 0).bind fun z=>some (z.2.2.2.2.2.2.2.1,z.2.2.2.2.2.2.2.2.1,z.2.2.2.2.2.2.2.2.2.1,z.2.2.2.2.2.2.2.2.2.2.1,z.2.2.2.2.2.2.2.2.2.2.2.1,z.2.2.2.2.2.2.2.2.2.2.2.2.1,z.2.2.2.2.2.2.2.2.2.2.2.2.2)
def RU (k:Nat)(a0:yD)(a1:Int):Option Bool:=
 some (decide (a1=a0.2.2.2.1))
def qWy (k:Nat)(cf bj bB cw bM ca bO a1:Int):Option Bool:=
 some (decide (a1>bO))
abbrev qU5:Type:=List zD→Int→Int→Option (Unit⊕Int)
def Gf (k:Nat)(rec:qU5):qU5:=fun s0 s1 s5=>
 cond (decide (s5<s0.length)) (cond (zB s5 s0.length) (cond (decide ((s0.getD s5.toNat apa).1=s1)) (some (.inr s5))<|rec s0 s1 (zA (s5+1))) none)<|some (.inl ())
def Ge (k:Nat):Nat→qU5
 |0,_,_,_=>none
 |n+1,s0,s1,s5=>Gf k (Ge k n) s0 s1 s5
def mA (k:Nat)(a0:List zD)(a1:Int):Option Int:=
 (Ge k k a0 a1 0).bind fun z=>match z with
 |.inl z1=>some (-1)
 |.inr z2=>some z2
def ow (k:Nat)(a0:List zD)(a1:Int):Option yCi:=
 (mA k a0 a1).bind fun x0=>cond (decide (x0<0)) (some (a0,0,0,0,0,0,0,0,4))<|cond ((decide (0≤x0))&&(decide (x0≤a0.length))) (cond (zO (0+(List.take x0.toNat a0).length) 56) (cond ((decide (0≤(zA (x0+1))))&&(decide ((zA (x0+1))≤a0.length))) (cond (zO ((List.take x0.toNat a0).length+(List.drop (zA (x0+1)).toNat a0).length) 56) (cond (zB x0 a0.length) (some (((List.take x0.toNat a0)++(List.drop (zA (x0+1)).toNat a0)),(gf (a0.getD x0.toNat apa) 0))) none) none) none) none) none
def M6 (k:Nat)(a0:yD)(a1:Int):Option Bool:=
 cond (decide (a1>0)) (cond (decide (a1<a0.2.2.2.1)) (cond (!(decide (a0.2.2.2.2=0))) (some (decide ((Int.tmod a1 a0.2.2.2.2)=0))) none)<|some false)<|some false
def Zg (k:Nat)(cf bj bB cw bM ca bO a1:Int):Option Bool:=
 cond (decide (a1≥ca)) (some (decide (a1≤bO)))<|some false
def F5 (k:Nat)(rec:qSj):qSj:=fun s0 s1 s6 r0=>
 cond (decide (s6<s0.length)) (cond (zB s6 s0.length) ((Zg k (s0.getD s6.toNat apa).1 (s0.getD s6.toNat apa).2.1 (s0.getD s6.toNat apa).2.2.1 (s0.getD s6.toNat apa).2.2.2.1 (s0.getD s6.toNat apa).2.2.2.2.1 (s0.getD s6.toNat apa).2.2.2.2.2.1 (s0.getD s6.toNat apa).2.2.2.2.2.2 s1).bind fun x0=>cond x0 (cond (zB s6 s0.length) (cond (zO (r0.length+1) 56) (let y0:List zD:=(r0++[(s0.getD s6.toNat apa)])
      rec s0 s1 (zA (s6+1)) y0) none) none)<|rec s0 s1 (zA (s6+1)) r0) none)<|some r0
def LH (k:Nat):Nat→qSj
 |0,_,_,_,_=>none
 |n+1,s0,s1,s6,r0=>F5 k (LH k n) s0 s1 s6 r0
def F4 (k:Nat)(a0:List zD)(a1:Int):Option (List zD):=
 (LH k k a0 a1 0 []).bind fun z=>some z
end Go.Ab.Gi
