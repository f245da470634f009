/- part 5 -/
import Derived.Test.YtkhhepacokaakaaGreatGiAbD
set_option linter.unusedVariables false
set_option maxRecDepth 100000
abbrev Go.Ab.Ty.i:Go.Ab.Ty:=.int .i64
abbrev Go.Ab.CS.i:Go.Ab.CS:=.int .i64
abbrev Go.Ab.PC.i:Go.Ab.PC:=.int .i64
abbrev Go.Ab.RC.i:Go.Ab.RC:=.int .i64
namespace Go.Ab.Gi
abbrev AC:=List Int
abbrev EQ:=List AC
abbrev gW:Type:=AC×Bool
abbrev jA:Go.Ab.Ty:=.pair .i .i
abbrev vJ:Type:=Int×AC×Int×AC×Int×Int×Int×Bool×Bool×Int
abbrev dJ:Type:=Int×Int×Bool
abbrev dK:Type:=Int×Int×Int×Bool
abbrev Cb:Type:=Int×Int×Int×Int×Int×Bool×Bool×Int
abbrev vD:Type:=Int×Int×Int×Int×Int×Int×Int×Int
abbrev zE:Type:=Int×Int×Int×Int×Int×Int×Int
abbrev zM:Type:=Int×Int×Int
abbrev wQ:Type:=Int×Int
abbrev Gg:Type:=(List zM)×EQ×AC×EQ×(List zE)×(List zE)
abbrev KR:Type:=(List zM)×EQ×AC×EQ
abbrev qZ:Go.Ab.Ty:=.pair .i jA
abbrev qTw:Type:=Bool×Int×Int×Int×Int×Int×Int×Int×Int×Int×Int×Int×Int×Int×Int×(List zM)×EQ×AC×EQ
abbrev UN:Type:=Int×(List zM)×EQ×AC×EQ×AC×EQ×(List zE)×AC×Int×Bool×(List vD)
abbrev wF:Type:=Int×(List zM)×EQ×AC×EQ×AC×EQ×(List zE)×AC×Int×Bool
abbrev wR:Type:=Int×(List wQ)×Int×Int×Int×Int×(List zM)×EQ×AC×EQ×AC×EQ×(List zE)×AC×Int×Bool×Int×(List vD)
abbrev lJ:Type:=Int×(List wQ)×Int×Int×Int×Int×(List zM)×EQ×AC×EQ×AC×EQ×(List zE)×AC×Int×Bool×Int×Bool
abbrev gX:Type:=Int×(List wQ)×Int×Int×Int×Int×(List zM)×EQ×AC×EQ×AC×EQ×(List zE)×AC×Int×Bool×Int
abbrev wN:Type:=Int×(List wQ)×Int×Int×Int
abbrev yZe:Go.Ab.Ty:=.pair .i qZ
abbrev yWi:Go.Ab.Ty:=.pair .i yZe
abbrev yZ4:Go.Ab.Ty:=.pair .i yWi
abbrev zJ:Go.Ab.Ty:=.pair .i yZ4
abbrev yR:Go.Ab.Ty:=.pair .i zJ
abbrev Sn:List Go.Ab.CS:=[.dat false .i,.dat false .i,.dat false (.sl .i)]
abbrev kF:List Go.Ab.CS:=[.dat false qZ,.dat false (.sl .i),.dat false .i,.dat false (.sl .i)]
abbrev B2:List Go.Ab.CS:=[.dat true (.int .u8),.bool]
abbrev eQ:List Go.Ab.CS:=[.dat true qZ,.dat true (.sl .i),.dat true .i,.dat true (.sl .i)]
abbrev KE:List Go.Ab.CS:=[.i,.dat false qZ,.dat false (.sl .i),.dat false .i,.dat false (.sl .i),.dat false .i,.dat false (.sl .i),.dat false zJ,.dat false .i,.i,.bool]
abbrev sJ:List Go.Ab.CS:=[.i,.dat false jA,.i,.i,.i]
abbrev jz:List Go.Ab.CS:=[.i,.dat true qZ,.dat true (.sl .i),.dat true .i,.dat true (.sl .i),.dat true .i,.dat true (.sl .i),.dat true zJ,.dat true .i,.i,.bool]
abbrev KG:List Go.Ab.CS:=[.i,.dat true jA,.i,.i,.i]
abbrev RT:List Go.Ab.CS:=[.i,.dat true jA,.i,.i,.i,.i,.dat true qZ,.dat true (.sl .i),.dat true .i,.dat true (.sl .i),.dat true .i,.dat true (.sl .i),.dat true zJ,.dat true .i,.i,.bool,.i,.lit (.osl 1001001 none)]
abbrev TN:List Go.Ab.CS:=[.i,.dat true jA,.i,.i,.i,.i,.dat true qZ,.dat true (.sl .i),.dat true .i,.dat true (.sl .i),.dat true .i,.dat true (.sl .i),.dat true zJ,.dat true .i,.i,.bool,.i,.lit .nsl]
abbrev iN:List Go.Ab.CS:=[.i,.i,.i,.i,.i,.i,.i]
abbrev qTh:List Go.Ab.CS:=[.i,.i,.i,.i,.i,.i,.i,.i,.i,.i,.i,.i,.i,.i,.dat true qZ,.dat true (.sl .i),.dat true .i,.dat true (.sl .i)]
abbrev Ku:List Go.Ab.CS:=[.i,.i,.i,.i,.i,.i,.i,.i,.i,.i,.i,.i,.i,.i,.lit .nsl,.lit .nsl,.lit .nsl,.lit .nsl]
abbrev qQn:List Go.Ab.CS:=[.i,.lit (.osl 1001001 none),.i,.lit (.osl 1001002 none),.i,.i,.i,.bool,.bool,.i]
abbrev yHh:List Go.Ab.CS:=[.i,.lit (.osl 1001003 none),.i,.lit (.osl 1001004 none),.i,.i,.i,.bool,.bool,.i]
abbrev yI6:List Go.Ab.CS:=[.i,.lit (.osl 1001003 none),.lit (.osl 1001004 none),.lit (.osl 1001005 none),.lit (.osl 1001006 none),.lit (.osl 1001007 none),.lit (.osl 1001008 none),.lit (.osl 1001009 none),.lit .nsl,.i,.bool]
abbrev qU6:List Go.Ab.CS:=[.i,.lit (.osl 1001003 none),.lit (.osl 1001004 none),.lit (.osl 1001005 none),.lit (.osl 1001006 none),.lit (.osl 1001007 none),.lit .nsl,.lit .nsl,.lit .nsl,.i,.bool]
abbrev qP9:List Go.Ab.CS:=[.i,.lit (.osl 1001004 none),.lit .nsl,.lit .nsl,.lit .nsl,.lit .nsl,.lit .nsl,.lit .nsl,.lit .nsl,.i,.bool]
abbrev jy:List Go.Ab.CS:=[.i,.lit .nsl,.lit .nsl,.lit .nsl,.lit .nsl,.lit .nsl,.lit .nsl,.lit .nsl,.lit .nsl,.i,.bool]
abbrev Sf:List Go.Ab.CS:=[.lit (.osl 1001002 none),.lit (.osl 1001003 none),.lit (.osl 1001004 none)]
abbrev Kt:List Go.Ab.CS:=[.lit (.osl 1001003 none),.lit (.osl 1001004 none),.lit (.osl 1001005 none),.lit (.osl 1001006 none)]
abbrev qZ4:List Go.Ab.CS:=[.lit (.osl 1001004 none),.lit (.osl 1001005 none),.lit (.osl 1001006 none),.lit (.osl 1001007 none)]
abbrev qWi:List Go.Ab.CS:=[.lit (.ptr 1001006 0),.i,.dat true jA,.i,.i,.i,.i,.dat true qZ,.dat true (.sl .i),.dat true .i,.dat true (.sl .i),.dat true .i,.dat true (.sl .i),.dat true zJ,.dat true .i,.i,.bool,.i,.bool]
abbrev Ks:List Go.Ab.CS:=[.lit .nsl,.lit .nsl,.lit .nsl,.lit .nsl]
abbrev Kq:List Go.Ab.PC:=[.dat false .i,.dat false .i,.dat false (.sl .i)]
abbrev fR:List Go.Ab.PC:=[.dat false qZ,.dat false (.sl .i),.dat false .i,.dat false (.sl .i)]
abbrev sR:List Go.Ab.PC:=[.dat true qZ,.dat true (.sl .i),.dat true .i,.dat true (.sl .i)]
abbrev FX:List Go.Ab.PC:=[.i,.dat false (.int .u8),.i,.dat false (.int .u8),.i,.i,.i,.bool,.bool,.i]
abbrev nW:List Go.Ab.PC:=[.i,.dat false qZ,.dat false (.sl .i),.dat false .i,.dat false (.sl .i),.dat false .i,.dat false (.sl .i),.dat false zJ,.dat false .i,.i,.bool]
abbrev lE:List Go.Ab.PC:=[.i,.dat false jA,.i,.i,.i]
abbrev Rs:List Go.Ab.PC:=[.i,.dat false jA,.i,.i,.i,.i,.dat false qZ,.dat false (.sl .i),.dat false .i,.dat false (.sl .i),.dat false .i,.dat false (.sl .i),.dat false zJ,.dat false .i,.i,.bool,.i,.dat false yR]
abbrev F0:List Go.Ab.PC:=[.i,.dat true qZ,.dat true (.sl .i),.dat true .i,.dat true (.sl .i),.dat true .i,.dat true (.sl .i),.dat true zJ,.dat true .i,.i,.bool]
abbrev qOp:List Go.Ab.PC:=[.i,.dat true jA,.i,.i,.i]
abbrev nX:List Go.Ab.PC:=[.i,.i,.i]
abbrev wC:List Go.Ab.PC:=[.i,.i,.i,.i,.i,.i,.i]
abbrev Q5:List Go.Ab.PC:=[.i,.i,.i,.i,.i,.i,.i,.i]
abbrev lF:List Go.Ab.RC:=[.fro (.int .u8)]
abbrev nU:List Go.Ab.RC:=[.fro (.sl (.int .u8))]
abbrev j3:List Go.Ab.RC:=[.fro qZ,.fro (.sl .i),.fro .i,.fro (.sl .i)]
abbrev qM:List Go.Ab.RC:=[.i]
abbrev nV:List Go.Ab.RC:=[.i,.fro qZ,.fro (.sl .i),.fro .i,.fro (.sl .i),.fro .i,.fro (.sl .i),.fro zJ,.fro .i,.i,.bool]
abbrev yDx:List Go.Ab.RC:=[.i,.fro qZ,.fro (.sl .i),.fro .i,.fro (.sl .i),.fro .i,.fro (.sl .i),.own zJ,.fro .i,.i,.bool]
abbrev wA:List Go.Ab.RC:=[.i,.fro jA,.i,.i,.i,.i,.fro qZ,.fro (.sl .i),.fro .i,.fro (.sl .i),.fro .i,.fro (.sl .i),.fro zJ,.fro .i,.i,.bool,.i,.own yR]
abbrev B7:List Go.Ab.RC:=[.i,.i,.i]
abbrev lG:List Go.Ab.RC:=[.i,.i,.i,.i,.i,.i,.i]
abbrev Ke:List Go.Ab.RC:=[.i,.i,.i,.i,.i,.i,.i,.i]
abbrev qT9:List Go.Ab.RC:=[.i,.i,.i,.i,.i,.i,.i,.i,.i,.i,.i,.i,.i,.i,.fro qZ,.fro (.sl .i),.fro .i,.fro (.sl .i)]
abbrev vX:List Go.Ab.RC:=[.i,.own (.int .u8),.i,.own (.int .u8),.i,.i,.i,.bool,.bool,.i]
abbrev J2:List Go.Ab.RC:=[.i,.own qZ,.mat,.own .i,.mat,.own .i,.mat,.own zJ,.own .i,.i,.bool]
abbrev qWa:List Go.Ab.RC:=[.i,.own jA,.i,.i,.i,.i,.own qZ,.mat,.own .i,.mat,.own .i,.mat,.own zJ,.own .i,.i,.bool,.i,.own yR]
abbrev J8:List Go.Ab.RC:=[.link 0,.i,.i,.i,.bool]
abbrev sV:List Go.Ab.RC:=[.link 1,.i,.fro jA,.i,.i,.i,.i,.fro qZ,.fro (.sl .i),.fro .i,.fro (.sl .i),.fro .i,.fro (.sl .i),.fro zJ,.fro .i,.i,.bool,.i,.bool]
abbrev Ca:List Go.Ab.RC:=[.link 1,.i,.i,.i,.bool]
abbrev yEr:List Go.Ab.RC:=[.link 2,.i,.fro jA,.i,.i,.i,.i,.fro qZ,.fro (.sl .i),.fro .i,.fro (.sl .i),.fro .i,.fro (.sl .i),.fro zJ,.fro .i,.i,.bool,.i,.bool]
abbrev sW:List Go.Ab.RC:=[.link 2,.i,.i,.i,.bool]
abbrev nT:List Go.Ab.RC:=[.own .i]
abbrev KH:List Go.Ab.XC:=[.link 1,.p .i,.p (.dat true jA),.p .i,.p .i,.p .i,.p .i,.p (.dat true qZ),.p (.dat true (.sl .i)),.p (.dat true .i),.p (.dat true (.sl .i)),.p (.dat true .i),.p (.dat true (.sl .i)),.p (.dat true zJ),.p (.dat true .i),.p .i,.p .bool,.p .i,.p .bool]
abbrev TR:List Go.Ab.XC:=[.link 1,.p .i,.p .i,.p .i,.p .bool]
abbrev KI:List Go.Ab.XC:=[.link 2,.p .i,.p .i,.p .i,.p .bool]
abbrev j0:List Go.Ab.XC:=[.p .i,.own (.int .u8),.p .i,.own (.int .u8),.p .i,.p .i,.p .i,.p .bool,.p .bool,.p .i]
abbrev sM:List Go.Ab.XC:=[.p .i,.p (.dat true jA),.p .i,.p .i,.p .i,.p .i,.p (.dat true qZ),.p (.dat true (.sl .i)),.p (.dat true .i),.p (.dat true (.sl .i)),.p (.dat true .i),.p (.dat true (.sl .i)),.p (.dat true zJ),.p (.dat true .i),.p .i,.p .bool,.p .i,.own yR]
abbrev sK:List Go.Ab.XC:=[.p .i,.p (.dat true jA),.p .i,.p .i,.p .i,.p .i,.p (.dat true qZ),.p (.dat true (.sl .i)),.p (.dat true .i),.p (.dat true (.sl .i)),.p (.dat true .i),.p (.dat true (.sl .i)),.p (.dat true zJ),.p (.dat true .i),.p .i,.p .bool,.p .i,.p (.nil)]
section
variable {A B C D E F G H I J K L M N O P Q R S U V W X Z a b Aa Ab Ac Ad Ae Af Ag Ah Ai Aj Ak Al Am An Ao Ap Aq Ar As At T Y:Type}
abbrev eV (x:A×B×C×D)(t:T):=(x.1,x.2.1,x.2.2.1,x.2.2.2,t)
abbrev eN (x:A×B×C×D×E)(t:T):=(x.1,eV x.2 t)
abbrev sS (x:A×B×C×D×E×F)(t:T):=(x.1,eN x.2 t)
abbrev kE (x:A×B×C×D×E×F×G)(t:T):=(x.1,sS x.2 t)
abbrev F1 (x:A×B×C×D×E×F×G×H)(t:T):=(x.1,kE x.2 t)
abbrev Ru (x:A×B×C×D×E×F×G×H×I)(t:T):=(x.1,F1 x.2 t)
abbrev fP (x:A×B×C×D×E×F×G×H×I×J)(t:T):=(x.1,Ru x.2 t)
abbrev eO (x:A×B×C×D×E×F×G×H×I×J×K)(t:T):=(x.1,fP x.2 t)
abbrev F6 (x:A×B×C×D×E×F×G×H×I×J×K×L)(t:T):=(x.1,eO x.2 t)
abbrev yP5 (x:A×B×C×D×E×F×G×H×I×J×K×L×M)(t:T):=(x.1,F6 x.2 t)
abbrev qXp (x:A×B×C×D×E×F×G×H×I×J×K×L×M×N)(t:T):=(x.1,yP5 x.2 t)
abbrev yO2 (x:A×B×C×D×E×F×G×H×I×J×K×L×M×N×O)(t:T):=(x.1,qXp x.2 t)
abbrev vG5 (x:A×B×C×D×E×F×G×H×I×J×K×L×M×N×O×P)(t:T):=(x.1,yO2 x.2 t)
abbrev yX (x:A×B×C×D×E×F×G×H×I×J×K×L×M×N×O×P×Q)(t:T):=(x.1,vG5 x.2 t)
abbrev wW (x:A×B×C×D×E×F×G×H×I×J×K×L×M×N×O×P×Q×R)(t:T):=(x.1,yX x.2 t)
abbrev vBv (x:A×B×C×D×E×F×G×H×I×J×K×L×M×N×O×P×Q×R×S)(t:T):=(x.1,wW x.2 t)
abbrev eT (x:A×B×C×D×E):=(x.1,x.2.1,x.2.2.1,x.2.2.2.1)
abbrev wD (x:A×B×C×D×E×F):=(x.1,eT x.2)
abbrev v9 (x:A×B×C×D×E×F×G):=(x.1,wD x.2)
abbrev dI (x:A×B×C×D×E×F×G×H):=(x.1,v9 x.2)
abbrev pM (x:A×B×C×D×E×F×G×H×I):=(x.1,dI x.2)
abbrev Rv (x:A×B×C×D×E×F×G×H×I×J):=(x.1,pM x.2)
abbrev eP (x:A×B×C×D×E×F×G×H×I×J×K):=(x.1,Rv x.2)
abbrev vK (x:A×B×C×D×E×F×G×H×I×J×K×L):=(x.1,eP x.2)
abbrev F7 (x:A×B×C×D×E×F×G×H×I×J×K×L×M):=(x.1,vK x.2)
abbrev yOc (x:A×B×C×D×E×F×G×H×I×J×K×L×M×N):=(x.1,F7 x.2)
abbrev yBu (x:A×B×C×D×E×F×G×H×I×J×K×L×M×N×O):=(x.1,yOc x.2)
abbrev yX4 (x:A×B×C×D×E×F×G×H×I×J×K×L×M×N×O×P):=(x.1,yBu x.2)
abbrev yN7 (x:A×B×C×D×E×F×G×H×I×J×K×L×M×N×O×P×Q):=(x.1,yX4 x.2)
abbrev gV (x:A×B×C×D×E×F×G×H×I×J×K×L×M×N×O×P×Q×R):=(x.1,yN7 x.2)
abbrev jR (x:A×B×C×D×E×F×G×H×I×J×K×L×M×N×O×P×Q×R×S):=(x.1,gV x.2)
abbrev yPx (x:A×B×C×D×E×F×G×H×I×J×K×L×M×N×O×P×Q×R×S×U):=(x.1,jR x.2)
abbrev jV (x:A×B×C×D×E)(t:T):=(x.1,x.2.1,x.2.2.1,x.2.2.2.1,t)
abbrev sU (x:A×B×C×D×E×F)(t:T):=(x.1,jV x.2 t)
abbrev fO (x:A×B×C×D×E×F×G)(t:T):=(x.1,sU x.2 t)
abbrev B8 (x:A×B×C×D×E×F×G×H)(t:T):=(x.1,fO x.2 t)
abbrev vEt (x:A×B×C×D×E×F×G×H×I)(t:T):=(x.1,B8 x.2 t)
abbrev UO (x:A×B×C×D×E×F×G×H×I×J)(t:T):=(x.1,vEt x.2 t)
abbrev vH7 (x:A×B×C×D×E×F×G×H×I×J×K)(t:T):=(x.1,UO x.2 t)
abbrev sP (x:A×B×C×D×E×F×G×H×I×J×K×L)(t:T):=(x.1,vH7 x.2 t)
abbrev mC (x:A×B×C×D×E×F×G×H×I×J×K×L×M)(t:T):=(x.1,sP x.2 t)
abbrev yO0 (x:A×B×C×D×E×F×G×H×I×J×K×L×M×N)(t:T):=(x.1,mC x.2 t)
abbrev Tb (x:A×B×C×D×E×F×G×H×I×J×K×L×M×N×O)(t:T):=(x.1,yO0 x.2 t)
abbrev yL8 (x:A×B×C×D×E×F×G×H×I×J×K×L×M×N×O×P)(t:T):=(x.1,Tb x.2 t)
abbrev ySp (x:A×B×C×D×E×F×G×H×I×J×K×L×M×N×O×P×Q)(t:T):=(x.1,yL8 x.2 t)
abbrev UP (x:A×B×C×D×E×F×G×H×I×J×K×L×M×N×O×P×Q×R)(t:T):=(x.1,ySp x.2 t)
abbrev jW (f:A→B→C→D→Y)(x:A×B×C×D×E):Y:=f x.1 x.2.1 x.2.2.1 x.2.2.2.1
abbrev nZ (f:A→B→C→D→E→Y)(x:A×B×C×D×E×F):Y:=jW (f x.1) x.2
abbrev nY (f:A→B→C→D→E→F→Y)(x:A×B×C×D×E×F×G):Y:=nZ (f x.1) x.2
abbrev sQ (f:A→B→C→D→E→F→G→Y)(x:A×B×C×D×E×F×G×H):Y:=nY (f x.1) x.2
abbrev mA (f:A→B→C→D→E→F→G→H→Y)(x:A×B×C×D×E×F×G×H×I):Y:=sQ (f x.1) x.2
abbrev R8 (f:A→B→C→D→E→F→G→H→I→Y)(x:A×B×C×D×E×F×G×H×I×J):Y:=mA (f x.1) x.2
abbrev yQt (f:A→B→C→D→E→F→G→H→I→J→Y)(x:A×B×C×D×E×F×G×H×I×J×K):Y:=R8 (f x.1) x.2
abbrev pN (f:A→B→C→D→E→F→G→H→I→J→K→Y)(x:A×B×C×D×E×F×G×H×I×J×K×L):Y:=yQt (f x.1) x.2
abbrev Ky (f:A→B→C→D→E→F→G→H→I→J→K→L→Y)(x:A×B×C×D×E×F×G×H×I×J×K×L×M):Y:=pN (f x.1) x.2
abbrev Sq (f:A→B→C→D→E→F→G→H→I→J→K→L→M→Y)(x:A×B×C×D×E×F×G×H×I×J×K×L×M×N):Y:=Ky (f x.1) x.2
abbrev F4 (f:A→B→C→D→E→F→G→H→I→J→K→L→M→N→Y)(x:A×B×C×D×E×F×G×H×I×J×K×L×M×N×O):Y:=Sq (f x.1) x.2
abbrev ySg (f:A→B→C→D→E→F→G→H→I→J→K→L→M→N→O→Y)(x:A×B×C×D×E×F×G×H×I×J×K×L×M×N×O×P):Y:=F4 (f x.1) x.2
abbrev yJn (f:A→B→C→D→E→F→G→H→I→J→K→L→M→N→O→P→Y)(x:A×B×C×D×E×F×G×H×I×J×K×L×M×N×O×P×Q):Y:=ySg (f x.1) x.2
abbrev yM5 (f:A→B→C→D→E→F→G→H→I→J→K→L→M→N→O→P→Q→Y)(x:A×B×C×D×E×F×G×H×I×J×K×L×M×N×O×P×Q×R):Y:=yJn (f x.1) x.2
abbrev vBr (f:A→B→C→D→E→F→G→H→I→J→K→L→M→N→O→P→Q→R→Y)(x:A×B×C×D×E×F×G×H×I×J×K×L×M×N×O×P×Q×R×S):Y:=yM5 (f x.1) x.2
abbrev yZv (f:A→B→C→D→E→F→G→H→I→J→K→L→M→N→O→P→Q→R→S→Y)(x:A×B×C×D×E×F×G×H×I×J×K×L×M×N×O×P×Q×R×S×U):Y:=vBr (f x.1) x.2
abbrev UQ (x:A×B×C×D×E×F×G×H×I×J×K×L×M×N×O×P×Q)(t:T):=eV x.2.2.2.2.2.2.2.2.2.2.2.2.2 t
abbrev yGx (x:A×B×C×D×E×F)(t:T):=eV x.2.2 t
abbrev yZ1 (x:A×B×C×D×E×F×G)(t:T):=eV x.2.2.2 t
abbrev yEl (x:A×B×C×D×E×F×G×H)(t:T):=eV x.2.2.2.2 t
abbrev vFi (x:A×B×C×D×E×F×G×H×I×J×K×L)(t:T):=eV x.2.2.2.2.2.2.2.2 t
abbrev yC5 (x:A×B×C×D×E×F×G×H×I×J×K×L×M×N×O×P×Q)(t:T):=eN x.2.2.2.2.2.2.2.2.2.2.2.2 t
abbrev Px (x:A×B×C×D×E×F×G×H×I×J×K×L×M×N×O×P×Q)(t:T):=sS x.2.2.2.2.2.2.2.2.2.2.2 t
abbrev vCg (x:A×B×C×D×E×F×G×H)(t:T):=sS x.2.2 t
abbrev UR (x:A×B×C×D×E×F×G×H×I×J×K×L×M×N×O×P×Q)(t:T):=kE x.2.2.2.2.2.2.2.2.2.2 t
abbrev SZ (x:A×B×C×D×E×F×G×H×I×J×K)(t:T):=kE x.2.2.2.2 t
abbrev yUo (x:A×B×C×D×E×F×G×H×I×J×K×L×M×N)(t:T):=kE x.2.2.2.2.2.2.2 t
abbrev yVg (x:A×B×C×D×E×F×G×H×I×J×K×L)(t:T):=eO x.2 t
abbrev Cc (x:A×B×C×D×E×F×G×H×I×J×K×L×M×N×O×P×Q×R)(t:T):=eO x.2.2.2.2.2.2.2 t
abbrev S6 (x:A×B×C×D×E×F×G×H×I×J×K×L×M×N×O×P×Q×R×S)(t:T):=wW x.2 t
abbrev yL5 (x:A×B×C×D×E×F×G×H×I×J×K×L×M×N×O×P×Q×R×S×U):=eT x.2.2.2.2.2.2.2.2.2.2.2.2.2.2.2
abbrev KB (x:A×B×C×D×E×F):=eT x.2
abbrev KJ (x:A×B×C×D×E×F×G×H×I×J×K×L×M×N×O×P×Q×R×S×U×V×W×X×Z×a):=eT x.2.2.2.2.2.2.2.2.2.2.2.2.2.2.2.2.2.2.2.2
abbrev Ur (x:A×B×C×D×E×F×G×H×I×J×K×L×M×N×O×P×Q×R×S×U×V×W×X×Z×a×b):=eT x.2.2.2.2.2.2.2.2.2.2.2.2.2.2.2.2.2.2.2.2.2
abbrev TS (x:A×B×C×D×E×F×G):=eT x.2.2
abbrev yVu (x:A×B×C×D×E×F×G×H×I×J×K×L×M×N×O×P×Q×R×S×U×V×W×X×Z×a×b×Aa×Ab×Ac×Ad×Ae×Af×Ag×Ah×Ai×Aj):=eT x.2.2.2.2.2.2.2.2.2.2.2.2.2.2.2.2.2.2.2.2.2.2.2.2.2.2.2.2.2.2.2
abbrev yRb (x:A×B×C×D×E×F×G×H×I×J×K×L×M×N×O×P×Q×R×S×U×V×W×X×Z×a×b×Aa×Ab×Ac×Ad×Ae×Af×Ag×Ah×Ai×Aj×Ak):=eT x.2.2.2.2.2.2.2.2.2.2.2.2.2.2.2.2.2.2.2.2.2.2.2.2.2.2.2.2.2.2.2.2
abbrev qT6 (x:A×B×C×D×E×F×G×H×I×J×K×L×M×N×O×P×Q×R×S×U×V×W×X×Z×a):=v9 x.2.2.2.2.2.2.2.2.2.2.2.2.2.2.2.2.2.2
abbrev B4 (x:A×B×C×D×E×F×G×H×I×J×K×L×M×N×O×P×Q×R×S×U×V×W×X×Z×a×b):=dI x.2.2.2.2.2.2.2.2.2.2.2.2.2.2.2.2.2.2
abbrev Rr (x:A×B×C×D×E×F×G×H×I):=dI x.2
abbrev qYi (x:A×B×C×D×E×F×G×H×I×J×K×L×M×N):=dI x.2.2.2.2.2.2
abbrev yNa (x:A×B×C×D×E×F×G×H×I×J×K×L×M×N×O):=dI x.2.2.2.2.2.2.2
abbrev qP3 (x:A×B×C×D×E×F×G×H×I×J×K×L×M×N×O×P×Q×R×S×U×V×W×X×Z×a):=pM x.2.2.2.2.2.2.2.2.2.2.2.2.2.2.2.2
abbrev BZ (x:A×B×C×D×E×F×G×H×I×J×K×L):=eP x.2
abbrev KK (x:A×B×C×D×E×F×G×H×I×J×K×L×M×N×O×P×Q×R×S×U×V×W×X×Z×a×b×Aa×Ab×Ac×Ad×Ae×Af×Ag×Ah×Ai):=eP x.2.2.2.2.2.2.2.2.2.2.2.2.2.2.2.2.2.2.2.2.2.2.2.2
abbrev Us (x:A×B×C×D×E×F×G×H×I×J×K×L×M×N×O×P×Q×R×S×U×V×W×X×Z×a×b×Aa×Ab×Ac×Ad×Ae×Af×Ag×Ah×Ai×Aj):=eP x.2.2.2.2.2.2.2.2.2.2.2.2.2.2.2.2.2.2.2.2.2.2.2.2.2
abbrev yA1 (x:A×B×C×D×E×F×G×H×I×J×K×L×M):=eP x.2.2
abbrev yOu (x:A×B×C×D×E×F×G×H×I×J×K×L×M×N×O×P×Q×R×S×U×V×W×X×Z×a×b×Aa×Ab×Ac×Ad×Ae×Af×Ag×Ah×Ai×Aj×Ak×Al×Am×An×Ao×Ap×Aq×Ar×As×At):=eP x.2.2.2.2.2.2.2.2.2.2.2.2.2.2.2.2.2.2.2.2.2.2.2.2.2.2.2.2.2.2.2.2.2.2.2
abbrev yDl (x:A×B×C×D×E×F×G×H×I×J×K×L×M×N×O):=eP x.2.2.2.2
abbrev KC (x:A×B×C×D×E×F×G×H×I×J×K×L×M×N×O×P):=eP x.2.2.2.2.2
abbrev TT (x:A×B×C×D×E×F×G×H×I×J×K×L×M×N×O×P×Q):=eP x.2.2.2.2.2.2
abbrev yPb (x:A×B×C×D×E×F×G×H×I×J×K×L×M×N×O×P×Q×R×S×U×V×W×X):=vK x.2.2.2.2.2.2.2.2.2.2.2
abbrev nR (x:A×B×C×D×E×F×G×H×I×J×K×L×M×N×O×P×Q):=vK x.2.2.2.2.2
abbrev yY6 (x:A×B×C×D×E×F×G×H×I×J×K×L×M×N×O×P×Q×R×S):=vK x.2.2.2.2.2.2.2
abbrev vDj (x:A×B×C×D×E×F×G×H×I×J×K×L×M×N×O×P×Q×R×S×U×V×W×X×Z×a×b×Aa×Ab×Ac×Ad×Ae):=jR x.2.2.2.2.2.2.2.2.2.2.2.2
abbrev vEx (x:A×B×C×D×E×F×G×H×I×J×K×L×M×N×O×P×Q×R×S×U×V×W×X×Z×a×b×Aa×Ab×Ac×Ad×Ae×Af):=jR x.2.2.2.2.2.2.2.2.2.2.2.2.2
abbrev fQ (x:A×B×C×D×E×F×G×H×I×J×K×L×M×N×O×P×Q×R×S×U):=jR x.2
abbrev Uq (x:A×B×C×D×E×F×G×H×I×J×K×L×M×N×O×P×Q×R×S×U×V):=jR x.2.2
abbrev KS (x:A×B×C×D×E×F×G×H×I×J×K×L×M×N×O)(t:T):=jV x.2.2.2.2.2.2.2.2.2.2 t
abbrev lI (x:A×B×C×D×E×F)(t:T):=jV x.2 t
abbrev Q9 (x:A×B×C×D×E×F×G)(t:T):=jV x.2.2 t
abbrev yNb (x:A×B×C×D×E×F×G×H×I×J)(t:T):=jV x.2.2.2.2.2 t
abbrev yN5 (x:A×B×C×D×E×F×G×H×I)(t:T):=B8 x.2 t
abbrev vE2 (x:A×B×C×D×E×F×G×H×I×J×K×L×M×N×O×P×Q)(t:T):=sP x.2.2.2.2.2 t
abbrev ySc (x:A×B×C×D×E×F×G×H×I×J×K×L×M×N×O×P×Q×R×S×U×V)(t:T):=Tb x.2.2.2.2.2.2 t
abbrev JD (x:A×B×C×D×E×F×G×H×I×J×K×L×M×N×O×P×Q×R×S)(t:T):=UP x.2 t
end
def kD (k:Nat)(a0:Int):Option wN:=
 bif decide ((gO .i64 a0 3)=1) then some (4,[(100,1000),(7,0)],12,20,100)
 else bif decide ((gO .i64 a0 3)=2) then some (3,[],20,20,4)
 else bif decide ((gO .i64 a0 3)=3) then some (3,[(100,1000),(7,0)],0,6,1)
 else some (3,[(100,1000),(7,0)],12,20,4)
def BW (k:Nat)(a0:Int):Option (vJ⊕Unit):=
 bif decide (a0<0) then some (.inr ())
 else bif decide (a0>200000) then some (.inr ())
 else some (.inl (a0,[],0,[],0,0,0,false,false,0))
def nS (k:Nat)(a0 a1 a2:Int):Option Bool:=
 bif decide (a0≥a1) then some (decide (a0≤a2))
 else some false
def yAg (k:Nat)(a0:wQ):Option Bool:=
 (nS k a0.1 0 1048576).bind fun x0=>
 bif !x0 then some true
 else(nS k a0.2 0 10000).bind fun x1=>
 some (!x1)
abbrev Qc:Type:=List wQ→Int→Int→Option (Unit⊕Int)
def qR8 (k:Nat)(rec:Qc)(s0:List wQ)(s7 s8:Int):Option (Unit⊕Int):=
 bif decide (s8 < s7) then (bif zD s8 s0.length then ((yAg k (s0.getD s8.toNat (0,0))).bind fun x0=>
   bif x0 then some (.inr s8)
   else rec s0 s7 (zA (s8+1)))
  else none)
 else some (.inl ())
def Qe (k:Nat):Nat→Qc:=vT (fun _ _ _=>none) (qR8 k)
def qZi (k:Nat)(a0:List wQ):Option Int:=
 (Qe k k a0 (a0.length:Int) 0).bind fun z=>
 match z with
 |.inl z1=>some (-1)
 |.inr z2=>some z2
def yJl (k:Nat)(a0:List wQ):Option Bool:=
 (qZi k a0).bind fun x0=>
 some (decide (x0≥0))
def lD (k:Nat)(a0:wN):Option Bool:=
 (nS k a0.1 1 6).bind fun x0=>
 bif x0 then ((nS k a0.2.2.2.1 1 1048576).bind fun x1=>
  bif x1 then ((nS k a0.2.2.1 0 a0.2.2.2.1).bind fun x2=>
   bif x2 then ((nS k a0.2.2.2.2 1 1048576).bind fun x3=>
    bif decide ((a0.2.1.length : Int) ≤ 3) then (bif x3 then ((yJl k a0.2.1).bind fun x4=>
      some (!x4))
     else some false)
    else some false)
   else bif decide ((a0.2.1.length:Int)≤3) then some false
   else some false)
  else bif decide ((a0.2.1.length:Int)≤3) then some false
  else some false)
 else(nS k a0.2.2.2.1 1 1048576).bind fun x5=>
 bif x5 then ((nS k a0.2.2.1 0 a0.2.2.2.1).bind fun x6=>
  bif x6 then ((nS k a0.2.2.2.2 1 1048576).bind fun x7=>
   some false)
  else some false)
 else some false
def JY (k:Nat)(a0:Int):Option Bool:=
 bif decide (a0≥0) then some (decide (a0<2))
 else some false
def vr (k:Nat)(a0:AC):Option AC:=
 bif zY (0+a0.length) 1 then some a0
 else none
def PY (k:Nat)(a0:vJ)(a1:Int):Option AC:=
 (JY k a1).bind fun x0=>
 bif !x0 then some []
 else bif decide (a1 = 0) then ((vr k a0.2.1).bind fun x1=>
  some x1)
 else bif decide (a1 = 1) then ((vr k a0.2.2.2.1).bind fun x2=>
  some x2)
 else none
abbrev Qi:Type:=AC×EQ
abbrev Qg:Type:=AC→EQ→Option Qi
def yw (k:Nat)(rec:Qg)(s0:AC)(r0:EQ):Option Qi:=
 bif decide ((s0.length : Int) ≥ 2) then (bif zD 0 s0.length then (bif zD 1 s0.length then (bif decide ((fI .i64 (shl .i64 (zA ((s0.getD 0 0))) 8) (zA ((s0.getD 1 0))))>60000) then some (s0,r0)
    else bif decide ((fI .i64 (shl .i64 (zA ((s0.getD 0 0))) 8) (zA ((s0.getD 1 0))))>(zA ((s0.length:Int)-2))) then some (s0,r0)
    else bif (decide (2 ≤ (zA (2 + (fI .i64 (shl .i64 (zA ((s0.getD 0 0))) 8) (zA ((s0.getD 1 0)))))))) && (decide ((zA (2 + (fI .i64 (shl .i64 (zA ((s0.getD 0 0))) 8) (zA ((s0.getD 1 0)))))) ≤ (s0.length : Int))) then (bif zY (0 + (qQ s0 2 ((zA (2 + (fI .i64 (shl .i64 (zA ((s0.getD 0 0))) 8) (zA ((s0.getD 1 0)))))).toNat - 2)).length) 1 then (let y0:AC:=(qQ s0 2 ((zA (2+(fI .i64 (shl .i64 (zA ((s0.getD 0 0))) 8) (zA ((s0.getD 1 0)))))).toNat-2))
      bif zY (r0.length + 1) 24 then (bif (decide (0≤(zA (2+(fI .i64 (shl .i64 (zA ((s0.getD 0 0))) 8) (zA ((s0.getD 1 0))))))))&&(decide ((zA (2+(fI .i64 (shl .i64 (zA ((s0.getD 0 0))) 8) (zA ((s0.getD 1 0))))))≤(s0.length:Int))) then(rec (List.drop (zA (2+(fI .i64 (shl .i64 (zA ((s0.getD 0 0))) 8) (zA ((s0.getD 1 0)))))).toNat s0) (r0++[y0]))
       else none)
      else none)
     else none)
    else none)
   else none)
  else none)
 else some (s0,r0)
def yv (k:Nat):Nat→Qg:=vT (fun _ _=>none) (yw k)
def DZ (k:Nat)(a0:AC):Option (EQ×Int):=
 (yv k k a0 []).bind fun z=>
 some (z.2,(z.1.length:Int))
abbrev Ql:Type:=AC×Int×AC
abbrev Qj:Type:=AC→Int→AC→Int→Int→AC→Option Ql
def HV (k:Nat)(rec:Qj)(s0:AC)(s5:Int)(bF:AC)(aR gD:Int)(r0:AC):Option Ql:=
 bif decide (gD < aR) then (bif zD gD bF.length then(rec s0 (fI .u64 (shl .u64 s5 8) (IntKind.wrap .u64 ((bF.getD gD.toNat 0)))) bF aR (zA (gD+1)) r0)
  else none)
 else some (s0,s5,r0)
def yk (k:Nat):Nat→Qj:=vT (fun _ _ _ _ _ _=>none) (HV k)
def ym (k:Nat)(rec:AC→AC→Option AC)(s0 r0:AC):Option AC:=
 bif decide ((s0.length : Int) > 0) then (bif decide (8 ≤ (s0.length : Int)) then ((yk k k s0 0 (List.take 8 s0) ((List.take 8 s0).length:Int) 0 r0).bind fun z=>
   bif zY (z.2.2.length + 1) 8 then (bif decide (8≤(z.1.length:Int)) then(rec (List.drop 8 z.1) (z.2.2++[(zA (z.2.1))]))
    else none)
   else none)
  else none)
 else some r0
def yl (k:Nat):Nat→AC→AC→Option AC:=vT (fun _ _=>none) (ym k)
def l9 (k:Nat)(a0:AC):Option (AC×Int):=
 bif !(decide ((Int.tmod (a0.length:Int) 8)=0)) then some ([],2)
 else(yl k k a0 []).bind fun z1=>
 some (z1,0)
def sF (k:Nat)(a0:vJ)(a1:Int):Option (Int×AC×EQ):=
 (PY k a0 a1).bind fun x0=>
 (DZ k x0).bind fun x1=>
 bif decide ((x1.1.length:Int)=0) then some (0,[],[])
 else bif zD 0 x1.1.length then (bif decide (((x1.1.getD 0 []).length:Int)<8) then some (0,[],[])
  else bif zD 0 x1.1.length then (bif decide (8 ≤ ((x1.1.getD 0 []).length : Int)) then ((l9 k (List.take 8 (x1.1.getD 0 []))).bind fun x2=>
    bif zD 0 x2.1.length then (bif decide ((x2.1.getD 0 0)<1) then some (0,[],[])
     else bif zD 0 x2.1.length then (bif decide ((x2.1.getD 0 0)>4611686018427387904) then some (0,[],[])
      else bif zD 0 x2.1.length then (bif zD 0 x1.1.length then (bif decide (8 ≤ ((x1.1.getD 0 []).length : Int)) then (bif decide (1≤(x1.1.length:Int)) then some ((x2.1.getD 0 0),(List.drop 8 (x1.1.getD 0 [])),(qQ x1.1 1 (x1.1.length-1)))
         else none)
        else none)
       else none)
      else none)
     else none)
    else none)
   else none)
  else none)
 else none
def BM (k:Nat)(a0:vJ):Option (Int×Int×AC×EQ×Bool):=
 (sF k a0 0).bind fun x0=>
 bif decide (x0.1 > 0) then ((sF k a0 1).bind fun x1=>
  bif decide (x1.1>x0.1) then some (x1.1,1,x1.2.1,x1.2.2,true)
  else some (x0.1,0,x0.2.1,x0.2.2,true))
 else(sF k a0 1).bind fun x2=>
 bif decide (x2.1>0) then some (x2.1,1,x2.2.1,x2.2.2,true)
 else some (0,0,[],[],false)
def Ey (k:Nat)(a0:Int):Option Bool:=
 bif decide (a0≥0) then some (decide (a0≤6))
 else some false
abbrev Qp:Type:=Int→Int→Int→AC→Option AC
def zr (k:Nat)(rec:Qp)(s1 bm bq:Int)(r0:AC):Option AC:=
 bif decide (bq < bm) then (bif zD bq r0.length then(rec s1 bm (zA (bq+1)) (r0.set bq.toNat s1))
  else none)
 else some r0
def Ez (k:Nat):Nat→Qp
 |0,_,_,_,_=>none
 |n+1,s1,bm,bq,r0=>zr k (Ez k n) s1 bm bq r0
def uD (k:Nat)(a0 a1:Int):Option AC:=
 (Ey k a0).bind fun x0=>
 bif !x0 then some []
 else bif ub a0 a0 8 then ((Ez k k a1 ((List.replicate a0.toNat (0:Int)).length:Int) 0 (List.replicate a0.toNat (0:Int))).bind fun z=>
  some z)
 else none
abbrev Qr:Type:=Int→Int→Int→Int→EQ→Option EQ
def zu (k:Nat)(rec:Qr)(s0 s1 bm bq:Int)(m0:EQ):Option EQ:=
 bif decide (bq < bm) then ((uD k s0 s1).bind fun x1=>
  bif zD bq m0.length then(rec s0 s1 bm (zA (bq+1)) (m0.set bq.toNat x1))
  else none)
 else some m0
def EA (k:Nat):Nat→Qr
 |0,_,_,_,_,_=>none
 |n+1,s0,s1,bm,bq,m0=>zu k (EA k n) s0 s1 bm bq m0
def zt (k:Nat)(a0 a1:Int):Option EQ:=
 (Ey k a0).bind fun x0=>
 bif !x0 then some []
 else bif ub a0 a0 24 then ((EA k k a0 a1 ((List.replicate a0.toNat ([]:AC)).length:Int) 0 (List.replicate a0.toNat ([]:AC))).bind fun z=>
  some z)
 else none
abbrev Qu:Type:=Int×wN×dJ×dJ×(List zM)×EQ×AC×EQ×AC
abbrev Qt:Type:=Int→List wQ→Int→Int→wN→dJ→dJ→List zM→EQ→AC→EQ→AC→Option Qu
def qZb (k:Nat)(rec:Qt)(s3:Int)(bV:List wQ)(s21 KT:Int)(b0:wN)(b1 b2:dJ)(r3:List zM)(m4:EQ)(r5:AC)(m6:EQ)(r7:AC):Option Qu:=
 bif decide (KT < s21) then (bif zD KT bV.length then (bif zY (r7.length+1) 8 then(rec s3 bV s21 (zA (KT+1)) b0 b1 b2 r3 m4 r5 m6 (r7++[(bV.getD KT.toNat (0,0)).1]))
   else none)
  else none)
 else some (s3,b0,b1,b2,r3,m4,r5,m6,r7)
def Qv (k:Nat):Nat→Qt:=vT (fun _ _ _ _ _ _ _ _ _ _ _ _=>none) (qZb k)
abbrev Qx:Type:=dJ×dJ×(List zM)×EQ×AC×EQ×AC×EQ
abbrev Qw:Type:=Int→Int→wN→dJ→dJ→List zM→EQ→AC→EQ→AC→EQ→Option Qx
def yBx (k:Nat)(rec:Qw)(wb n9:Int)(b0:wN)(b1 b2:dJ)(r3:List zM)(m4:EQ)(r5:AC)(m6:EQ)(r7:AC)(m8:EQ):Option Qx:=
 bif decide (n9 < wb) then (bif ub (b0.2.1.length : Int) (b0.2.1.length : Int) 8 then (bif zY (m8.length+1) 24 then(rec wb (zA (n9+1)) b0 b1 b2 r3 m4 r5 m6 r7 (m8++[(List.replicate b0.2.1.length (0:Int))]))
   else none)
  else none)
 else some (b1,b2,r3,m4,r5,m6,r7,m8)
def Qy (k:Nat):Nat→Qw:=vT (fun _ _ _ _ _ _ _ _ _ _ _=>none) (yBx k)
def iL (k:Nat)(a0:wN):Option wF:=
 bif ub a0.1 a0.1 24 then ((zt k a0.1 (-1)).bind fun x0=>
  (uD k a0.1 (-1)).bind fun x1=>
  (zt k a0.1 0).bind fun x2=>
  (Qv k k a0.1 a0.2.1 (a0.2.1.length:Int) 0 a0 (0,0,false) (0,0,false) (List.replicate a0.1.toNat ((0,0,0):Int×Int×Int)) x0 x1 x2 []).bind fun z=>
  (Qy k k z.1 0 z.2.1 z.2.2.1 z.2.2.2.1 z.2.2.2.2.1 z.2.2.2.2.2.1 z.2.2.2.2.2.2.1 z.2.2.2.2.2.2.2.1 z.2.2.2.2.2.2.2.2 []).bind fun z1=>
  some (z1.2.1.1,(vCg z1 ([],[],z1.2.1.2))))
 else none
def H0 (k:Nat)(a0:Bool):Option Int:=
 bif a0 then some 1
 else some 0
abbrev QD:Type:=AC×Int×Int×AC
abbrev QB:Type:=Int→Int→AC→Int→Int→AC→Option QD
def HX (k:Nat)(rec:QB)(s5 s6:Int)(bJ:AC)(bU bm:Int)(r0:AC):Option QD:=
 bif decide (s6 ≥ 0) then (bif !(decide ((zA (8 * s6)) < 0)) then (bif zY (r0.length+1) 1 then(rec s5 (zA (s6-1)) bJ bU bm (r0++[(IntKind.wrap .u8 ((shr .i64 s5 (zA (8*s6)))))]))
   else none)
  else none)
 else some (bJ,bU,bm,r0)
def rR (k:Nat):Nat→QB:=vT (fun _ _ _ _ _ _=>none) (HX k)
abbrev QE:Type:=AC→Int→Int→AC→Option AC
def yp (k:Nat)(rec:QE)(bJ:AC)(bU bm:Int)(r0:AC):Option AC:=
 bif decide (bm < bU) then (bif zD bm bJ.length then ((rR k k (bJ.getD bm.toNat 0) 7 bJ bU bm r0).bind fun z=>
   rec z.1 z.2.1 (zA (z.2.2.1+1)) z.2.2.2)
  else none)
 else some r0
def uv (k:Nat):Nat→QE:=vT (fun _ _ _ _=>none) (yp k)
def rS (k:Nat)(a0:AC):Option AC:=
 bif ub 0 (zA (8 * (a0.length : Int))) 1 then ((uv k k a0 (a0.length:Int) 0 []).bind fun z1=>
  some z1)
 else none
def HY (k:Nat)(a0:AC):Option AC:=
 (rS k [(a0.length:Int)]).bind fun x0=>
 (rS k a0).bind fun x1=>
 bif zY (x0.length+x1.length) 1 then some (x0++x1)
 else none
abbrev QH:Type:=EQ→Int→Int→AC→Option AC
def yr (k:Nat)(rec:QH)(s6:EQ)(s7 s8:Int)(r0:AC):Option AC:=
 bif decide (s8 < s7) then (bif zD s8 s6.length then ((HY k (s6.getD s8.toNat [])).bind fun x0=>
   bif zY (r0.length+x0.length) 1 then(rec s6 s7 (zA (s8+1)) (r0++x0))
   else none)
  else none)
 else some r0
def yq (k:Nat):Nat→QH:=vT (fun _ _ _ _=>none) (yr k)
def DY (k:Nat)(a0:EQ):Option AC:=
 (yq k k a0 (a0.length:Int) 0 []).bind fun z=>
 some z
abbrev QL:Type:=wF×KR×EQ
abbrev QK:Type:=List zM→Int→Int→wF→KR→EQ→Option QL
def yt (k:Nat)(rec:QK)(gY:List zM)(dL fq:Int)(b0:wF)(b1:KR)(r2:EQ):Option QL:=
 bif decide (fq < dL) then (bif zD fq gY.length then (bif zY (r2.length + 1) 24 then (let y0:EQ:=(r2++[[(gY.getD fq.toNat (0,0,0)).1,(gY.getD fq.toNat (0,0,0)).2.1,(gY.getD fq.toNat (0,0,0)).2.2]])
    rec gY dL (zA (fq+1)) b0 b1 y0)
   else none)
  else none)
 else some (b0,b1,r2)
def uw (k:Nat):Nat→QK:=vT (fun _ _ _ _ _ _=>none) (yt k)
abbrev QN:Type:=wF×EQ
abbrev QM:Type:=List zE→Int→Int→wF→EQ→Option QN
def yu (k:Nat)(rec:QM)(pO:List zE)(s80 oc:Int)(b0:wF)(r1:EQ):Option QN:=
 bif decide (oc < s80) then (bif zD oc pO.length then (bif zY (r1.length + 1) 24 then (let y3:EQ:=(r1++[[(pO.getD oc.toNat (0,0,0,0,0,0,0)).1,(pO.getD oc.toNat (0,0,0,0,0,0,0)).2.1,(pO.getD oc.toNat (0,0,0,0,0,0,0)).2.2.1,(pO.getD oc.toNat (0,0,0,0,0,0,0)).2.2.2.1,(pO.getD oc.toNat (0,0,0,0,0,0,0)).2.2.2.2.1,(pO.getD oc.toNat (0,0,0,0,0,0,0)).2.2.2.2.2.1,(pO.getD oc.toNat (0,0,0,0,0,0,0)).2.2.2.2.2.2]])
    rec pO s80 (zA (oc+1)) b0 y3)
   else none)
  else none)
 else some (b0,r1)
def ux (k:Nat):Nat→QM:=vT (fun _ _ _ _ _=>none) (yu k)
def fh (k:Nat)(a0:wF):Option AC:=
 (H0 k a0.2.2.2.2.2.2.2.2.2.2).bind fun x0=>
 (uw k k a0.2.1 (a0.2.1.length:Int) 0 a0 (KB a0) [[a0.1,a0.2.2.2.2.2.2.2.2.2.1,x0,(a0.2.1.length:Int),(a0.2.2.1.length:Int),(a0.2.2.2.1.length:Int),(a0.2.2.2.2.1.length:Int),(a0.2.2.2.2.2.2.1.length:Int),(a0.2.2.2.2.2.2.2.1.length:Int)]]).bind fun z=>
 bif zY (z.2.2.length + z.2.1.2.1.length) 24 then (bif zY ((z.2.2 ++ z.2.1.2.1).length + 1) 24 then (let y1:EQ:=((z.2.2++z.2.1.2.1)++[z.2.1.2.2.1])
   bif zY (y1.length + z.2.1.2.2.2.length) 24 then (bif zY ((y1 ++ z.2.1.2.2.2).length + 1) 24 then (let y2:EQ:=((y1++z.2.1.2.2.2)++[z.1.2.2.2.2.2.1])
     bif zY (y2.length + z.1.2.2.2.2.2.2.1.length) 24 then ((ux k k z.1.2.2.2.2.2.2.2.1 (z.1.2.2.2.2.2.2.2.1.length:Int) 0 z.1 (y2++z.1.2.2.2.2.2.2.1)).bind fun z1=>
      bif zY (z1.2.length + 1) 24 then (let y4:EQ:=(z1.2++[z1.1.2.2.2.2.2.2.2.2.1])
       (DY k y4).bind fun x1=>
       some x1)
      else none)
     else none)
    else none)
   else none)
  else none)
 else none
def DX (k:Nat)(a0:AC):Option gW:=
 bif decide ((a0.length:Int)>60000) then some ([],false)
 else bif zY (2+a0.length) 1 then some (([(IntKind.wrap .u8 ((shr .i64 (a0.length:Int) 8))),(IntKind.wrap .u8 ((a0.length:Int)))]++a0),true)
 else none
def PW (k:Nat)(a0:vJ):Option Int:=
 some a0.1
def J7 (k:Nat)(a0:vJ):Option Bool:=
 some a0.2.2.2.2.2.2.2.2.1
def gz (k:Nat)(a0:vJ):Option (Bool×vJ):=
 bif !a0.2.2.2.2.2.2.2.1 then some (false,(UO a0 (zA (a0.2.2.2.2.2.2.2.2.2+1))))
 else bif decide (a0.2.2.2.2.2.2.2.2.2<a0.2.2.2.2.2.1) then some (false,(UO a0 (zA (a0.2.2.2.2.2.2.2.2.2+1))))
 else bif (decide (0 ≤ (zA (a0.2.2.1 + (vP true (vP false a0.2.2.2.2.2.2.1 0) (zA ((a0.2.1.length : Int) - a0.2.2.1))))))) && (decide ((zA (a0.2.2.1 + (vP true (vP false a0.2.2.2.2.2.2.1 0) (zA ((a0.2.1.length : Int) - a0.2.2.1))))) ≤ (a0.2.1.length : Int))) then (bif (decide (0≤(zA (a0.2.2.2.2.1+(vP true (zA ((vP false a0.2.2.2.2.2.2.1 0)-(vP true (vP false a0.2.2.2.2.2.2.1 0) (zA ((a0.2.1.length:Int)-a0.2.2.1))))) (zA ((a0.2.2.2.1.length:Int)-a0.2.2.2.2.1)))))))&&(decide ((zA (a0.2.2.2.2.1+(vP true (zA ((vP false a0.2.2.2.2.2.2.1 0)-(vP true (vP false a0.2.2.2.2.2.2.1 0) (zA ((a0.2.1.length:Int)-a0.2.2.1))))) (zA ((a0.2.2.2.1.length:Int)-a0.2.2.2.2.1)))))≤(a0.2.2.2.1.length:Int))) then some (true,a0.1,(List.take ((zA (a0.2.2.1+(vP true (vP false a0.2.2.2.2.2.2.1 0) (zA ((a0.2.1.length:Int)-a0.2.2.1))))).toNat-0) a0.2.1),(zA (a0.2.2.1+(vP true (vP false a0.2.2.2.2.2.2.1 0) (zA ((a0.2.1.length:Int)-a0.2.2.1))))),(List.take ((zA (a0.2.2.2.2.1+(vP true (zA ((vP false a0.2.2.2.2.2.2.1 0)-(vP true (vP false a0.2.2.2.2.2.2.1 0) (zA ((a0.2.1.length:Int)-a0.2.2.1))))) (zA ((a0.2.2.2.1.length:Int)-a0.2.2.2.2.1))))).toNat-0) a0.2.2.2.1),(zA (a0.2.2.2.2.1+(vP true (zA ((vP false a0.2.2.2.2.2.2.1 0)-(vP true (vP false a0.2.2.2.2.2.2.1 0) (zA ((a0.2.1.length:Int)-a0.2.2.1))))) (zA ((a0.2.2.2.1.length:Int)-a0.2.2.2.2.1))))),a0.2.2.2.2.2.1,a0.2.2.2.2.2.2.1,a0.2.2.2.2.2.2.2.1,true,a0.2.2.2.2.2.2.2.2.2)
  else none)
 else none
def JK (k:Nat)(a0:vJ)(a1:Int):Option (Int×vJ):=
 (J7 k a0).bind fun x0=>
 bif x0 then some (11,a0)
 else(JY k a1).bind fun x1=>
 bif !x1 then some (1,a0)
 else(gz k a0).bind fun x2=>
 bif x2.1 then some (11,x2.2)
 else bif decide (a1 = 0) then (bif decide (a1=0) then some (0,x2.2.1,[],0,x2.2.2.2.2)
  else bif decide (a1=1) then some (0,x2.2.1,[],x2.2.2.2.1,x2.2.2.2.2.1,0,x2.2.2.2.2.2.2)
  else none)
 else bif decide (a1 = 1) then (bif decide (a1=0) then some (0,x2.2.1,x2.2.2.1,0,[],x2.2.2.2.2.2)
  else bif decide (a1=1) then some (0,x2.2.1,x2.2.2.1,x2.2.2.2.1,[],0,x2.2.2.2.2.2.2)
  else none)
 else none
def sE (k:Nat)(a0:vJ)(a1:Int)(a2:AC):Option (Int×vJ):=
 (J7 k a0).bind fun x0=>
 bif x0 then some (11,a0)
 else(JY k a1).bind fun x1=>
 bif !x1 then some (1,a0)
 else bif decide (a1 = 0) then (bif decide ((a2.length:Int)>(zA (a0.1-(a0.2.1.length:Int)))) then some (3,a0)
  else(gz k a0).bind fun x2=>
  bif x2.1 then some (11,x2.2)
  else bif decide (a1 = 0) then (bif zY (x2.2.2.1.length+a2.length) 1 then some (0,x2.2.1,(x2.2.2.1++a2),x2.2.2.2)
   else none)
  else bif decide (a1 = 1) then (bif zY (x2.2.2.2.2.1.length+a2.length) 1 then some (0,x2.2.1,x2.2.2.1,x2.2.2.2.1,(x2.2.2.2.2.1++a2),x2.2.2.2.2.2)
   else none)
  else none)
 else bif decide (a1 = 1) then (bif decide ((a2.length:Int)>(zA (a0.1-(a0.2.2.2.1.length:Int)))) then some (3,a0)
  else(gz k a0).bind fun x3=>
  bif x3.1 then some (11,x3.2)
  else bif decide (a1 = 0) then (bif zY (x3.2.2.1.length+a2.length) 1 then some (0,x3.2.1,(x3.2.2.1++a2),x3.2.2.2)
   else none)
  else bif decide (a1 = 1) then (bif zY (x3.2.2.2.2.1.length+a2.length) 1 then some (0,x3.2.1,x3.2.2.1,x3.2.2.2.1,(x3.2.2.2.2.1++a2),x3.2.2.2.2.2)
   else none)
  else none)
 else none
def pI (k:Nat)(a0:vJ):Option (Int×vJ):=
 (J7 k a0).bind fun x0=>
 bif x0 then some (11,a0)
 else(gz k a0).bind fun x1=>
 bif x1.1 then some (11,x1.2)
 else some (0,x1.2.1,x1.2.2.1,(x1.2.2.1.length:Int),x1.2.2.2.2.1,(x1.2.2.2.2.1.length:Int),x1.2.2.2.2.2.2)
def FN (k:Nat)(a0:vJ)(a1 a2:Int)(a3:AC):Option (Int×vJ):=
 (rS k [a2]).bind fun x0=>
 bif zY (x0.length + a3.length) 1 then ((DX k (x0++a3)).bind fun x1=>
  bif !x1.2 then some (10,a0)
  else bif decide (a2>4611686018427387904) then some (10,a0)
  else(PW k a0).bind fun x2=>
  bif decide ((x1.1.length:Int)>x2) then some (10,a0)
  else(JK k a0 a1).bind fun x3=>
  bif !(decide (x3.1=0)) then some (x3.1,x3.2)
  else(sE k x3.2 a1 x1.1).bind fun x4=>
  bif !(decide (x4.1=0)) then some (x4.1,x4.2)
  else(pI k x4.2).bind fun x5=>
  some (x5.1,x5.2))
 else none
def vt (k:Nat)(a0:vJ)(a1:AC):Option ((AC×EQ×Int×vJ×dK)⊕(AC×EQ×Int×vJ)):=
 (BM k a0).bind fun x0=>
 bif x0.2.2.2.2 then some (.inl (x0.2.2.1,x0.2.2.2.1,0,a0,x0.2.1,x0.1,(x0.2.2.2.1.length:Int),true))
 else(FN k a0 0 1 a1).bind fun x1=>
 bif !(decide (x1.1=0)) then some (.inr ([],[],x1.1,x1.2))
 else bif zY (0+a1.length) 1 then some (.inl (a1,[],0,x1.2,0,1,0,false))
 else none
def H2 (k:Nat)(a0:AC):Option (AC×AC×Bool):=
 bif decide ((a0.length:Int)<8) then some ([],[],false)
 else bif decide (8 ≤ (a0.length : Int)) then ((l9 k (List.take 8 a0)).bind fun x0=>
  bif decide (8 ≤ (a0.length : Int)) then (bif zD 0 x0.1.length then (bif decide ((x0.1.getD 0 0)<0) then some ([],[],false)
    else bif zD 0 x0.1.length then (bif decide ((x0.1.getD 0 0)>(zA (Int.tdiv ((List.drop 8 a0).length:Int) 8))) then some ([],[],false)
     else bif zD 0 x0.1.length then (bif (decide (0 ≤ (zA (8 * (x0.1.getD 0 0))))) && (decide ((zA (8 * (x0.1.getD 0 0))) ≤ ((List.drop 8 a0).length : Int))) then ((l9 k (List.take (zA (8*(x0.1.getD 0 0))).toNat (List.drop 8 a0))).bind fun x1=>
       bif (decide (0≤(zA (8*(x0.1.getD 0 0)))))&&(decide ((zA (8*(x0.1.getD 0 0)))≤((List.drop 8 a0).length:Int))) then some (x1.1,(List.drop (zA (8*(x0.1.getD 0 0))).toNat (List.drop 8 a0)),true)
       else none)
      else none)
     else none)
    else none)
   else none)
  else none)
 else none
def sG (k:Nat)(a0:gW):Option (AC×gW):=
 (H2 k a0.1).bind fun x0=>
 bif a0.2 then some (x0.1,x0.2.1,true)
 else some (x0.1,x0.2.1,(!x0.2.2))
def BO (k:Nat)(a0:gW)(a1:Int):Option (AC×gW):=
 (sG k a0).bind fun x0=>
 bif !(decide ((x0.1.length : Int) = a1)) then (bif ub a1 a1 8 then some ((List.replicate a1.toNat (0:Int)),x0.2.1,true)
  else none)
 else some (x0.1,x0.2)
abbrev QU:Type:=gW×EQ
abbrev QS:Type:=Int→gW→EQ→Option QU
def JL (k:Nat)(rec:QS)(s1:Int)(b0:gW)(r1:EQ):Option QU:=
 bif decide (s1 > 0) then (bif !b0.2 then ((sG k b0).bind fun x0=>
   bif zY (r1.length+1) 24 then(rec (zA (s1-1)) x0.2 (r1++[x0.1]))
   else none)
  else some (b0,r1))
 else some (b0,r1)
def FT (k:Nat):Nat→QS:=vT (fun _ _ _=>none) (JL k)
def BP (k:Nat)(a0:gW)(a1:Int):Option (EQ×gW):=
 (FT k k a1 a0 []).bind fun z=>
 some (z.2,z.1)
def P1 (k:Nat)(a0 a1:AC):Option Bool:=
 some (tg a0 a1)
abbrev QY:Type:=AC×dJ×gW×AC×dJ×(List zM)
abbrev QX:Type:=AC→Int→dJ→gW→AC→dJ→List zM→Option QY
def JM (k:Nat)(rec:QX)(s0:AC)(s7:Int)(b0:dJ)(b1:gW)(r2:AC)(b3:dJ)(r4:List zM):Option QY:=
 bif decide (s7 > 0) then (bif !b1.2 then ((BO k b1 3).bind fun x1=>
   bif zD 0 x1.1.length then (bif zD 1 x1.1.length then (bif zD 2 x1.1.length then (bif zY (r4.length + 1) 24 then (let y0:List zM:=(r4++[((x1.1.getD 0 0),(x1.1.getD 1 0),(x1.1.getD 2 0))])
       rec s0 (zA (s7-1)) b0 x1.2 r2 b3 y0)
      else none)
     else none)
    else none)
   else none)
  else some (s0,b0,b1,r2,b3,r4))
 else some (s0,b0,b1,r2,b3,r4)
def BQ (k:Nat):Nat→QX:=vT (fun _ _ _ _ _ _ _=>none) (JM k)
abbrev Q0:Type:=AC×dJ×gW×dJ×(List zM)×EQ×AC×EQ×AC×EQ×(List zE)
abbrev QZ:Type:=AC→Int→dJ→gW→dJ→List zM→EQ→AC→EQ→AC→EQ→List zE→Option Q0
def JN (k:Nat)(rec:QZ)(s0:AC)(s9:Int)(b0:dJ)(b1:gW)(b2:dJ)(r3:List zM)(r4:EQ)(r5:AC)(r6:EQ)(r7:AC)(r8:EQ)(r9:List zE):Option Q0:=
 bif decide (s9 > 0) then (bif !b1.2 then ((BO k b1 7).bind fun x7=>
   bif zD 0 x7.1.length then (bif zD 1 x7.1.length then (bif zD 2 x7.1.length then (bif zD 3 x7.1.length then (bif zD 4 x7.1.length then (bif zD 5 x7.1.length then (bif zD 6 x7.1.length then (bif zY (r9.length + 1) 56 then (let y1:List zE:=(r9++[((x7.1.getD 0 0),(x7.1.getD 1 0),(x7.1.getD 2 0),(x7.1.getD 3 0),(x7.1.getD 4 0),(x7.1.getD 5 0),(x7.1.getD 6 0))])
           rec s0 (zA (s9-1)) b0 x7.2 b2 r3 r4 r5 r6 r7 r8 y1)
          else none)
         else none)
        else none)
       else none)
      else none)
     else none)
    else none)
   else none)
  else some (s0,b0,b1,b2,r3,r4,r5,r6,r7,r8,r9))
 else some (s0,b0,b1,b2,r3,r4,r5,r6,r7,r8,r9)
def BR (k:Nat):Nat→QZ:=vT (fun _ _ _ _ _ _ _ _ _ _ _ _=>none) (JN k)
def vu (k:Nat)(a0:AC):Option (wF×Bool):=
 (BO k (a0,false) 9).bind fun x0=>
 bif zD 0 x0.1.length then (bif zD 1 x0.1.length then (bif zD 2 x0.1.length then (bif zD 3 x0.1.length then ((BQ k k a0 (x0.1.getD 3 0) (0,0,false) x0.2 x0.1 ((x0.1.getD 0 0),(x0.1.getD 1 0),(decide ((x0.1.getD 2 0)=1))) []).bind fun z=>
     bif zD 4 z.2.2.2.1.length then ((BP k z.2.2.1 (z.2.2.2.1.getD 4 0)).bind fun x2=>
      (sG k x2.2).bind fun x3=>
      bif zD 6 z.2.2.2.1.length then ((BP k x3.2 (z.2.2.2.1.getD 6 0)).bind fun x4=>
       (sG k x4.2).bind fun x5=>
       bif zD 7 z.2.2.2.1.length then ((BP k x5.2 (z.2.2.2.1.getD 7 0)).bind fun x6=>
        bif zD 8 z.2.2.2.1.length then ((BR k k z.1 (z.2.2.2.1.getD 8 0) z.2.1 x6.2 z.2.2.2.2.1 z.2.2.2.2.2 x2.1 x3.1 x4.1 x5.1 x6.1 []).bind fun z1=>
         (sG k z1.2.2.1).bind fun x8=>
         bif x8.2.2 then some ((0,[],[],[],[],[],[],[],[],0,false),false)
         else(fh k (z1.2.2.2.1.1,(SZ z1 (x8.1,z1.2.2.2.1.2)))).bind fun x9=>
         (P1 k x9 z1.1).bind fun cm=>
         bif !cm then some ((0,[],[],[],[],[],[],[],[],0,false),false)
         else some ((z1.2.2.2.1.1,(SZ z1 (x8.1,z1.2.2.2.1.2))),true))
        else none)
       else none)
      else none)
     else none)
    else none)
   else none)
  else none)
 else none
def rQ (k:Nat)(a0:Int):Option Int:=
 bif decide (a0=9) then some 0
 else bif decide (a0=13) then some 0
 else bif decide (a0=14) then some 0
 else bif decide (a0=15) then some 0
 else bif decide (a0=2) then some 1
 else bif decide (a0=6) then some 1
 else bif decide (a0=7) then some 1
 else bif decide (a0=16) then some 1
 else bif decide (a0=19) then some 1
 else bif decide (a0=20) then some 1
 else bif decide (a0=21) then some 1
 else bif decide (a0=22) then some 1
 else bif decide (a0=23) then some 1
 else bif decide (a0=3) then some 2
 else bif decide (a0=4) then some 2
 else bif decide (a0=5) then some 2
 else bif decide (a0=8) then some 2
 else bif decide (a0=10) then some 2
 else bif decide (a0=11) then some 2
 else bif decide (a0=12) then some 2
 else bif decide (a0=18) then some 4
 else bif decide (a0=17) then some 5
 else bif decide (a0=1) then some 6
 else some (-1)
def uu (k:Nat)(a0:AC):Option (zE×Int):=
 bif decide ((a0.length:Int)=0) then some ((0,0,0,0,0,0,0),2)
 else bif decide (1 ≤ (a0.length : Int)) then ((l9 k (List.drop 1 a0)).bind fun x0=>
  bif !(decide (x0.2=0)) then some ((0,0,0,0,0,0,0),2)
  else bif zD 0 a0.length then ((rQ k (zA ((a0.getD 0 0)))).bind fun x1=>
   bif !(decide ((x0.1.length:Int)=x1)) then some ((0,0,0,0,0,0,0),2)
   else bif zD 0 a0.length then some (((zA ((a0.getD 0 0))),(bif (Nat.blt 0 x0.1.length) then(x0.1.getD 0 0) else 0),(bif (Nat.blt 1 x0.1.length) then(x0.1.getD 1 0) else 0),(bif (Nat.blt 2 x0.1.length) then(x0.1.getD 2 0) else 0),(bif (Nat.blt 3 x0.1.length) then(x0.1.getD 3 0) else 0),(bif (Nat.blt 4 x0.1.length) then(x0.1.getD 4 0) else 0),(bif (Nat.blt 5 x0.1.length) then(x0.1.getD 5 0) else 0)),0)
   else none)
  else none)
 else none
def pG (k:Nat)(a0:AC):Option (vD×Int):=
 bif decide ((a0.length:Int)<8) then some ((0,0,0,0,0,0,0,0),2)
 else bif decide (8 ≤ (a0.length : Int)) then ((l9 k (List.take 8 a0)).bind fun x0=>
  bif decide (8 ≤ (a0.length : Int)) then ((uu k (List.drop 8 a0)).bind fun x1=>
   bif !(decide (x1.2=0)) then some ((0,0,0,0,0,0,0,0),2)
   else bif zD 0 x0.1.length then some (((x0.1.getD 0 0),x1.1),0)
   else none)
  else none)
 else none
def Jr (k:Nat)(a0:Int):Option Bool:=
 bif decide (a0≥10) then some (decide (a0≤14))
 else some false
def Fk (k:Nat)(a0:Int):Option Bool:=
 bif decide (a0≥1) then some (decide (a0≤14))
 else some false
abbrev Q3:Type:=AC→Int→Int→Option (Unit⊕Bool)
def lA (k:Nat)(rec:Q3)(bm:AC)(bq aM:Int):Option (Unit⊕Bool):=
 bif decide (aM < bq) then (bif zD aM bm.length then (bif !(decide ((bm.getD aM.toNat 0)=0)) then some (.inr false)
   else rec bm bq (zA (aM+1)))
  else none)
 else some (.inl ())
def mr (k:Nat):Nat→Q3:=vT (fun _ _ _=>none) (lA k)
def kC (k:Nat)(a0:zE):Option Bool:=
 (rQ k a0.1).bind fun x0=>
 bif decide (x0<0) then some false
 else bif (decide (0 ≤ x0)) && (decide (x0 ≤ 6)) then ((mr k k (qQ [a0.2.1,a0.2.2.1,a0.2.2.2.1,a0.2.2.2.2.1,a0.2.2.2.2.2.1,a0.2.2.2.2.2.2] x0.toNat (6-x0.toNat)) ((qQ [a0.2.1,a0.2.2.1,a0.2.2.2.1,a0.2.2.2.2.1,a0.2.2.2.2.2.1,a0.2.2.2.2.2.2] x0.toNat (6-x0.toNat)).length:Int) 0).bind fun z=>
  match z with
  |.inl z1=>some true
  |.inr z2=>some z2)
 else none
def Br (k:Nat)(a0:wN)(a1:wF)(a2:vD):Option Int:=
 (Jr k a2.2.1).bind fun x0=>
 bif decide (a2.1 ≥ 0) then ((Fk k a2.2.1).bind fun x1=>
  bif !x1 then some 5
  else(kC k a2.2).bind fun x2=>
  bif !x2 then some 5
  else bif x0 then (bif !(decide (a2.1=(-1))) then some 5
   else bif !x0 then (bif !(decide (a2.1<a0.1)) then some 5
    else bif a1.2.2.2.2.2.2.2.2.2.2 then (bif !(decide (a2.2.1=9)) then some 7
     else some 0)
    else some 0)
   else bif a1.2.2.2.2.2.2.2.2.2.2 then (bif !(decide (a2.2.1=9)) then some 7
    else some 0)
   else some 0)
  else bif !x0 then (bif !(decide (a2.1<a0.1)) then some 5
   else bif a1.2.2.2.2.2.2.2.2.2.2 then (bif !(decide (a2.2.1=9)) then some 7
    else some 0)
   else some 0)
  else bif a1.2.2.2.2.2.2.2.2.2.2 then (bif !(decide (a2.2.1=9)) then some 7
   else some 0)
  else some 0)
 else(Fk k a2.2.1).bind fun x3=>
 bif !x3 then some 5
 else(kC k a2.2).bind fun x4=>
 bif !x4 then some 5
 else bif x0 then (bif !(decide (a2.1=(-1))) then some 5
  else bif !x0 then some 5
  else bif a1.2.2.2.2.2.2.2.2.2.2 then (bif !(decide (a2.2.1=9)) then some 7
   else some 0)
  else some 0)
 else bif !x0 then some 5
 else bif a1.2.2.2.2.2.2.2.2.2.2 then (bif !(decide (a2.2.1=9)) then some 7
  else some 0)
 else some 0
def Pq (k:Nat)(gE cp cN gZ eX gF fS a1:Int):Option Bool:=
 some (decide (cp=a1))
abbrev Q8:Type:=List zE
abbrev Q6:Type:=List zE→Int→Int→Int→List zE→Option Q8
def A7 (k:Nat)(rec:Q6)(s8:List zE)(s9 aw aa:Int)(r1:List zE):Option Q8:=
 bif decide (aw < s9) then (bif zD aw s8.length then ((Pq k (s8.getD aw.toNat (0,0,0,0,0,0,0)).1 (s8.getD aw.toNat (0,0,0,0,0,0,0)).2.1 (s8.getD aw.toNat (0,0,0,0,0,0,0)).2.2.1 (s8.getD aw.toNat (0,0,0,0,0,0,0)).2.2.2.1 (s8.getD aw.toNat (0,0,0,0,0,0,0)).2.2.2.2.1 (s8.getD aw.toNat (0,0,0,0,0,0,0)).2.2.2.2.2.1 (s8.getD aw.toNat (0,0,0,0,0,0,0)).2.2.2.2.2.2 aa).bind fun x0=>
   bif x0 then (bif zY (r1.length + 1) 56 then (let y0:List zE:=(r1++[(s8.getD aw.toNat (0,0,0,0,0,0,0))])
     rec s8 s9 (zA (aw+1)) aa y0)
    else none)
   else rec s8 s9 (zA (aw+1)) aa r1)
  else none)
 else some r1
def E9 (k:Nat):Nat→Q6
 |0,_,_,_,_,_=>none
 |n+1,s8,s9,aw,aa,r1=>A7 k (E9 k n) s8 s9 aw aa r1
def Pp (k:Nat)(a0:List zE)(cd:Int):Option (List zE):=
 (E9 k k a0 (a0.length:Int) 0 cd []).bind fun z=>
 some z
def E8 (k:Nat)(a0:List zE)(a1:Int):Option (List zE):=
 (Pp k a0 a1).bind fun x0=>
 some x0
def yLh (k:Nat)(a0:(Int×Int×Int×Int×Int×Int×Bool×Int))(a1:Int)(a2:AC):Option wR:=
 some (a0.1,[],(lI a0 ([],[],[],[],[],[],[],[],a0.2.2.2.2.2.1,a0.2.2.2.2.2.2.1,a0.2.2.2.2.2.2.2,[(a0.2.2.2.2.2.2.2,a1,(bif (Nat.blt 0 a2.length) then(a2.getD 0 0) else 0),(bif (Nat.blt 1 a2.length) then(a2.getD 1 0) else 0),(bif (Nat.blt 2 a2.length) then(a2.getD 2 0) else 0),(bif (Nat.blt 3 a2.length) then(a2.getD 3 0) else 0),(bif (Nat.blt 4 a2.length) then(a2.getD 4 0) else 0),(bif (Nat.blt 5 a2.length) then(a2.getD 5 0) else 0))])))
def Fy (k:Nat)(a0:wF)(a1:Int):Option (List vD):=
 bif zD a1 a0.2.1.length then ((E8 k a0.2.2.2.2.2.2.2.1 a1).bind fun x0=>
  (yLh k (0,0,0,0,0,0,false,a1) 17 [(a0.2.1.getD a1.toNat (0,0,0)).1,(a0.2.1.getD a1.toNat (0,0,0)).2.1,(a0.2.1.getD a1.toNat (0,0,0)).2.2,(x0.length:Int),a0.1]).bind fun x1=>
  some x1.2.2.2.2.2.2.2.2.2.2.2.2.2.2.2.2.2)
 else none
def JE (k:Nat)(a0:gX)(a1:Int)(a2:AC):Option wR:=
 some (yX a0 [(a0.2.2.2.2.2.2.2.2.2.2.2.2.2.2.2.2,a1,(bif (Nat.blt 0 a2.length) then(a2.getD 0 0) else 0),(bif (Nat.blt 1 a2.length) then(a2.getD 1 0) else 0),(bif (Nat.blt 2 a2.length) then(a2.getD 2 0) else 0),(bif (Nat.blt 3 a2.length) then(a2.getD 3 0) else 0),(bif (Nat.blt 4 a2.length) then(a2.getD 4 0) else 0),(bif (Nat.blt 5 a2.length) then(a2.getD 5 0) else 0))])
def yP (k:Nat)(a0 a1 a2:Int):Option Bool:=
 bif decide (a0≥a1) then some (decide (a0≤a2))
 else some false
def Fh (k:Nat)(a0:wN)(a1:Int):Option Bool:=
 bif decide (a1≥0) then some (decide (a1<a0.1))
 else some false
def Jn (k:Nat)(a0:wN)(a1:Int)(a2:zE):Option Bool:=
 (Fh k a0 a2.2.1).bind fun x0=>
 bif x0 then ((Fh k a0 a2.2.2.1).bind fun x1=>
  bif x1 then (bif decide (a2.1 ≥ 1) then (bif decide (a2.2.2.2.1 ≥ 1) then (bif decide (a2.2.2.2.1 ≤ 1099511627776) then (bif decide (a2.2.2.2.2.1 ≥ 1) then (bif !(decide (a2.2.1 = a2.2.2.1)) then (bif decide (a2.2.2.2.2.1 ≤ 3) then (bif decide (a2.2.2.2.2.2.1 ≥ 0) then (bif decide (a2.2.2.2.2.2.1 ≤ a2.2.2.2.2.2.2) then (bif decide (a2.2.2.2.2.2.2≥a1) then some (decide (a2.2.2.2.2.2.2≤1048576))
           else some false)
          else some false)
         else some false)
        else some false)
       else some false)
      else bif !(decide (a2.2.1=a2.2.2.1)) then some false
      else some false)
     else bif !(decide (a2.2.1=a2.2.2.1)) then some false
     else some false)
    else bif !(decide (a2.2.1=a2.2.2.1)) then some false
    else some false)
   else bif !(decide (a2.2.1=a2.2.2.1)) then some false
   else some false)
  else bif decide (a2.1 ≥ 1) then (bif decide (a2.2.2.2.1 ≥ 1) then (bif decide (a2.2.2.2.1 ≤ 1099511627776) then (bif decide (a2.2.2.2.2.1≥1) then some false
     else some false)
    else some false)
   else some false)
  else some false)
 else bif decide (a2.1 ≥ 1) then (bif decide (a2.2.2.2.1 ≥ 1) then (bif decide (a2.2.2.2.1 ≤ 1099511627776) then (bif decide (a2.2.2.2.2.1≥1) then some false
    else some false)
   else some false)
  else some false)
 else some false
def u6 (k:Nat)(a0:wN)(a1 a2:Int):Option Int:=
 bif decide (a1≥a0.2.2.2.1) then some 7
 else bif decide (a2 = 3) then (bif decide (a1≥a0.2.2.1) then some 7
  else some 0)
 else some 0
def Bo (k:Nat)(a0:wN)(a1:Int)(a2:zE):Option Int:=
 (Jn k a0 a1 a2).bind fun x0=>
 bif !x0 then some 1
 else(u6 k a0 a1 a2.2.2.2.2.1).bind fun x1=>
 some x1
def IV (k:Nat)(a0:Int):Option Bool:=
 some (!(decide (a0=a0)))
def IU (k:Nat)(a0 a1:Int):Option Bool:=
 (IV k a0).bind fun x0=>
 bif x0 then ((IV k a1).bind fun x1=>
  bif !x1 then some true
  else some (decide (a0<a1)))
 else some (decide (a0<a1))
def IX (k:Nat)(a0:Int):Option Bool:=
 some (!(decide (a0=a0)))
abbrev Re:Type:=AC×Int×Int×Int
abbrev Rb:Type:=AC→Int→Int→Int→Int→Option Re
def IW (k:Nat)(rec:Rb)(s0:AC)(s1 s6 s7 s8:Int):Option Re:=
 bif decide (s7 < s8) then (bif zD (zA ((shr .u64 (IntKind.wrap .u64 ((zA (s7 + s8)))) 1))) s0.length then ((IU k (s0.getD (zA ((shr .u64 (IntKind.wrap .u64 ((zA (s7+s8)))) 1))).toNat 0) s1).bind fun x0=>
   bif x0 then(rec s0 s1 s6 (zA ((zA ((shr .u64 (IntKind.wrap .u64 ((zA (s7+s8)))) 1)))+1)) s8)
   else rec s0 s1 s6 s7 (zA ((shr .u64 (IntKind.wrap .u64 ((zA (s7+s8)))) 1))))
  else none)
 else some (s0,s1,s6,s7)
def EW (k:Nat):Nat→Rb:=vT (fun _ _ _ _ _=>none) (IW k)
def AL (k:Nat)(a0:AC)(a1:Int):Option (Int×Bool):=
 (EW k k a0 a1 (a0.length:Int) 0 (a0.length:Int)).bind fun z=>
 bif decide (z.2.2.2 < z.2.2.1) then (bif zD z.2.2.2 z.1.length then (bif decide ((z.1.getD z.2.2.2.toNat 0)=z.2.1) then some (z.2.2.2,true)
   else bif zD z.2.2.2 z.1.length then ((IX k (z.1.getD z.2.2.2.toNat 0)).bind fun x1=>
    bif x1 then ((IX k z.2.1).bind fun x2=>
     some (z.2.2.2,x2))
    else some (z.2.2.2,false))
   else none)
  else none)
 else some (z.2.2.2,false)
def me (k:Nat)(a0:AC):Option AC:=
 bif zY (0+a0.length) 8 then some a0
 else none
abbrev yAh (k:Nat)(a0:AC)(a1:Int)(a2:AC):Option AC:=ins 8 a0 a1 a2
def AM (k:Nat)(a0:AC)(a1:Int):Option (AC×Int):=
 (AL k a0 a1).bind fun x0=>
 bif x0.2 then some (a0,6)
 else bif decide ((a0.length:Int)≥200) then some (a0,3)
 else(me k a0).bind fun x1=>
 (yAh k x1 x0.1 [a1]).bind fun x2=>
 some (x2,0)
def OT (k:Nat)(gE cp cN gZ eX gF fS a1:Int):Option Bool:=
 some (decide (gE=a1))
abbrev Rk:Type:=List zE→Int→Int→Int→Option (Unit⊕Int)
def AE (k:Nat)(rec:Rk)(s0:List zE)(s7 s8 aa:Int):Option (Unit⊕Int):=
 bif decide (s8 < s7) then (bif zD s8 s0.length then ((OT k (s0.getD s8.toNat (0,0,0,0,0,0,0)).1 (s0.getD s8.toNat (0,0,0,0,0,0,0)).2.1 (s0.getD s8.toNat (0,0,0,0,0,0,0)).2.2.1 (s0.getD s8.toNat (0,0,0,0,0,0,0)).2.2.2.1 (s0.getD s8.toNat (0,0,0,0,0,0,0)).2.2.2.2.1 (s0.getD s8.toNat (0,0,0,0,0,0,0)).2.2.2.2.2.1 (s0.getD s8.toNat (0,0,0,0,0,0,0)).2.2.2.2.2.2 aa).bind fun x0=>
   bif x0 then some (.inr s8)
   else rec s0 s7 (zA (s8+1)) aa)
  else none)
 else some (.inl ())
def AB (k:Nat):Nat→Rk
 |0,_,_,_,_=>none
 |n+1,s0,s7,s8,aa=>AE k (AB k n) s0 s7 s8 aa
def OU (k:Nat)(a0:List zE)(cd:Int):Option Int:=
 (AB k k a0 (a0.length:Int) 0 cd).bind fun z=>
 match z with
 |.inl z1=>some (-1)
 |.inr z2=>some z2
def lh (k:Nat)(a0:List zE)(a1:Int):Option Int:=
 (OU k a0 a1).bind fun x0=>
 some x0
def IP (k:Nat)(a0:Int):Option Bool:=
 some (!(decide (a0=a0)))
def EP (k:Nat)(a0 a1:Int):Option Int:=
 (IP k a0).bind fun x0=>
 (IP k a1).bind fun x1=>
 bif x0 then (bif x1 then some 0
  else some (-1))
 else bif x1 then some 1
 else bif decide (a0<a1) then some (-1)
 else bif decide (a0>a1) then some 1
 else some 0
abbrev Rm:Type:=Int→AC→Int→Int→Option (Int⊕Int)
def qQv (k:Nat)(rec:Rm)(s3:Int)(s6:AC)(s7 s8:Int):Option (Int⊕Int):=
 bif decide (s8 < s7) then (bif zD s8 s6.length then (bif !(decide ((s6.getD s8.toNat 0)=s3)) then some (.inr (s6.getD s8.toNat 0))
   else rec s3 s6 s7 (zA (s8+1)))
  else none)
 else some (.inl s3)
def EO (k:Nat):Nat→Rm
 |0,_,_,_,_=>none
 |n+1,s3,s6,s7,s8=>qQv k (EO k n) s3 s6 s7 s8
def IN (k:Nat)(a0:AC):Option Int:=
 (EO k k 0 a0 (a0.length:Int) 0).bind fun z=>
 match z with
 |.inl z1=>some z1
 |.inr z2=>some z2
def AF (k:Nat)(gE cp cN gZ eX gF fS US mD pP wc sX UT UU:Int):Option Int:=
 (EP k cp mD).bind fun x0=>
 (EP k eX sX).bind fun x1=>
 (IN k [x0,x1]).bind fun x2=>
 some x2
def sd (k:Nat)(a0:List zE):Option (List zE):=
 bif zY (0+a0.length) 56 then some a0
 else none
abbrev IT (k:Nat)(a0:List zE)(a1:Int)(a2:List zE):Option (List zE):=ins 56 a0 a1 a2
abbrev Rq:Type:=(List zE)×Int×zE
abbrev Ro:Type:=List zE→Int→zE→Option Rq
def AG (k:Nat)(rec:Ro)(s0:List zE)(s6:Int)(b0:zE):Option Rq:=
 bif decide (s6 < (s0.length : Int)) then (bif zD s6 s0.length then ((AF k (s0.getD s6.toNat (0,0,0,0,0,0,0)).1 (s0.getD s6.toNat (0,0,0,0,0,0,0)).2.1 (s0.getD s6.toNat (0,0,0,0,0,0,0)).2.2.1 (s0.getD s6.toNat (0,0,0,0,0,0,0)).2.2.2.1 (s0.getD s6.toNat (0,0,0,0,0,0,0)).2.2.2.2.1 (s0.getD s6.toNat (0,0,0,0,0,0,0)).2.2.2.2.2.1 (s0.getD s6.toNat (0,0,0,0,0,0,0)).2.2.2.2.2.2 b0.1 b0.2.1 b0.2.2.1 b0.2.2.2.1 b0.2.2.2.2.1 b0.2.2.2.2.2.1 b0.2.2.2.2.2.2).bind fun x1=>
   bif decide (x1≤0) then(rec s0 (zA (s6+1)) b0)
   else some (s0,s6,b0))
  else none)
 else some (s0,s6,b0)
def ES (k:Nat):Nat→Ro:=vT (fun _ _ _=>none) (AG k)
def se (k:Nat)(a0:List zE)(a1:zE):Option ((List zE)×Int):=
 (lh k a0 a1.1).bind fun x0=>
 bif decide (x0≥0) then some (a0,6)
 else bif decide ((a0.length:Int)≥40) then some (a0,3)
 else(ES k k a0 0 a1).bind fun z=>
 (sd k z.1).bind fun x2=>
 (IT k x2 z.2.1 [z.2.2]).bind fun x3=>
 some (x3,0)
def Jo (k:Nat)(a0:wR)(a1:(Int×Int×Int×Int×Int×Int)):Option (Int×wR):=
 (yP k a1.2.1 0 (zA (a0.1-1))).bind fun x0=>
 bif !x0 then some (1,a0)
 else(yP k a1.2.2.2.1 1 3).bind fun x1=>
 bif !x1 then some (1,a0)
 else(Bo k (wD a0) a0.2.2.2.2.2.1 (a1.1,a0.2.2.2.2.2.2.2.2.2.2.2.2.2.2.2.2.1,a1.2)).bind fun x2=>
 bif !(decide (x2=0)) then some (x2,a0)
 else(AM k a0.2.2.2.2.2.2.2.2.2.2.2.2.2.1 a1.1).bind fun x3=>
 bif !(decide (x3.2=0)) then some (x3.2,a0)
 else(se k a0.2.2.2.2.2.2.2.2.2.2.2.2.1 (a1.1,a0.2.2.2.2.2.2.2.2.2.2.2.2.2.2.2.2.1,a1.2)).bind fun x4=>
 bif !(decide (x4.2=0)) then some (x4.2,a0)
 else some (0,(mC a0 (x4.1,x3.1,a0.2.2.2.2.2.2.2.2.2.2.2.2.2.2)))
def Rt (k:Nat)(a0:wR)(a1:Int):Option (zE×Int):=
 (lh k a0.2.2.2.2.2.2.2.2.2.2.2.2.1 a1).bind fun x0=>
 bif decide (x0<0) then some ((0,0,0,0,0,0,0),4)
 else bif zD x0 a0.2.2.2.2.2.2.2.2.2.2.2.2.1.length then (bif !(decide ((a0.2.2.2.2.2.2.2.2.2.2.2.2.1.getD x0.toNat (0,0,0,0,0,0,0)).2.1=a0.2.2.2.2.2.2.2.2.2.2.2.2.2.2.2.2.1)) then some ((0,0,0,0,0,0,0),4)
  else bif zD x0 a0.2.2.2.2.2.2.2.2.2.2.2.2.1.length then some ((a0.2.2.2.2.2.2.2.2.2.2.2.2.1.getD x0.toNat (0,0,0,0,0,0,0)),0)
  else none)
 else none
def EN (k:Nat)(a0:List zE)(a1 a2:Int):Option (List zE):=
 bif ((((decide (0 ≤ a1)) && (decide (a1 ≤ a2))) && (decide (a2 ≤ (a0.length : Int)))) && (decide (((a2.toNat : Nat) : Int) ≤ (a0.length : Int)))) && (decide ((a0.length : Int) ≤ (a0.length : Int))) then (bif decide (a1=a2) then some a0
  else bif (decide (0 ≤ a1)) && (decide (a1 ≤ (a0.length : Int))) then (bif (decide (0 ≤ a2)) && (decide (a2 ≤ (a0.length : Int))) then (bif Nat.ble (a1.toNat - 0) (0 + a2.toNat) then (let y0:List zE:=(((List.take (a1.toNat-0) a0)++(qQ a0 (0+a2.toNat) (a0.length-a2.toNat)))++(List.drop ((a1.toNat-0)+(a0.length-a2.toNat)) a0))
     bif ((decide (0 ≤ ((qQ y0 0 ((a1.toNat - 0) + (a0.length - a2.toNat))).length : Int))) && (decide (((qQ y0 0 ((a1.toNat - 0) + (a0.length - a2.toNat))).length : Int) ≤ (a0.length : Int)))) && (decide ((a0.length : Int) ≤ (((y0.length - 0) : Nat) : Int))) then (let y1:List zE:=(((List.take (0+(qQ y0 0 ((a1.toNat-0)+(a0.length-a2.toNat))).length) y0)++(List.replicate (a0.length-(qQ y0 0 ((a1.toNat-0)+(a0.length-a2.toNat))).length) ((0,0,0,0,0,0,0):Int×Int×Int×Int×Int×Int×Int)))++(List.drop ((0+(qQ y0 0 ((a1.toNat-0)+(a0.length-a2.toNat))).length)+(a0.length-(qQ y0 0 ((a1.toNat-0)+(a0.length-a2.toNat))).length)) y0))
      some (List.take ((a1.toNat-0)+(a0.length-a2.toNat)) y1))
     else none)
    else none)
   else none)
  else none)
 else none
def mj (k:Nat)(a0:List zE)(a1:Int):Option ((List zE)×Int×Int×Int×Int×Int×Int×Int×Int):=
 (lh k a0 a1).bind fun x0=>
 bif decide (x0<0) then some (a0,0,0,0,0,0,0,0,4)
 else(sd k a0).bind fun x1=>
 (EN k x1 x0 (zA (x0+1))).bind fun x2=>
 bif zD x0 a0.length then some (x2,(kE (a0.getD x0.toNat (0,0,0,0,0,0,0)) 0))
 else none
def sA (k:Nat)(a0:wR)(a1:Int)(a2:AC):Option wR:=
 bif zY (a0.2.2.2.2.2.2.2.2.2.2.2.2.2.2.2.2.2.length + 1) 64 then (let y0:List vD:=(a0.2.2.2.2.2.2.2.2.2.2.2.2.2.2.2.2.2++[(a0.2.2.2.2.2.2.2.2.2.2.2.2.2.2.2.2.1,a1,(bif (Nat.blt 0 a2.length) then(a2.getD 0 0) else 0),(bif (Nat.blt 1 a2.length) then(a2.getD 1 0) else 0),(bif (Nat.blt 2 a2.length) then(a2.getD 2 0) else 0),(bif (Nat.blt 3 a2.length) then(a2.getD 3 0) else 0),(bif (Nat.blt 4 a2.length) then(a2.getD 4 0) else 0),(bif (Nat.blt 5 a2.length) then(a2.getD 5 0) else 0))])
  some (UP a0 y0))
 else none
def AH (k:Nat)(a0:List zE)(a1 a2:Int):Option ((List zE)×Int):=
 (mj k a0 a1).bind fun x0=>
 bif !(decide (x0.2.2.2.2.2.2.2.2=0)) then some (a0,x0.2.2.2.2.2.2.2.2)
 else(se k x0.1 (lI x0 (a2,x0.2.2.2.2.2.2.1,x0.2.2.2.2.2.2.2.1))).bind fun x1=>
 some (x1.1,x1.2)
def O2 (k:Nat)(a0:List zE)(a1:Int):Option ((List zE)×Int×Int×Int×Int×Int×Int×Int×Int):=
 (lh k a0 a1).bind fun x0=>
 bif decide (x0<0) then none
 else(sd k a0).bind fun x1=>
 (EN k x1 x0 (zA (x0+1))).bind fun x2=>
 bif zD x0 a0.length then some (x2,(kE (a0.getD x0.toNat (0,0,0,0,0,0,0)) 0))
 else none
abbrev Ry:Type:=Int×(List zE)×zE
abbrev Rw:Type:=Int→List zE→zE→Option Ry
def AJ (k:Nat)(rec:Rw)(s9:Int)(r0:List zE)(b1:zE):Option Ry:=
 bif decide (s9 < (r0.length : Int)) then (bif zD s9 r0.length then ((AF k (r0.getD s9.toNat (0,0,0,0,0,0,0)).1 (r0.getD s9.toNat (0,0,0,0,0,0,0)).2.1 (r0.getD s9.toNat (0,0,0,0,0,0,0)).2.2.1 (r0.getD s9.toNat (0,0,0,0,0,0,0)).2.2.2.1 (r0.getD s9.toNat (0,0,0,0,0,0,0)).2.2.2.2.1 (r0.getD s9.toNat (0,0,0,0,0,0,0)).2.2.2.2.2.1 (r0.getD s9.toNat (0,0,0,0,0,0,0)).2.2.2.2.2.2 b1.1 b1.2.1 b1.2.2.1 b1.2.2.2.1 b1.2.2.2.2.1 b1.2.2.2.2.2.1 b1.2.2.2.2.2.2).bind fun x1=>
   bif decide (x1<0) then(rec (zA (s9+1)) r0 b1)
   else some (s9,r0,b1))
  else none)
 else some (s9,r0,b1)
def EV (k:Nat):Nat→Rw:=vT (fun _ _ _=>none) (AJ k)
def AK (k:Nat)(a0:List zE)(a1:Int):Option ((List zE)×Int):=
 (O2 k a0 a1).bind fun x0=>
 bif !(decide (x0.2.2.2.2.2.2.2.2=0)) then some (a0,x0.2.2.2.2.2.2.2.2)
 else(EV k k 0 x0.1 (Rr x0)).bind fun z=>
 (IT k z.2.1 z.1 [z.2.2]).bind fun x2=>
 some (x2,0)
def AI (k:Nat)(a0:List zE)(a1:Int):Option ((List zE)×Int):=
 (mj k a0 a1).bind fun x0=>
 bif !(decide (x0.2.2.2.2.2.2.2.2=0)) then some (a0,x0.2.2.2.2.2.2.2.2)
 else(se k x0.1 (Rr x0)).bind fun x1=>
 some (x1.1,x1.2)
def u9 (k:Nat)(a0:wR)(a1:zE):Option (Int×wR):=
 (Rt k a0 a1.2.1).bind fun x0=>
 bif !(decide (x0.2=0)) then some (x0.2,a0)
 else bif decide (a1.1 = 2) then ((mj k a0.2.2.2.2.2.2.2.2.2.2.2.2.1 a1.2.1).bind fun x1=>
  (sA k (mC a0 (x1.1,a0.2.2.2.2.2.2.2.2.2.2.2.2.2)) 20 [a1.2.1]).bind fun x2=>
  some (x1.2.2.2.2.2.2.2.2,x2))
 else bif decide (a1.1 = 4) then ((yP k a1.2.2.1 1 3).bind fun x3=>
  bif !x3 then some (1,a0)
  else(u6 k (wD a0) a0.2.2.2.2.2.1 a1.2.2.1).bind fun x4=>
  bif !(decide (x4=0)) then some (x4,a0)
  else(AH k a0.2.2.2.2.2.2.2.2.2.2.2.2.1 a1.2.1 a1.2.2.1).bind fun x5=>
  some (x5.2,(mC a0 (x5.1,a0.2.2.2.2.2.2.2.2.2.2.2.2.2))))
 else bif decide (a1.2.2.1 = 0) then ((AK k a0.2.2.2.2.2.2.2.2.2.2.2.2.1 a1.2.1).bind fun x6=>
  some (x6.2,(mC a0 (x6.1,a0.2.2.2.2.2.2.2.2.2.2.2.2.2))))
 else bif decide (a1.2.2.1 = 1) then ((AI k a0.2.2.2.2.2.2.2.2.2.2.2.2.1 a1.2.1).bind fun x7=>
  some (x7.2,(mC a0 (x7.1,a0.2.2.2.2.2.2.2.2.2.2.2.2.2))))
 else some (1,a0)
def Oc (k:Nat)(a0:List zM):Option (List zM):=
 bif zY (0+a0.length) 24 then some a0
 else none
def Oa (k:Nat)(a0:EQ):Option Nat:=
 bif zY (0+a0.length) 24 then some a0.length
 else none
abbrev Rz:Type:=EQ→Int→Int→EQ→Nat→Option (EQ×Nat)
def zc (k:Nat)(rec:Rz)(s8:EQ)(s9 aw:Int)(m0:EQ)(n0:Nat):Option (EQ×Nat):=
 bif decide (aw < s9) then (bif zD aw s8.length then ((me k (s8.getD aw.toNat [])).bind fun x1=>
   bif zD aw n0 then (bif Nat.beq aw.toNat m0.length then(rec s8 s9 (zA (aw+1)) (m0++[x1]) n0)
    else none)
   else none)
  else none)
 else some (m0,n0)
def Ef (k:Nat):Nat→Rz
 |0,_,_,_,_,_=>none
 |n+1,s8,s9,aw,m0,n0=>zc k (Ef k n) s8 s9 aw m0 n0
def Eg (k:Nat)(a0:EQ):Option EQ:=
 (Oa k a0).bind fun x0=>
 (Ef k k a0 (a0.length:Int) 0 [] x0).bind fun z=>
 Nn z.1 z.2
def dG (k:Nat)(aX:List zM)(bB:EQ)(bA:AC)(bo:EQ):Option KR:=
 (Oc k aX).bind fun x0=>
 (Eg k bB).bind fun x1=>
 (me k bA).bind fun x2=>
 (Eg k bo).bind fun x3=>
 some (x0,x1,x2,x3)
def RB (k:Nat)(a0:wR)(a1:Int):Option Bool:=
 (yP k a1 0 (zA (a0.1-1))).bind fun x0=>
 bif x0 then some (!(decide (a1=a0.2.2.2.2.2.2.2.2.2.2.2.2.2.2.2.2.1)))
 else some false
def vd (k:Nat)(a0:wR)(a1:zE):Option (Int×wR):=
 (dG k a0.2.2.2.2.2.2.1 a0.2.2.2.2.2.2.2.1 a0.2.2.2.2.2.2.2.2.1 a0.2.2.2.2.2.2.2.2.2.1).bind fun x0=>
 bif decide (a1.1 = 5) then ((RB k a0 a1.2.1).bind fun x1=>
  bif !x1 then some (1,a0)
  else(yP k a1.2.2.1 (-1) 1152921504606846976).bind fun x2=>
  bif !x2 then some (1,a0)
  else bif zD a0.2.2.2.2.2.2.2.2.2.2.2.2.2.2.2.2.1 x0.2.1.length then (bif zD a1.2.1 (x0.2.1.getD a0.2.2.2.2.2.2.2.2.2.2.2.2.2.2.2.2.1.toNat []).length then (let y0:EQ:=(x0.2.1.set a0.2.2.2.2.2.2.2.2.2.2.2.2.2.2.2.2.1.toNat ((x0.2.1.getD a0.2.2.2.2.2.2.2.2.2.2.2.2.2.2.2.2.1.toNat []).set a1.2.1.toNat a1.2.2.1))
    some (0,(fO a0 (x0.1,y0,x0.2.2.1,x0.2.2.2,a0.2.2.2.2.2.2.2.2.2.2))))
   else none)
  else none)
 else bif decide (a1.1 = 6) then ((yP k a1.2.1 (-1) 1152921504606846976).bind fun x3=>
  bif !x3 then some (1,a0)
  else bif zD a0.2.2.2.2.2.2.2.2.2.2.2.2.2.2.2.2.1 x0.2.2.1.length then (let y1:AC:=(x0.2.2.1.set a0.2.2.2.2.2.2.2.2.2.2.2.2.2.2.2.2.1.toNat a1.2.1)
   some (0,(fO a0 (x0.1,x0.2.1,y1,x0.2.2.2,a0.2.2.2.2.2.2.2.2.2.2))))
  else none)
 else(yP k a1.2.1 0 1152921504606846976).bind fun x4=>
 bif !x4 then some (1,a0)
 else bif zD a0.2.2.2.2.2.2.2.2.2.2.2.2.2.2.2.2.1 x0.1.length then (let y2:List zM:=(x0.1.set a0.2.2.2.2.2.2.2.2.2.2.2.2.2.2.2.2.1.toNat ((x0.1.getD a0.2.2.2.2.2.2.2.2.2.2.2.2.2.2.2.2.1.toNat (0,0,0)).1,(x0.1.getD a0.2.2.2.2.2.2.2.2.2.2.2.2.2.2.2.2.1.toNat (0,0,0)).2.1,a1.2.1))
  some (0,(fO a0 (y2,x0.2.1,x0.2.2.1,x0.2.2.2,a0.2.2.2.2.2.2.2.2.2.2))))
 else none
def F5 (k:Nat)(a0:wR)(a1:Int):Option Bool:=
 (yP k a1 0 (zA ((a0.2.1.length:Int)-1))).bind fun x0=>
 some x0
def Bq (k:Nat)(a0:EQ):Option EQ:=
 bif zY (0+a0.length) 24 then some a0
 else none
def mo (k:Nat)(a0:AC)(a1 a2:Int):Option AC:=
 (me k a0).bind fun x0=>
 bif decide (a1 ≥ 0) then (bif decide (a1 < (x0.length : Int)) then (bif zD a1 x0.length then some (x0.set a1.toNat a2)
   else none)
  else some x0)
 else some x0
def O6 (k:Nat)(a0:Int):Option Bool:=
 bif decide (a0≥0) then some (decide (a0≤10000))
 else some false
def EX (k:Nat)(a0 a1:Int):Option wQ:=
 some ((IntKind.wrap .u64 ((IntKind.wrap .u64 ((IntKind.wrap .u64 ((shr .u64 a0 32)*(shr .u64 a1 32)))+(shr .u64 (IntKind.wrap .u64 ((IntKind.wrap .u64 ((shr .u64 a0 32)*(gO .u64 a1 4294967295)))+(shr .u64 (IntKind.wrap .u64 ((gO .u64 a0 4294967295)*(gO .u64 a1 4294967295))) 32))) 32)))+(shr .u64 (IntKind.wrap .u64 ((gO .u64 (IntKind.wrap .u64 ((IntKind.wrap .u64 ((shr .u64 a0 32)*(gO .u64 a1 4294967295)))+(shr .u64 (IntKind.wrap .u64 ((gO .u64 a0 4294967295)*(gO .u64 a1 4294967295))) 32))) 4294967295)+(IntKind.wrap .u64 ((gO .u64 a0 4294967295)*(shr .u64 a1 32))))) 32))),(IntKind.wrap .u64 (a0*a1)))
def qP7 (k:Nat)(a0:Int):Option Int:=
 bif decide (a0 ≥ 4294967296) then (bif decide ((shr .u64 a0 32) ≥ 65536) then (bif decide ((shr .u64 (shr .u64 a0 32) 16)≥256) then none
   else none)
  else bif decide ((shr .u64 a0 32)≥256) then none
  else none)
 else bif decide (a0 ≥ 65536) then (bif decide ((shr .u64 a0 16)≥256) then none
  else none)
 else bif decide (a0≥256) then none
 else none
def yFl (k:Nat)(a0:Int):Option Int:=
 (qP7 k a0).bind fun x0=>
 some (zA (64-x0))
abbrev RF:Type:=Int×Int×Int×Int×Int×Int×Int×Int
abbrev RE:Type:=Int→Int→Int→Int→Int→Int→Int→Int→Int→Option RF
def yHb (k:Nat)(rec:RE)(s2 s8 s9 aw bJ bm bq aM bF:Int):Option RF:=
 bif decide (aM ≥ 4294967296) then (bif decide ((IntKind.wrap .u64 (bF+s9))≥4294967296) then some (s2,s8,s9,aw,bJ,bm,bq,(IntKind.wrap .u64 (aM-1)))
  else rec s2 s8 s9 aw bJ bm bq (IntKind.wrap .u64 (aM-1)) (IntKind.wrap .u64 (bF+s9)))
 else bif decide ((IntKind.wrap .u64 (aM * aw)) > (IntKind.wrap .u64 ((IntKind.wrap .u64 (4294967296 * bF)) + bm))) then (bif decide ((IntKind.wrap .u64 (bF+s9))≥4294967296) then some (s2,s8,s9,aw,bJ,bm,bq,(IntKind.wrap .u64 (aM-1)))
  else rec s2 s8 s9 aw bJ bm bq (IntKind.wrap .u64 (aM-1)) (IntKind.wrap .u64 (bF+s9)))
 else some (s2,s8,s9,aw,bJ,bm,bq,aM)
def RG (k:Nat):Nat→RE:=vT (fun _ _ _ _ _ _ _ _ _=>none) (yHb k)
abbrev RI:Type:=Int×Int×Int×Int×Int×Int
abbrev RH:Type:=Int→Int→Int→Int→Int→Int→Int→Int→Int→Option RI
def yG5 (k:Nat)(rec:RH)(s2 s8 s9 aw bq aM bF aR gD:Int):Option RI:=
 bif decide (gD ≥ 4294967296) then (bif decide ((IntKind.wrap .u64 (bF+s9))≥4294967296) then some (s2,s8,bq,aM,aR,(IntKind.wrap .u64 (gD-1)))
  else rec s2 s8 s9 aw bq aM (IntKind.wrap .u64 (bF+s9)) aR (IntKind.wrap .u64 (gD-1)))
 else bif decide ((IntKind.wrap .u64 (gD * aw)) > (IntKind.wrap .u64 ((IntKind.wrap .u64 (4294967296 * bF)) + bq))) then (bif decide ((IntKind.wrap .u64 (bF+s9))≥4294967296) then some (s2,s8,bq,aM,aR,(IntKind.wrap .u64 (gD-1)))
  else rec s2 s8 s9 aw bq aM (IntKind.wrap .u64 (bF+s9)) aR (IntKind.wrap .u64 (gD-1)))
 else some (s2,s8,bq,aM,aR,gD)
def RJ (k:Nat):Nat→RH:=vT (fun _ _ _ _ _ _ _ _ _=>none) (yG5 k)
def I1 (k:Nat)(a0 a1 a2:Int):Option wQ:=
 bif decide (a2=0) then none
 else bif decide (a2≤a0) then none
 else bif decide (a0 = 0) then (bif !(decide (a2 = 0)) then (bif !(decide (a2=0)) then some ((IntKind.wrap .u64 (Int.tdiv a1 a2)),(Int.tmod a1 a2))
   else none)
  else none)
 else(yFl k a2).bind fun x0=>
 bif !(decide ((IntKind.wrap .u64 (x0)) < 0)) then (bif !(decide ((IntKind.wrap .u64 (x0)) < 0)) then (bif !(decide ((IntKind.wrap .u64 (64 - (IntKind.wrap .u64 (x0)))) < 0)) then (bif !(decide ((IntKind.wrap .u64 (x0)) < 0)) then (bif !(decide ((shr .u64 (shl .u64 a2 (IntKind.wrap .u64 (x0))) 32) = 0)) then ((RG k k (shl .u64 a2 (IntKind.wrap .u64 (x0))) (IntKind.wrap .u64 (x0)) (shr .u64 (shl .u64 a2 (IntKind.wrap .u64 (x0))) 32) (gO .u64 (shl .u64 a2 (IntKind.wrap .u64 (x0))) 4294967295) (fI .u64 (shl .u64 a0 (IntKind.wrap .u64 (x0))) (shr .u64 a1 (IntKind.wrap .u64 (64-(IntKind.wrap .u64 (x0)))))) (shr .u64 (shl .u64 a1 (IntKind.wrap .u64 (x0))) 32) (gO .u64 (shl .u64 a1 (IntKind.wrap .u64 (x0))) 4294967295) (IntKind.wrap .u64 (Int.tdiv (fI .u64 (shl .u64 a0 (IntKind.wrap .u64 (x0))) (shr .u64 a1 (IntKind.wrap .u64 (64-(IntKind.wrap .u64 (x0)))))) (shr .u64 (shl .u64 a2 (IntKind.wrap .u64 (x0))) 32))) (IntKind.wrap .u64 ((fI .u64 (shl .u64 a0 (IntKind.wrap .u64 (x0))) (shr .u64 a1 (IntKind.wrap .u64 (64-(IntKind.wrap .u64 (x0))))))-(IntKind.wrap .u64 ((IntKind.wrap .u64 (Int.tdiv (fI .u64 (shl .u64 a0 (IntKind.wrap .u64 (x0))) (shr .u64 a1 (IntKind.wrap .u64 (64-(IntKind.wrap .u64 (x0)))))) (shr .u64 (shl .u64 a2 (IntKind.wrap .u64 (x0))) 32)))*(shr .u64 (shl .u64 a2 (IntKind.wrap .u64 (x0))) 32)))))).bind fun z=>
      bif !(decide (z.2.2.1 = 0)) then ((RJ k k z.1 z.2.1 z.2.2.1 z.2.2.2.1 z.2.2.2.2.2.2.1 z.2.2.2.2.2.2.2 (IntKind.wrap .u64 ((IntKind.wrap .u64 ((IntKind.wrap .u64 ((IntKind.wrap .u64 (z.2.2.2.2.1*4294967296))+z.2.2.2.2.2.1))-(IntKind.wrap .u64 (z.2.2.2.2.2.2.2*z.1))))-(IntKind.wrap .u64 ((IntKind.wrap .u64 (Int.tdiv (IntKind.wrap .u64 ((IntKind.wrap .u64 ((IntKind.wrap .u64 (z.2.2.2.2.1*4294967296))+z.2.2.2.2.2.1))-(IntKind.wrap .u64 (z.2.2.2.2.2.2.2*z.1)))) z.2.2.1))*z.2.2.1)))) (IntKind.wrap .u64 ((IntKind.wrap .u64 ((IntKind.wrap .u64 (z.2.2.2.2.1*4294967296))+z.2.2.2.2.2.1))-(IntKind.wrap .u64 (z.2.2.2.2.2.2.2*z.1)))) (IntKind.wrap .u64 (Int.tdiv (IntKind.wrap .u64 ((IntKind.wrap .u64 ((IntKind.wrap .u64 (z.2.2.2.2.1*4294967296))+z.2.2.2.2.2.1))-(IntKind.wrap .u64 (z.2.2.2.2.2.2.2*z.1)))) z.2.2.1))).bind fun z1=>
       bif !(decide (z1.2.1<0)) then some ((IntKind.wrap .u64 ((IntKind.wrap .u64 (z1.2.2.2.1*4294967296))+z1.2.2.2.2.2)),(shr .u64 (IntKind.wrap .u64 ((IntKind.wrap .u64 ((IntKind.wrap .u64 (z1.2.2.2.2.1*4294967296))+z1.2.2.1))-(IntKind.wrap .u64 (z1.2.2.2.2.2*z1.1)))) z1.2.1))
       else none)
      else none)
     else none)
    else none)
   else none)
  else none)
 else none
def I2 (k:Nat)(a0 a1 a2:Int):Option (Int×Bool):=
 bif decide (a0<0) then some (0,false)
 else bif decide (a1<0) then some (0,false)
 else(O6 k a2).bind fun x0=>
 bif !x0 then some (0,false)
 else(EX k (IntKind.wrap .u64 (a0)) (IntKind.wrap .u64 (a1))).bind fun x1=>
 (I1 k (Int.tmod x1.1 10000) x1.2 10000).bind fun x2=>
 (EX k x2.1 (IntKind.wrap .u64 ((zA (10000-a2))))).bind fun x3=>
 (yf k x3.2 (IntKind.wrap .u64 (Int.tdiv (IntKind.wrap .u64 (x2.2*(IntKind.wrap .u64 ((zA (10000-a2)))))) 10000)) 0).bind fun x4=>
 bif decide ((IntKind.wrap .u64 (Int.tdiv x1.1 10000)) > 0) then (bif decide ((IntKind.wrap .u64 ((zA (10000-a2))))>0) then some (0,false)
  else bif decide ((IntKind.wrap .u64 (x3.1+x4.2))>0) then some (0,false)
  else bif decide (x4.1>9223372036854775807) then some (0,false)
  else some ((zA (x4.1)),true))
 else bif decide ((IntKind.wrap .u64 (x3.1+x4.2))>0) then some (0,false)
 else bif decide (x4.1>9223372036854775807) then some (0,false)
 else some ((zA (x4.1)),true)
abbrev RN:Type:=Int→Int→AC→Int→Int→Option wQ
def AP (k:Nat)(rec:RN)(s4 s5:Int)(s9:AC)(aw bJ:Int):Option wQ:=
 bif decide (bJ < aw) then (bif zD bJ s9.length then ((yf k s5 (IntKind.wrap .u64 ((s9.getD bJ.toNat 0))) 0).bind fun x0=>
   rec (zA (s4+(zA ((shr .i64 (s9.getD bJ.toNat 0) 63)+(zA (x0.2)))))) x0.1 s9 aw (zA (bJ+1)))
  else none)
 else some (s4,s5)
def AO (k:Nat):Nat→RN
 |0,_,_,_,_,_=>none
 |n+1,s4,s5,s9,aw,bJ=>AP k (AO k n) s4 s5 s9 aw bJ
def AN (k:Nat)(a0:AC):Option (Int×Bool):=
 (AO k k 0 0 a0 (a0.length:Int) 0).bind fun z=>
 bif !(decide (z.1=(shr .i64 (zA (z.2)) 63))) then some (0,false)
 else some ((zA (z.2)),true)
abbrev RP:Type:=AC→AC→List wQ→Int→Int→AC→Option (AC⊕(Int×Bool))
def AT (k:Nat)(rec:RP)(s1 s2:AC)(fT:List wQ)(aK di:Int)(r0:AC):Option (AC⊕(Int×Bool)):=
 bif decide (di < aK) then (bif zD di fT.length then (bif zD di s1.length then (bif zD di s2.length then ((I2 k (s1.getD di.toNat 0) (s2.getD di.toNat 0) (fT.getD di.toNat (0,0)).2).bind fun x0=>
     bif !x0.2 then some (.inr (0,false))
     else bif zY (r0.length+1) 8 then(rec s1 s2 fT aK (zA (di+1)) (r0++[x0.1]))
     else none)
    else none)
   else none)
  else none)
 else some (.inl r0)
def AR (k:Nat):Nat→RP:=vT (fun _ _ _ _ _ _=>none) (AT k)
def nI (k:Nat)(a0:List wQ)(a1 a2:AC):Option (Int×Bool):=
 bif !(decide ((a1.length:Int)=(a0.length:Int))) then some (0,false)
 else bif !(decide ((a2.length:Int)=(a0.length:Int))) then some (0,false)
 else(AR k k a1 a2 a0 (a0.length:Int) 0 []).bind fun z=>
 match z with
 |.inl z1=>(AN k z1).bind fun x1=>
  some (x1.1,x1.2)
 |.inr z2=>some (z2.1,z2.2)
def Jp (k:Nat)(a0:wR)(a1 a2:Int):Option (Int×wR):=
 (F5 k a0 a1).bind fun x0=>
 bif !x0 then some (1,a0)
 else(yP k a2 0 1099511627776).bind fun x1=>
 bif !x1 then some (1,a0)
 else(Bq k a0.2.2.2.2.2.2.2.2.2.2.2.1).bind fun x2=>
 bif zD a0.2.2.2.2.2.2.2.2.2.2.2.2.2.2.2.2.1 x2.length then ((mo k (x2.getD a0.2.2.2.2.2.2.2.2.2.2.2.2.2.2.2.2.1.toNat []) a1 a2).bind fun x3=>
  bif zD a0.2.2.2.2.2.2.2.2.2.2.2.2.2.2.2.2.1 x2.length then (let y0:EQ:=(x2.set a0.2.2.2.2.2.2.2.2.2.2.2.2.2.2.2.2.1.toNat x3)
   bif zD a0.2.2.2.2.2.2.2.2.2.2.2.2.2.2.2.2.1 y0.length then ((nI k a0.2.1 a0.2.2.2.2.2.2.2.2.2.2.1 (y0.getD a0.2.2.2.2.2.2.2.2.2.2.2.2.2.2.2.2.1.toNat [])).bind fun x4=>
    bif zD a0.2.2.2.2.2.2.2.2.2.2.2.2.2.2.2.2.1 a0.2.2.2.2.2.2.1.length then (bif !x4.2 then some (8,a0)
     else bif decide (x4.1>1152921504606846976) then some (8,a0)
     else bif decide (x4.1 < (a0.2.2.2.2.2.2.1.getD a0.2.2.2.2.2.2.2.2.2.2.2.2.2.2.2.2.1.toNat (0, 0, 0)).2.1) then (bif decide ((zA ((a0.2.2.2.2.2.2.1.getD a0.2.2.2.2.2.2.2.2.2.2.2.2.2.2.2.2.1.toNat (0,0,0)).1+x4.1))<0) then some (9,a0)
      else(dG k a0.2.2.2.2.2.2.1 a0.2.2.2.2.2.2.2.1 a0.2.2.2.2.2.2.2.2.1 a0.2.2.2.2.2.2.2.2.2.1).bind fun x5=>
      bif zD a0.2.2.2.2.2.2.2.2.2.2.2.2.2.2.2.2.1 x5.1.length then (let y1:List zM:=(x5.1.set a0.2.2.2.2.2.2.2.2.2.2.2.2.2.2.2.2.1.toNat ((x5.1.getD a0.2.2.2.2.2.2.2.2.2.2.2.2.2.2.2.2.1.toNat (0,0,0)).1,x4.1,(x5.1.getD a0.2.2.2.2.2.2.2.2.2.2.2.2.2.2.2.2.1.toNat (0,0,0)).2.2))
       some (0,(fO a0 (y1,x5.2.1,x5.2.2.1,x5.2.2.2,a0.2.2.2.2.2.2.2.2.2.2.1,y0,a0.2.2.2.2.2.2.2.2.2.2.2.2))))
      else none)
     else(dG k a0.2.2.2.2.2.2.1 a0.2.2.2.2.2.2.2.1 a0.2.2.2.2.2.2.2.2.1 a0.2.2.2.2.2.2.2.2.2.1).bind fun x6=>
     bif zD a0.2.2.2.2.2.2.2.2.2.2.2.2.2.2.2.2.1 x6.1.length then (let y2:List zM:=(x6.1.set a0.2.2.2.2.2.2.2.2.2.2.2.2.2.2.2.2.1.toNat ((x6.1.getD a0.2.2.2.2.2.2.2.2.2.2.2.2.2.2.2.2.1.toNat (0,0,0)).1,x4.1,(x6.1.getD a0.2.2.2.2.2.2.2.2.2.2.2.2.2.2.2.2.1.toNat (0,0,0)).2.2))
      some (0,(fO a0 (y2,x6.2.1,x6.2.2.1,x6.2.2.2,a0.2.2.2.2.2.2.2.2.2.2.1,y0,a0.2.2.2.2.2.2.2.2.2.2.2.2))))
     else none)
    else none)
   else none)
  else none)
 else none
def Jq (k:Nat)(a0 a1:Int):Option (Int×Bool):=
 bif decide (a1 > 0) then (bif decide (a0>(zA (9223372036854775807-a1))) then some (0,false)
  else bif decide (a1 < 0) then (bif decide (a0<(zA ((-9223372036854775808)-a1))) then some (0,false)
   else some ((zA (a0+a1)),true))
  else some ((zA (a0+a1)),true))
 else bif decide (a1 < 0) then (bif decide (a0<(zA ((-9223372036854775808)-a1))) then some (0,false)
  else some ((zA (a0+a1)),true))
 else some ((zA (a0+a1)),true)
def H3 (k:Nat)(pQ pR lK:Int):Option Bool:=
 bif decide (pQ > (-4611686018427387904)) then (bif decide (pQ < 4611686018427387904) then (bif decide (pR ≥ 0) then (bif decide (pR ≤ 2305843009213693952) then (bif decide (lK≥0) then some (decide (lK≤2305843009213693952))
     else some false)
    else some false)
   else some false)
  else some false)
 else some false
def Fj (k:Nat)(a0:zM)(a1:Int):Option (zM×Int):=
 (Jq k a0.1 a1).bind fun x0=>
 bif !x0.2 then some (a0,8)
 else(H3 k x0.1 a0.2.1 a0.2.2).bind fun x1=>
 bif !x1 then some (a0,8)
 else some ((x0.1,a0.2),0)
def Bw (k:Nat)(a0:zM)(a1:Int):Option (zM×Int):=
 (Fj k a0 a1).bind fun x0=>
 some (x0.1,x0.2)
def rV (k:Nat)(pQ pR lK a1:Int):Option Int:=
 some (vP false (zA (lK-a1)) 0)
def Bx (k:Nat)(a0:zM)(a1 a2:Int):Option (zM×Int):=
 (Fj k a0 (zA (0-a1))).bind fun x0=>
 bif decide (x0.2 = 0) then (bif decide (a2 = 1) then ((rV k a0.1 a0.2.1 a0.2.2 a1).bind fun x1=>
   some ((x0.1.1,x0.1.2.1,x1),x0.2))
  else bif decide (a2 = 2) then ((rV k a0.1 a0.2.1 a0.2.2 a1).bind fun x2=>
   some ((x0.1.1,x0.1.2.1,x2),x0.2))
  else some (x0.1,x0.2))
 else some (x0.1,x0.2)
def By (k:Nat)(a0:zM)(a1:Int):Option Int:=
 bif decide (a1=3) then some (zA ((zA (a0.1+a0.2.1))-a0.2.2))
 else some (zA (a0.1+a0.2.1))
def RR (k:Nat)(a0:wR)(a1 a2 a3:Int):Option (Int×wR):=
 (yP k a2 0 (zA (a0.1-1))).bind fun x0=>
 bif !x0 then some (1,a0)
 else(yP k a3 1 1099511627776).bind fun x1=>
 bif !x1 then some (1,a0)
 else bif zD a2 a0.2.2.2.2.2.2.1.length then ((Bw k (a0.2.2.2.2.2.2.1.getD a2.toNat (0,0,0)) a3).bind fun x2=>
  bif decide (a1 = 11) then ((Bx k (a0.2.2.2.2.2.2.1.getD a2.toNat (0,0,0)) a3 3).bind fun x3=>
   (By k (a0.2.2.2.2.2.2.1.getD a2.toNat (0,0,0)) 3).bind fun x4=>
   bif decide (x4<a3) then some (9,a0)
   else bif decide ((zA (a0.2.2.2.2.2.2.2.2.2.2.2.2.2.2.1-a3))<0) then some (9,a0)
   else bif !(decide (x3.2=0)) then some (x3.2,a0)
   else bif decide ((zA (a0.2.2.2.2.2.2.2.2.2.2.2.2.2.2.1-a3))>1152921504606846976) then some (8,a0)
   else(dG k a0.2.2.2.2.2.2.1 a0.2.2.2.2.2.2.2.1 a0.2.2.2.2.2.2.2.2.1 a0.2.2.2.2.2.2.2.2.2.1).bind fun x5=>
   bif zD a2 x5.1.length then some (0,(fO a0 ((x5.1.set a2.toNat x3.1),x5.2.1,x5.2.2.1,x5.2.2.2,(KS a0 ((zA (a0.2.2.2.2.2.2.2.2.2.2.2.2.2.2.1-a3)),a0.2.2.2.2.2.2.2.2.2.2.2.2.2.2.2)))))
   else none)
  else bif !(decide (x2.2=0)) then some (x2.2,a0)
  else bif decide ((zA (a0.2.2.2.2.2.2.2.2.2.2.2.2.2.2.1+a3))>1152921504606846976) then some (8,a0)
  else(dG k a0.2.2.2.2.2.2.1 a0.2.2.2.2.2.2.2.1 a0.2.2.2.2.2.2.2.2.1 a0.2.2.2.2.2.2.2.2.2.1).bind fun x6=>
  bif zD a2 x6.1.length then some (0,(fO a0 ((x6.1.set a2.toNat x2.1),x6.2.1,x6.2.2.1,x6.2.2.2,(KS a0 ((zA (a0.2.2.2.2.2.2.2.2.2.2.2.2.2.2.1+a3)),a0.2.2.2.2.2.2.2.2.2.2.2.2.2.2.2)))))
  else none)
 else none
abbrev RW:Type:=(gX×(List vD)×AC×(List zM)×EQ×AC×EQ)⊕(Int×gX×(List vD))
abbrev RU:Type:=EQ→Int→Int→gX→List vD→AC→List zM→EQ→AC→EQ→Option RW
def qTd (k:Nat)(rec:RU)(dL:EQ)(fq gG:Int)(b0:gX)(r1:List vD)(r2:AC)(r4:List zM)(m5:EQ)(r6:AC)(m7:EQ):Option RW:=
 bif decide (gG < fq) then (bif zD gG dL.length then ((nI k b0.2.1 r2 (dL.getD gG.toNat [])).bind fun x4=>
   bif !x4.2 then some (.inr (8,b0,r1))
   else bif decide (x4.1>1152921504606846976) then some (.inr (8,b0,r1))
   else bif zD gG r4.length then (let y0:List zM:=(r4.set gG.toNat ((r4.getD gG.toNat (0,0,0)).1,x4.1,(r4.getD gG.toNat (0,0,0)).2.2))
    rec dL fq (zA (gG+1)) b0 r1 r2 y0 m5 r6 m7)
   else none)
  else none)
 else some (.inl (b0,r1,r2,r4,m5,r6,m7))
def RX (k:Nat):Nat→RU:=vT (fun _ _ _ _ _ _ _ _ _ _=>none) (qTd k)
def yLb (k:Nat)(a0:wR)(a1 a2:Int):Option (Int×wR):=
 (F5 k a0 a1).bind fun x0=>
 bif !x0 then some (1,a0)
 else(yP k a2 0 1048576).bind fun x1=>
 bif !x1 then some (1,a0)
 else(mo k a0.2.2.2.2.2.2.2.2.2.2.1 a1 a2).bind fun x2=>
 (dG k a0.2.2.2.2.2.2.1 a0.2.2.2.2.2.2.2.1 a0.2.2.2.2.2.2.2.2.1 a0.2.2.2.2.2.2.2.2.2.1).bind fun x3=>
 (RX k k a0.2.2.2.2.2.2.2.2.2.2.2.1 (a0.2.2.2.2.2.2.2.2.2.2.2.1.length:Int) 0 (gV a0) a0.2.2.2.2.2.2.2.2.2.2.2.2.2.2.2.2.2 x2 x3.1 x3.2.1 x3.2.2.1 x3.2.2.2).bind fun z=>
 match z with
 |.inl z1=>some (0,(fO z1.1 (yZ1 z1 (z1.2.2.1,(Px z1.1 z1.2.1)))))
 |.inr z2=>some (z2.1,(yX z2.2.1 z2.2.2))
def JB (k:Nat)(a0:wR)(a1:zE):Option (Int×wR):=
 bif decide (a1.1 = 1) then ((Jo k a0 a1.2).bind fun x0=>
  some (x0.1,x0.2))
 else bif decide (a1.1 = 2) then ((u9 k a0 a1).bind fun x1=>
  some (x1.1,x1.2))
 else bif decide (a1.1 = 3) then ((u9 k a0 a1).bind fun x2=>
  some (x2.1,x2.2))
 else bif decide (a1.1 = 4) then ((u9 k a0 a1).bind fun x3=>
  some (x3.1,x3.2))
 else bif decide (a1.1 = 5) then ((vd k a0 a1).bind fun x4=>
  some (x4.1,x4.2))
 else bif decide (a1.1 = 6) then ((vd k a0 a1).bind fun x5=>
  some (x5.1,x5.2))
 else bif decide (a1.1 = 7) then ((vd k a0 a1).bind fun x6=>
  some (x6.1,x6.2))
 else bif decide (a1.1 = 8) then ((Jp k a0 a1.2.1 a1.2.2.1).bind fun x7=>
  some (x7.1,x7.2))
 else bif decide (a1.1 = 10) then ((RR k a0 a1.1 a1.2.1 a1.2.2.1).bind fun x8=>
  some (x8.1,x8.2))
 else bif decide (a1.1 = 11) then ((RR k a0 a1.1 a1.2.1 a1.2.2.1).bind fun x9=>
  some (x9.1,x9.2))
 else bif decide (a1.1 = 12) then ((yLb k a0 a1.2.1 a1.2.2.1).bind fun cm=>
  some (cm.1,cm.2))
 else some (0,a0)
def Bm (k:Nat)(KU:Int)(KV:List wQ)(KW Cd Ce a1:Int):Option Bool:=
 some (decide (a1=Cd))
def mq (k:Nat)(a0 a1:Int)(a2:AC):Option vD:=
 some (a0,a1,(bif (Nat.blt 0 a2.length) then(a2.getD 0 0) else 0),(bif (Nat.blt 1 a2.length) then(a2.getD 1 0) else 0),(bif (Nat.blt 2 a2.length) then(a2.getD 2 0) else 0),(bif (Nat.blt 3 a2.length) then(a2.getD 3 0) else 0),(bif (Nat.blt 4 a2.length) then(a2.getD 4 0) else 0),(bif (Nat.blt 5 a2.length) then(a2.getD 5 0) else 0))
abbrev RZ:Type:=Int×(List zM)×EQ×AC×EQ×AC×EQ×(List zE)×AC×Int×Bool×Int×Int×Bool×(List vD)
abbrev RY:Type:=List zE→Int→Int→Int→List zM→EQ→AC→EQ→AC→EQ→List zE→AC→Int→Bool→Int→Int→Bool→List vD→Option RZ
def Bh (k:Nat)(rec:RY)(aw:List zE)(bJ bU aa:Int)(af:List zM)(ag:EQ)(ae:AC)(aS:EQ)(ba:AC)(bb:EQ)(cI:List zE)(cJ:AC)(cL:Int)(bG:Bool)(aq bg:Int)(aI:Bool)(r2:List vD):Option RZ:=
 bif decide (bU < bJ) then (bif zD bU aw.length then ((mq k (aw.getD bU.toNat (0,0,0,0,0,0,0)).2.1 22 [(aw.getD bU.toNat (0,0,0,0,0,0,0)).1]).bind fun x0=>
   bif zY (r2.length+1) 64 then(rec aw bJ (zA (bU+1)) aa af ag ae aS ba bb cI cJ cL bG aq bg aI (r2++[x0]))
   else none)
  else none)
 else some (aa,af,ag,ae,aS,ba,bb,cI,cJ,cL,bG,aq,bg,aI,r2)
def Bg (k:Nat):Nat→RY
 |0,_,_,_,_,_,_,_,_,_,_,_,_,_,_,_,_,_,_=>none
 |n+1,aw,bJ,bU,aa,af,ag,ae,aS,ba,bb,cI,cJ,cL,bG,aq,bg,aI,r2=>Bh k (Bg k n) aw bJ bU aa af ag ae aS ba bb cI cJ cL bG aq bg aI r2
abbrev R1:Type:=Int×(List zM)×EQ×AC×EQ×AC×EQ×(List zE)×AC×Int×Bool×Int×Int×Bool×(List vD)
abbrev R0:Type:=List zM→Int→Int→Int→List zM→EQ→AC→EQ→AC→EQ→List zE→AC→Int→Bool→Int→Int→Bool→List vD→Option R1
def Bj (k:Nat)(rec:R0)(g9:List zM)(dj iO aa:Int)(af:List zM)(ag:EQ)(ae:AC)(aS:EQ)(ba:AC)(bb:EQ)(cI:List zE)(cJ:AC)(cL:Int)(bG:Bool)(aq bg:Int)(aI:Bool)(r2:List vD):Option R1:=
 bif decide (iO < dj) then (bif zD iO g9.length then ((mq k iO 23 [(g9.getD iO.toNat (0,0,0)).1]).bind fun x1=>
   bif zY (r2.length+1) 64 then(rec g9 dj (zA (iO+1)) aa af ag ae aS ba bb cI cJ cL bG aq bg aI (r2++[x1]))
   else none)
  else none)
 else some (aa,af,ag,ae,aS,ba,bb,cI,cJ,cL,bG,aq,bg,aI,r2)
def Bi (k:Nat):Nat→R0
 |0,_,_,_,_,_,_,_,_,_,_,_,_,_,_,_,_,_,_=>none
 |n+1,g9,dj,iO,aa,af,ag,ae,aS,ba,bb,cI,cJ,cL,bG,aq,bg,aI,r2=>Bj k (Bi k n) g9 dj iO aa af ag ae aS ba bb cI cJ cL bG aq bg aI r2
def Jl (k:Nat)(KX:Int)(UW:List zM)(UX:EQ)(UY:AC)(UZ:EQ)(U0:AC)(U1:EQ)(Gh:List zE)(U2:AC)(U3:Int)(U4:Bool):Option UN:=
 (Bg k k Gh (Gh.length:Int) 0 KX UW UX UY UZ U0 U1 Gh U2 U3 U4 0 0 false []).bind fun z=>
 (Bi k k z.2.1 (z.2.1.length:Int) 0 z.1 z.2.1 z.2.2.1 z.2.2.2.1 z.2.2.2.2.1 z.2.2.2.2.2.1 z.2.2.2.2.2.2.1 z.2.2.2.2.2.2.2.1 z.2.2.2.2.2.2.2.2.1 z.2.2.2.2.2.2.2.2.2.1 z.2.2.2.2.2.2.2.2.2.2.1 z.2.2.2.2.2.2.2.2.2.2.2.1 z.2.2.2.2.2.2.2.2.2.2.2.2.1 z.2.2.2.2.2.2.2.2.2.2.2.2.2.1 z.2.2.2.2.2.2.2.2.2.2.2.2.2.2).bind fun z1=>
 some (B8 z1 ([],z1.2.2.2.2.2.2.2.2.1,z1.2.2.2.2.2.2.2.2.2.1,true,z1.2.2.2.2.2.2.2.2.2.2.2.2.2.2))
def Ps (k:Nat)(gE cp cN gZ eX gF fS a1:Int):Option Bool:=
 some (decide (a1>fS))
def Jm (k:Nat)(KU:Int)(KV:List wQ)(KW Cd Ce a1:Int):Option Bool:=
 bif decide (a1 > 0) then (bif decide (a1 < Cd) then (bif !(decide (Ce=0)) then some (decide ((Int.tmod a1 Ce)=0))
   else none)
  else some false)
 else some false
def OK (k:Nat)(gE cp cN gZ eX gF fS a1:Int):Option Bool:=
 bif decide (a1≥gF) then some (decide (a1≤fS))
 else some false
def OJ (k:Nat)(gE cp cN gZ eX gF fS a1:Int):Option Bool:=
 (OK k gE cp cN gZ eX gF fS a1).bind fun x0=>
 some x0
abbrev R5:Type:=List zE
abbrev R3:Type:=List zE→Int→Int→Int→List zE→Option R5
def Av (k:Nat)(rec:R3)(s8:List zE)(s9 aw aa:Int)(r1:List zE):Option R5:=
 bif decide (aw < s9) then (bif zD aw s8.length then ((OJ k (s8.getD aw.toNat (0,0,0,0,0,0,0)).1 (s8.getD aw.toNat (0,0,0,0,0,0,0)).2.1 (s8.getD aw.toNat (0,0,0,0,0,0,0)).2.2.1 (s8.getD aw.toNat (0,0,0,0,0,0,0)).2.2.2.1 (s8.getD aw.toNat (0,0,0,0,0,0,0)).2.2.2.2.1 (s8.getD aw.toNat (0,0,0,0,0,0,0)).2.2.2.2.2.1 (s8.getD aw.toNat (0,0,0,0,0,0,0)).2.2.2.2.2.2 aa).bind fun x0=>
   bif x0 then (bif zY (r1.length + 1) 56 then (let y0:List zE:=(r1++[(s8.getD aw.toNat (0,0,0,0,0,0,0))])
     rec s8 s9 (zA (aw+1)) aa y0)
    else none)
   else rec s8 s9 (zA (aw+1)) aa r1)
  else none)
 else some r1
def EK (k:Nat):Nat→R3
 |0,_,_,_,_,_=>none
 |n+1,s8,s9,aw,aa,r1=>Av k (EK k n) s8 s9 aw aa r1
def OI (k:Nat)(a0:List zE)(cd:Int):Option (List zE):=
 (EK k k a0 (a0.length:Int) 0 cd []).bind fun z=>
 some z
def Au (k:Nat)(a0:List zE)(a1:Int):Option (List zE):=
 (OI k a0 a1).bind fun x0=>
 some x0
def OO (k:Nat)(gE cp cN gZ eX gF fS US mD pP wc sX UT UU:Int):Option Bool:=
 bif decide (cp=mD) then some (!(decide (eX=3)))
 else some false
abbrev R6:Type:=List zE→Int→Int→Int→Int→Int→Int→Int→Int→Int→Option (Unit⊕Int)
def Ax (k:Nat)(rec:R6)(s0:List zE)(s7 s8 aa af ag ae aS ba bb:Int):Option (Unit⊕Int):=
 bif decide (s8 < s7) then (bif zD s8 s0.length then ((OO k (s0.getD s8.toNat (0,0,0,0,0,0,0)).1 (s0.getD s8.toNat (0,0,0,0,0,0,0)).2.1 (s0.getD s8.toNat (0,0,0,0,0,0,0)).2.2.1 (s0.getD s8.toNat (0,0,0,0,0,0,0)).2.2.2.1 (s0.getD s8.toNat (0,0,0,0,0,0,0)).2.2.2.2.1 (s0.getD s8.toNat (0,0,0,0,0,0,0)).2.2.2.2.2.1 (s0.getD s8.toNat (0,0,0,0,0,0,0)).2.2.2.2.2.2 aa af ag ae aS ba bb).bind fun x0=>
   bif x0 then some (.inr s8)
   else rec s0 s7 (zA (s8+1)) aa af ag ae aS ba bb)
  else none)
 else some (.inl ())
def Aw (k:Nat):Nat→R6
 |0,_,_,_,_,_,_,_,_,_,_=>none
 |n+1,s0,s7,s8,aa,af,ag,ae,aS,ba,bb=>Ax k (Aw k n) s0 s7 s8 aa af ag ae aS ba bb
def OP (k:Nat)(a0:List zE)(U5 U6 U7 U8 U9 Va Vb:Int):Option Int:=
 (Aw k k a0 (a0.length:Int) 0 U5 U6 U7 U8 U9 Va Vb).bind fun z=>
 match z with
 |.inl z1=>some (-1)
 |.inr z2=>some z2
def IL (k:Nat)(a0:List zE)(U5 U6 U7 U8 U9 Va Vb:Int):Option Bool:=
 (OP k a0 U5 U6 U7 U8 U9 Va Vb).bind fun x0=>
 some (decide (x0≥0))
def OR (k:Nat)(gE cp cN gZ eX gF fS:Int)(a1:List (Int×Bool))(a2:List zE):Option (Bool×(List (Int×Bool))):=
 bif !(Option.getD (List.lookup cp a1) false) then some (true,((cp,true)::a1))
 else bif decide (eX = 3) then ((IL k a2 gE cp cN gZ eX gF fS).bind fun x0=>
  some ((!x0),((cp,true)::a1)))
 else some (false,((cp,true)::a1))
abbrev Sb:Type:=(List (Int×Bool))×(List zE)×(List zE)
abbrev R9:Type:=List zE→Int→Int→List (Int×Bool)→List zE→List zE→Option Sb
def Az (k:Nat)(rec:R9)(s8:List zE)(s9 aw:Int)(p1:List (Int×Bool))(bE r3:List zE):Option Sb:=
 bif decide (aw < s9) then (bif zD aw s8.length then ((OR k (s8.getD aw.toNat (0,0,0,0,0,0,0)).1 (s8.getD aw.toNat (0,0,0,0,0,0,0)).2.1 (s8.getD aw.toNat (0,0,0,0,0,0,0)).2.2.1 (s8.getD aw.toNat (0,0,0,0,0,0,0)).2.2.2.1 (s8.getD aw.toNat (0,0,0,0,0,0,0)).2.2.2.2.1 (s8.getD aw.toNat (0,0,0,0,0,0,0)).2.2.2.2.2.1 (s8.getD aw.toNat (0,0,0,0,0,0,0)).2.2.2.2.2.2 p1 bE).bind fun x0=>
   bif x0.1 then (bif zY (r3.length + 1) 56 then (let y0:List zE:=(r3++[(s8.getD aw.toNat (0,0,0,0,0,0,0))])
     rec s8 s9 (zA (aw+1)) x0.2 bE y0)
    else none)
   else rec s8 s9 (zA (aw+1)) x0.2 bE r3)
  else none)
 else some (p1,bE,r3)
def Ay (k:Nat):Nat→R9
 |0,_,_,_,_,_,_=>none
 |n+1,s8,s9,aw,p1,bE,r3=>Az k (Ay k n) s8 s9 aw p1 bE r3
def OQ (k:Nat)(a0:List zE)(cd:List (Int×Bool))(Vc:List zE):Option ((List zE)×(List (Int×Bool))):=
 (Ay k k a0 (a0.length:Int) 0 cd Vc []).bind fun z=>
 some (z.2.2,z.1)
def EM (k:Nat)(a0:List zE)(a1:Int):Option (List zE):=
 (Au k a0 a1).bind fun x0=>
 (OQ k x0 [] x0).bind fun x1=>
 some x1.1
def zh (k:Nat)(aX:List zM)(bB:EQ)(bA:AC)(bo:EQ)(US mD pP wc sX UT UU:Int):Option Bool:=
 bif decide (mD ≥ 0) then (bif decide (mD < (aX.length : Int)) then (bif decide (pP ≥ 0) then (bif decide (pP < (aX.length : Int)) then (bif !(decide (mD = pP)) then (bif decide (wc ≥ 1) then (bif decide (wc ≤ 1099511627776) then (bif decide (sX≥1) then some (decide (sX≤3))
        else some false)
       else some false)
      else some false)
     else some false)
    else some false)
   else some false)
  else some false)
 else some false
def OF (k:Nat)(gE cp cN gZ eX gF fS:Int)(gH:List zM)(pS:EQ)(pT:AC)(pU:EQ):Option Bool:=
 (zh k gH pS pT pU gE cp cN gZ eX gF fS).bind fun x0=>
 some (!x0)
abbrev Sd:Type:=List zE→Int→Int→List zM→EQ→AC→EQ→Option (Unit⊕Int)
def z9 (k:Nat)(rec:Sd)(s0:List zE)(s7 s8:Int)(aa:List zM)(af:EQ)(ag:AC)(ae:EQ):Option (Unit⊕Int):=
 bif decide (s8 < s7) then (bif zD s8 s0.length then ((OF k (s0.getD s8.toNat (0,0,0,0,0,0,0)).1 (s0.getD s8.toNat (0,0,0,0,0,0,0)).2.1 (s0.getD s8.toNat (0,0,0,0,0,0,0)).2.2.1 (s0.getD s8.toNat (0,0,0,0,0,0,0)).2.2.2.1 (s0.getD s8.toNat (0,0,0,0,0,0,0)).2.2.2.2.1 (s0.getD s8.toNat (0,0,0,0,0,0,0)).2.2.2.2.2.1 (s0.getD s8.toNat (0,0,0,0,0,0,0)).2.2.2.2.2.2 aa af ag ae).bind fun x0=>
   bif x0 then some (.inr s8)
   else rec s0 s7 (zA (s8+1)) aa af ag ae)
  else none)
 else some (.inl ())
def EI (k:Nat):Nat→Sd
 |0,_,_,_,_,_,_,_=>none
 |n+1,s0,s7,s8,aa,af,ag,ae=>z9 k (EI k n) s0 s7 s8 aa af ag ae
def OG (k:Nat)(a0:List zE)(we:List zM)(wg:EQ)(wh:AC)(wi:EQ):Option Int:=
 (EI k k a0 (a0.length:Int) 0 we wg wh wi).bind fun z=>
 match z with
 |.inl z1=>some (-1)
 |.inr z2=>some z2
def IK (k:Nat)(a0:List zE)(we:List zM)(wg:EQ)(wh:AC)(wi:EQ):Option Bool:=
 (OG k a0 we wg wh wi).bind fun x0=>
 some (decide (x0≥0))
abbrev Si:Type:=AC×AC×EQ
abbrev Sg:Type:=List zE→Int→Int→AC→AC→EQ→Option Si
def zv (k:Nat)(rec:Sg)(aM:List zE)(bF aR:Int)(r2 r3:AC)(m4:EQ):Option Si:=
 bif decide (aR < bF) then (bif zD aR aM.length then (bif zD (aM.getD aR.toNat (0, 0, 0, 0, 0, 0, 0)).2.1 r2.length then (bif zD (aM.getD aR.toNat (0, 0, 0, 0, 0, 0, 0)).2.1 r2.length then (let y0:AC:=(r2.set (aM.getD aR.toNat (0,0,0,0,0,0,0)).2.1.toNat (zA ((r2.getD (aM.getD aR.toNat (0,0,0,0,0,0,0)).2.1.toNat 0)-(aM.getD aR.toNat (0,0,0,0,0,0,0)).2.2.2.1)))
     bif zD (aM.getD aR.toNat (0, 0, 0, 0, 0, 0, 0)).2.2.1 y0.length then (bif zD (aM.getD aR.toNat (0, 0, 0, 0, 0, 0, 0)).2.2.1 y0.length then (let y1:AC:=(y0.set (aM.getD aR.toNat (0,0,0,0,0,0,0)).2.2.1.toNat (zA ((y0.getD (aM.getD aR.toNat (0,0,0,0,0,0,0)).2.2.1.toNat 0)+(aM.getD aR.toNat (0,0,0,0,0,0,0)).2.2.2.1)))
       bif zD (aM.getD aR.toNat (0, 0, 0, 0, 0, 0, 0)).2.1 m4.length then (bif zD (aM.getD aR.toNat (0, 0, 0, 0, 0, 0, 0)).2.2.1 (m4.getD (aM.getD aR.toNat (0, 0, 0, 0, 0, 0, 0)).2.1.toNat []).length then (bif zD (aM.getD aR.toNat (0, 0, 0, 0, 0, 0, 0)).2.2.1 (m4.getD (aM.getD aR.toNat (0, 0, 0, 0, 0, 0, 0)).2.1.toNat []).length then (let y2:EQ:=(m4.set (aM.getD aR.toNat (0,0,0,0,0,0,0)).2.1.toNat ((m4.getD (aM.getD aR.toNat (0,0,0,0,0,0,0)).2.1.toNat []).set (aM.getD aR.toNat (0,0,0,0,0,0,0)).2.2.1.toNat (zA (((m4.getD (aM.getD aR.toNat (0,0,0,0,0,0,0)).2.1.toNat []).getD (aM.getD aR.toNat (0,0,0,0,0,0,0)).2.2.1.toNat 0)+(aM.getD aR.toNat (0,0,0,0,0,0,0)).2.2.2.1))))
          bif zD (aM.getD aR.toNat (0, 0, 0, 0, 0, 0, 0)).2.2.1 y2.length then (bif zD (aM.getD aR.toNat (0, 0, 0, 0, 0, 0, 0)).2.1 (y2.getD (aM.getD aR.toNat (0, 0, 0, 0, 0, 0, 0)).2.2.1.toNat []).length then (bif zD (aM.getD aR.toNat (0, 0, 0, 0, 0, 0, 0)).2.1 (y2.getD (aM.getD aR.toNat (0, 0, 0, 0, 0, 0, 0)).2.2.1.toNat []).length then (let y3:EQ:=(y2.set (aM.getD aR.toNat (0,0,0,0,0,0,0)).2.2.1.toNat ((y2.getD (aM.getD aR.toNat (0,0,0,0,0,0,0)).2.2.1.toNat []).set (aM.getD aR.toNat (0,0,0,0,0,0,0)).2.1.toNat (zA (((y2.getD (aM.getD aR.toNat (0,0,0,0,0,0,0)).2.2.1.toNat []).getD (aM.getD aR.toNat (0,0,0,0,0,0,0)).2.1.toNat 0)-(aM.getD aR.toNat (0,0,0,0,0,0,0)).2.2.2.1))))
             bif !(decide ((aM.getD aR.toNat (0, 0, 0, 0, 0, 0, 0)).2.2.2.2.1 = 3)) then (bif zD (aM.getD aR.toNat (0, 0, 0, 0, 0, 0, 0)).2.1 r3.length then (bif zD (aM.getD aR.toNat (0, 0, 0, 0, 0, 0, 0)).2.1 r3.length then (let y4:AC:=(r3.set (aM.getD aR.toNat (0,0,0,0,0,0,0)).2.1.toNat (zA ((r3.getD (aM.getD aR.toNat (0,0,0,0,0,0,0)).2.1.toNat 0)+(aM.getD aR.toNat (0,0,0,0,0,0,0)).2.2.2.1)))
                rec aM bF (zA (aR+1)) y1 y4 y3)
               else none)
              else none)
             else rec aM bF (zA (aR+1)) y1 r3 y3)
            else none)
           else none)
          else none)
         else none)
        else none)
       else none)
      else none)
     else none)
    else none)
   else none)
  else none)
 else some (r2,r3,m4)
def ED (k:Nat):Nat→Sg
 |0,_,_,_,_,_,_=>none
 |n+1,aM,bF,aR,r2,r3,m4=>zv k (ED k n) aM bF aR r2 r3 m4
def IF (k:Nat)(a0:Int)(a1:List zE):Option (AC×AC×EQ):=
 (uD k a0 0).bind fun x0=>
 (uD k a0 0).bind fun x1=>
 (zt k a0 0).bind fun x2=>
 (ED k k a1 (a1.length:Int) 0 x0 x1 x2).bind fun z=>
 some (z.1,z.2.1,z.2.2)
def Oz (k:Nat)(gE cp cN gZ eX gF fS a1:Int):Option Bool:=
 some (decide (cp=a1))
abbrev Sj:Type:=List zE→Int→Int→Int→Option (Unit⊕Int)
def zw (k:Nat)(rec:Sj)(s0:List zE)(s7 s8 aa:Int):Option (Unit⊕Int):=
 bif decide (s8 < s7) then (bif zD s8 s0.length then ((Oz k (s0.getD s8.toNat (0,0,0,0,0,0,0)).1 (s0.getD s8.toNat (0,0,0,0,0,0,0)).2.1 (s0.getD s8.toNat (0,0,0,0,0,0,0)).2.2.1 (s0.getD s8.toNat (0,0,0,0,0,0,0)).2.2.2.1 (s0.getD s8.toNat (0,0,0,0,0,0,0)).2.2.2.2.1 (s0.getD s8.toNat (0,0,0,0,0,0,0)).2.2.2.2.2.1 (s0.getD s8.toNat (0,0,0,0,0,0,0)).2.2.2.2.2.2 aa).bind fun x0=>
   bif x0 then some (.inr s8)
   else rec s0 s7 (zA (s8+1)) aa)
  else none)
 else some (.inl ())
def EE (k:Nat):Nat→Sj
 |0,_,_,_,_=>none
 |n+1,s0,s7,s8,aa=>zw k (EE k n) s0 s7 s8 aa
def OA (k:Nat)(a0:List zE)(cd:Int):Option Int:=
 (EE k k a0 (a0.length:Int) 0 cd).bind fun z=>
 match z with
 |.inl z1=>some (-1)
 |.inr z2=>some z2
def IG (k:Nat)(a0:List zE)(cd:Int):Option Bool:=
 (OA k a0 cd).bind fun x0=>
 some (decide (x0≥0))
def zq (k:Nat)(rec:Int→AC→Int→Int→Option Int)(s5:Int)(bU:AC)(bm bq:Int):Option Int:=
 bif decide (bq < bm) then (bif zD bq bU.length then(rec (zA (s5+(bU.getD bq.toNat 0))) bU bm (zA (bq+1)))
  else none)
 else some s5
def zp (k:Nat):Nat→Int→AC→Int→Int→Option Int
 |0,_,_,_,_=>none
 |n+1,s5,bU,bm,bq=>zq k (zp k n) s5 bU bm bq
def IC (k:Nat)(aX:List zM)(bB:EQ)(bA:AC)(bo:EQ)(a1:Int):Option Int:=
 bif zD a1 bo.length then ((zp k k 0 (bo.getD a1.toNat []) ((bo.getD a1.toNat []).length:Int) 0).bind fun z=>
  some z)
 else none
def zy (k:Nat)(a0 a1:Int):Option Bool:=
 bif !(decide (a1=(-1))) then some (decide (a0>a1))
 else some false
def OB (k:Nat)(gE cp cN gZ eX gF fS a1 vKc vKd vKe:Int)(Vd j4:AC)(cU:EQ)(a4:Int)(vKf:List zM)(Cf:EQ)(vKh:AC)(Cg:EQ):Option Bool:=
 bif !(decide (cp=a1)) then some false
 else bif zD a1 j4.length then ((rV k vKc vKd vKe (j4.getD a1.toNat 0)).bind fun x0=>
  bif decide (eX = 3) then (bif decide (a4<x0) then some true
   else bif zD a1 Cg.length then (bif zD cN (Cg.getD a1.toNat []).length then (bif zD a1 cU.length then (bif zD cN (cU.getD a1.toNat []).length then (bif zD a1 Cf.length then (bif zD cN (Cf.getD a1.toNat []).length then ((zy k (zA (((Cg.getD a1.toNat []).getD cN.toNat 0)+((cU.getD a1.toNat []).getD cN.toNat 0))) ((Cf.getD a1.toNat []).getD cN.toNat 0)).bind fun x1=>
         some x1)
        else none)
       else none)
      else none)
     else none)
    else none)
   else none)
  else bif zD a1 Cg.length then (bif zD cN (Cg.getD a1.toNat []).length then (bif zD a1 cU.length then (bif zD cN (cU.getD a1.toNat []).length then (bif zD a1 Cf.length then (bif zD cN (Cf.getD a1.toNat []).length then ((zy k (zA (((Cg.getD a1.toNat []).getD cN.toNat 0)+((cU.getD a1.toNat []).getD cN.toNat 0))) ((Cf.getD a1.toNat []).getD cN.toNat 0)).bind fun x2=>
        some x2)
       else none)
      else none)
     else none)
    else none)
   else none)
  else none)
 else none
abbrev So:Type:=List zE→Int→Int→Int→Int→Int→Int→AC→AC→EQ→Int→List zM→EQ→AC→EQ→Option (Unit⊕Int)
def zz (k:Nat)(rec:So)(s0:List zE)(s7 s8 aa aq ay az:Int)(bE pV:AC)(pW:EQ)(bK:Int)(ft:List zM)(pX:EQ)(pY:AC)(pZ:EQ):Option (Unit⊕Int):=
 bif decide (s8 < s7) then (bif zD s8 s0.length then ((OB k (s0.getD s8.toNat (0,0,0,0,0,0,0)).1 (s0.getD s8.toNat (0,0,0,0,0,0,0)).2.1 (s0.getD s8.toNat (0,0,0,0,0,0,0)).2.2.1 (s0.getD s8.toNat (0,0,0,0,0,0,0)).2.2.2.1 (s0.getD s8.toNat (0,0,0,0,0,0,0)).2.2.2.2.1 (s0.getD s8.toNat (0,0,0,0,0,0,0)).2.2.2.2.2.1 (s0.getD s8.toNat (0,0,0,0,0,0,0)).2.2.2.2.2.2 aa aq ay az bE pV pW bK ft pX pY pZ).bind fun x0=>
   bif x0 then some (.inr s8)
   else rec s0 s7 (zA (s8+1)) aa aq ay az bE pV pW bK ft pX pY pZ)
  else none)
 else some (.inl ())
def EG (k:Nat):Nat→So
 |0,_,_,_,_,_,_,_,_,_,_,_,_,_,_,_=>none
 |n+1,s0,s7,s8,aa,aq,ay,az,bE,pV,pW,bK,ft,pX,pY,pZ=>zz k (EG k n) s0 s7 s8 aa aq ay az bE pV pW bK ft pX pY pZ
def OC (k:Nat)(a0:List zE)(cd Ve Vf Vg:Int)(dt cV:AC)(du:EQ)(wj:Int)(Vh:List zM)(Vi:EQ)(Vj:AC)(Vk:EQ):Option Int:=
 (EG k k a0 (a0.length:Int) 0 cd Ve Vf Vg dt cV du wj Vh Vi Vj Vk).bind fun z=>
 match z with
 |.inl z1=>some (-1)
 |.inr z2=>some z2
def IH (k:Nat)(a0:List zE)(cd Ve Vf Vg:Int)(dt cV:AC)(du:EQ)(wj:Int)(Vh:List zM)(Vi:EQ)(Vj:AC)(Vk:EQ):Option Bool:=
 (OC k a0 cd Ve Vf Vg dt cV du wj Vh Vi Vj Vk).bind fun x0=>
 some (decide (x0≥0))
abbrev Su:Type:=(List zE)×Int×AC×AC×EQ×(List zM)×EQ×AC×EQ×Int×Int×Int×Int×Int
abbrev Sr:Type:=List zE→Int→AC→Int→Int→AC→AC→EQ→List zM→EQ→AC→EQ→Int→Int→Int→Int→Int→Option Su
def z6 (k:Nat)(rec:Sr)(s3:List zE)(bJ:Int)(gY:AC)(dL fq:Int)(aa af:AC)(ag:EQ)(aq:List zM)(ay:EQ)(az:AC)(aD:EQ)(bE bK cf cq ft:Int):Option Su:=
 bif decide (fq < dL) then (bif zD fq gY.length then(rec s3 (zA (bJ+(gY.getD fq.toNat 0))) gY dL (zA (fq+1)) aa af ag aq ay az aD bE bK cf cq ft)
  else none)
 else some (s3,bJ,aa,af,ag,aq,ay,az,aD,bE,bK,cf,cq,ft)
def uH (k:Nat):Nat→Sr
 |0,_,_,_,_,_,_,_,_,_,_,_,_,_,_,_,_,_=>none
 |n+1,s3,bJ,gY,dL,fq,aa,af,ag,aq,ay,az,aD,bE,bK,cf,cq,ft=>z6 k (uH k n) s3 bJ gY dL fq aa af ag aq ay az aD bE bK cf cq ft
def IJ (k:Nat)(fu qa:AC)(fw:EQ)(gH:List zM)(pS:EQ)(pT:AC)(pU:EQ)(a2:Int)(a3:List zE):Option Bool:=
 bif zD a2 gH.length then (bif zD a2 fu.length then (bif decide ((zA ((zA ((gH.getD a2.toNat (0,0,0)).1+(gH.getD a2.toNat (0,0,0)).2.1))+(fu.getD a2.toNat 0)))<0) then some true
   else(IC k gH pS pT pU a2).bind fun x0=>
   bif zD a2 fw.length then ((uH k k a3 x0 (fw.getD a2.toNat []) ((fw.getD a2.toNat []).length:Int) 0 fu qa fw gH pS pT pU a2 (gH.getD a2.toNat (0,0,0)).1 (gH.getD a2.toNat (0,0,0)).2.1 (gH.getD a2.toNat (0,0,0)).2.2 (zA ((zA ((gH.getD a2.toNat (0,0,0)).1+(gH.getD a2.toNat (0,0,0)).2.1))+(fu.getD a2.toNat 0)))).bind fun z=>
    bif zD z.2.2.2.2.2.2.2.2.2.1 z.2.2.2.2.2.2.2.1.length then ((zy k z.2.1 (z.2.2.2.2.2.2.2.1.getD z.2.2.2.2.2.2.2.2.2.1.toNat 0)).bind fun x1=>
     bif x1 then some true
     else(IH k z.1 z.2.2.2.2.2.2.2.2.2.1 z.2.2.2.2.2.2.2.2.2.2.1 z.2.2.2.2.2.2.2.2.2.2.2.1 z.2.2.2.2.2.2.2.2.2.2.2.2.1 z.2.2.1 z.2.2.2.1 z.2.2.2.2.1 z.2.2.2.2.2.2.2.2.2.2.2.2.2 z.2.2.2.2.2.1 z.2.2.2.2.2.2.1 z.2.2.2.2.2.2.2.1 z.2.2.2.2.2.2.2.2.1).bind fun x2=>
     some x2)
    else none)
   else none)
  else none)
 else none
abbrev Sv:Type:=List zE→Int→Int→List zM→EQ→AC→EQ→AC→AC→EQ→AC→Option AC
def z8 (k:Nat)(rec:Sv)(s1:List zE)(bF aR:Int)(aa:List zM)(af:EQ)(ag:AC)(ae:EQ)(r2 r3:AC)(m4:EQ)(r5:AC):Option AC:=
 bif decide (aR < bF) then ((IG k s1 aR).bind fun x1=>
  bif x1 then ((IJ k r2 r3 m4 aa af ag ae aR s1).bind fun x2=>
   bif x2 then (bif zY (r5.length+1) 8 then(rec s1 bF (zA (aR+1)) aa af ag ae r2 r3 m4 (r5++[aR]))
    else none)
   else rec s1 bF (zA (aR+1)) aa af ag ae r2 r3 m4 r5)
  else rec s1 bF (zA (aR+1)) aa af ag ae r2 r3 m4 r5)
 else some r5
def z7 (k:Nat):Nat→Sv
 |0,_,_,_,_,_,_,_,_,_,_,_=>none
 |n+1,s1,bF,aR,aa,af,ag,ae,r2,r3,m4,r5=>z8 k (z7 k n) s1 bF aR aa af ag ae r2 r3 m4 r5
def uI (k:Nat)(aX:List zM)(bB:EQ)(bA:AC)(bo:EQ)(a1:List zE):Option AC:=
 (IF k (aX.length:Int) a1).bind fun x0=>
 (z7 k k a1 (aX.length:Int) 0 aX bB bA bo x0.1 x0.2.1 x0.2.2 []).bind fun z=>
 some z
def uJ (k:Nat)(aX:List zM)(bB:EQ)(bA:AC)(bo:EQ)(a1:List zE):Option Bool:=
 bif decide ((a1.length : Int) ≤ 64) then ((IK k a1 aX bB bA bo).bind fun x0=>
  bif !x0 then ((uI k aX bB bA bo a1).bind fun x1=>
   some (decide ((x1.length:Int)=0)))
  else some false)
 else some false
def Of (k:Nat)(gE cp cN gZ eX gF fS:Int)(gH:List zM)(pS:EQ)(pT:AC)(pU:EQ):Option Bool:=
 (zh k gH pS pT pU gE cp cN gZ eX gF fS).bind fun x0=>
 some (!x0)
abbrev Sx:Type:=List zE→Int→Int→List zM→EQ→AC→EQ→Option (Unit⊕Int)
def zj (k:Nat)(rec:Sx)(s0:List zE)(s7 s8:Int)(aa:List zM)(af:EQ)(ag:AC)(ae:EQ):Option (Unit⊕Int):=
 bif decide (s8 < s7) then (bif zD s8 s0.length then ((Of k (s0.getD s8.toNat (0,0,0,0,0,0,0)).1 (s0.getD s8.toNat (0,0,0,0,0,0,0)).2.1 (s0.getD s8.toNat (0,0,0,0,0,0,0)).2.2.1 (s0.getD s8.toNat (0,0,0,0,0,0,0)).2.2.2.1 (s0.getD s8.toNat (0,0,0,0,0,0,0)).2.2.2.2.1 (s0.getD s8.toNat (0,0,0,0,0,0,0)).2.2.2.2.2.1 (s0.getD s8.toNat (0,0,0,0,0,0,0)).2.2.2.2.2.2 aa af ag ae).bind fun x0=>
   bif x0 then some (.inr s8)
   else rec s0 s7 (zA (s8+1)) aa af ag ae)
  else none)
 else some (.inl ())
def Eo (k:Nat):Nat→Sx
 |0,_,_,_,_,_,_,_=>none
 |n+1,s0,s7,s8,aa,af,ag,ae=>zj k (Eo k n) s0 s7 s8 aa af ag ae
def Og (k:Nat)(a0:List zE)(we:List zM)(wg:EQ)(wh:AC)(wi:EQ):Option Int:=
 (Eo k k a0 (a0.length:Int) 0 we wg wh wi).bind fun z=>
 match z with
 |.inl z1=>some (-1)
 |.inr z2=>some z2
def Io (k:Nat)(a0:List zE)(we:List zM)(wg:EQ)(wh:AC)(wi:EQ):Option Bool:=
 (Og k a0 we wg wh wi).bind fun x0=>
 some (decide (x0≥0))
def N3 (k:Nat)(pQ pR lK:Int):Option Bool:=
 (H3 k pQ pR lK).bind fun x0=>
 some (!x0)
abbrev Sz:Type:=List zM→Int→Int→Option (Unit⊕Int)
def yx (k:Nat)(rec:Sz)(s0:List zM)(s7 s8:Int):Option (Unit⊕Int):=
 bif decide (s8 < s7) then (bif zD s8 s0.length then ((N3 k (s0.getD s8.toNat (0,0,0)).1 (s0.getD s8.toNat (0,0,0)).2.1 (s0.getD s8.toNat (0,0,0)).2.2).bind fun x0=>
   bif x0 then some (.inr s8)
   else rec s0 s7 (zA (s8+1)))
  else none)
 else some (.inl ())
def D7 (k:Nat):Nat→Sz
 |0,_,_,_=>none
 |n+1,s0,s7,s8=>yx k (D7 k n) s0 s7 s8
def N4 (k:Nat)(a0:List zM):Option Int:=
 (D7 k k a0 (a0.length:Int) 0).bind fun z=>
 match z with
 |.inl z1=>some (-1)
 |.inr z2=>some z2
def H9 (k:Nat)(a0:List zM):Option Bool:=
 (N4 k a0).bind fun x0=>
 some (decide (x0≥0))
def NZ (k:Nat)(a0:Int):Option Bool:=
 bif decide (a0≥(-1)) then some (decide (a0≤2305843009213693952))
 else some false
def N5 (k:Nat)(a0:Int):Option Bool:=
 (NZ k a0).bind fun x0=>
 some (!x0)
abbrev SB:Type:=AC→Int→Int→Option (Unit⊕Int)
def yy (k:Nat)(rec:SB)(s0:AC)(s7 s8:Int):Option (Unit⊕Int):=
 bif decide (s8 < s7) then (bif zD s8 s0.length then ((N5 k (s0.getD s8.toNat 0)).bind fun x0=>
   bif x0 then some (.inr s8)
   else rec s0 s7 (zA (s8+1)))
  else none)
 else some (.inl ())
def D8 (k:Nat):Nat→SB
 |0,_,_,_=>none
 |n+1,s0,s7,s8=>yy k (D8 k n) s0 s7 s8
def N6 (k:Nat)(a0:AC):Option Int:=
 (D8 k k a0 (a0.length:Int) 0).bind fun z=>
 match z with
 |.inl z1=>some (-1)
 |.inr z2=>some z2
def Ia (k:Nat)(a0:AC):Option Bool:=
 (N6 k a0).bind fun x0=>
 some (decide (x0≥0))
def Ea (k:Nat)(a0:AC)(a1:Int):Option Bool:=
 bif decide ((a0.length : Int) = a1) then ((Ia k a0).bind fun x0=>
  some (!x0))
 else some false
abbrev SE:Type:=Int→EQ→Int→Int→Option (Unit⊕Bool)
def y7 (k:Nat)(rec:SE)(s1:Int)(bm:EQ)(bq aM:Int):Option (Unit⊕Bool):=
 bif decide (aM < bq) then (bif zD aM bm.length then ((Ea k (bm.getD aM.toNat []) s1).bind fun x0=>
   bif !x0 then some (.inr false)
   else rec s1 bm bq (zA (aM+1)))
  else none)
 else some (.inl ())
def Eb (k:Nat):Nat→SE
 |0,_,_,_,_=>none
 |n+1,s1,bm,bq,aM=>y7 k (Eb k n) s1 bm bq aM
def Ie (k:Nat)(a0:EQ)(a1:Int):Option Bool:=
 bif !(decide ((a0.length:Int)=a1)) then some false
 else(Eb k k a1 a0 (a0.length:Int) 0).bind fun z=>
 match z with
 |.inl z1=>some true
 |.inr z2=>some z2
def H5 (k:Nat)(a0:Int):Option Bool:=
 bif decide (a0>(-72057594037927936)) then some (decide (a0<72057594037927936))
 else some false
def N7 (k:Nat)(a0:Int):Option Bool:=
 (H5 k a0).bind fun x0=>
 some (!x0)
abbrev SG:Type:=AC→Int→Int→Option (Unit⊕Int)
def yz (k:Nat)(rec:SG)(s0:AC)(s7 s8:Int):Option (Unit⊕Int):=
 bif decide (s8 < s7) then (bif zD s8 s0.length then ((N7 k (s0.getD s8.toNat 0)).bind fun x0=>
   bif x0 then some (.inr s8)
   else rec s0 s7 (zA (s8+1)))
  else none)
 else some (.inl ())
def D9 (k:Nat):Nat→SG
 |0,_,_,_=>none
 |n+1,s0,s7,s8=>yz k (D9 k n) s0 s7 s8
def N8 (k:Nat)(a0:AC):Option Int:=
 (D9 k k a0 (a0.length:Int) 0).bind fun z=>
 match z with
 |.inl z1=>some (-1)
 |.inr z2=>some z2
def Ib (k:Nat)(a0:AC):Option Bool:=
 (N8 k a0).bind fun x0=>
 some (decide (x0≥0))
def Ic (k:Nat)(a0:AC)(a1:Int):Option Bool:=
 bif decide ((a0.length : Int) = a1) then ((Ib k a0).bind fun x0=>
  some (!x0))
 else some false
abbrev SI:Type:=Int→EQ→Int→Int→Option (Unit⊕Bool)
def y8 (k:Nat)(rec:SI)(s1:Int)(bm:EQ)(bq aM:Int):Option (Unit⊕Bool):=
 bif decide (aM < bq) then (bif zD aM bm.length then ((Ic k (bm.getD aM.toNat []) s1).bind fun x0=>
   bif !x0 then some (.inr false)
   else rec s1 bm bq (zA (aM+1)))
  else none)
 else some (.inl ())
def Ec (k:Nat):Nat→SI
 |0,_,_,_,_=>none
 |n+1,s1,bm,bq,aM=>y8 k (Ec k n) s1 bm bq aM
def Ig (k:Nat)(a0:EQ)(a1:Int):Option Bool:=
 bif !(decide ((a0.length:Int)=a1)) then some false
 else(Ec k k a1 a0 (a0.length:Int) 0).bind fun z=>
 match z with
 |.inl z1=>some true
 |.inr z2=>some z2
abbrev SN:Type:=(EQ×EQ×Int×Int)⊕Bool
abbrev SK:Type:=EQ→Int→EQ→Int→Int→AC→Int→Int→Option SN
def za (k:Nat)(rec:SK)(s0:EQ)(s3:Int)(s7:EQ)(s8 s9:Int)(bq:AC)(aM bF:Int):Option SN:=
 bif decide (bF < aM) then (bif zD bF bq.length then (bif zD bF s0.length then (bif zD s3 (s0.getD bF.toNat []).length then (bif !(decide (((s0.getD bF.toNat []).getD s3.toNat 0)=(zA (0-(bq.getD bF.toNat 0))))) then some (.inr false)
     else rec s0 s3 s7 s8 s9 bq aM (zA (bF+1)))
    else none)
   else none)
  else none)
 else some (.inl (s0,s7,s8,s9))
def y9 (k:Nat):Nat→SK
 |0,_,_,_,_,_,_,_,_=>none
 |n+1,s0,s3,s7,s8,s9,bq,aM,bF=>za k (y9 k n) s0 s3 s7 s8 s9 bq aM bF
abbrev SO:Type:=EQ→EQ→Int→Int→Option (Unit⊕Bool)
def zb (k:Nat)(rec:SO)(s0 s7:EQ)(s8 s9:Int):Option (Unit⊕Bool):=
 bif decide (s9 < s8) then (bif zD s9 s7.length then ((y9 k k s0 s9 s7 s8 s9 (s7.getD s9.toNat []) ((s7.getD s9.toNat []).length:Int) 0).bind fun z=>
   match z with
   |.inl z1=>rec z1.1 z1.2.1 z1.2.2.1 (zA (z1.2.2.2+1))
   |.inr z2=>some (.inr z2))
  else none)
 else some (.inl ())
def Ed (k:Nat):Nat→SO
 |0,_,_,_,_=>none
 |n+1,s0,s7,s8,s9=>zb k (Ed k n) s0 s7 s8 s9
def Ih (k:Nat)(a0:EQ):Option Bool:=
 (Ed k k a0 a0 (a0.length:Int) 0).bind fun z3=>
 match z3 with
 |.inl z4=>some true
 |.inr z5=>some z5
def uB (k:Nat)(aX:List zM)(bB:EQ)(bA:AC)(bo:EQ):Option Bool:=
 bif decide ((aX.length:Int)<1) then some false
 else bif decide ((aX.length:Int)>6) then some false
 else(H9 k aX).bind fun x0=>
 bif x0 then some false
 else(Ie k bB (aX.length:Int)).bind fun x1=>
 bif x1 then ((Ea k bA (aX.length:Int)).bind fun x2=>
  bif x2 then ((Ig k bo (aX.length:Int)).bind fun x3=>
   bif x3 then ((Ih k bo).bind fun x4=>
    some x4)
   else some false)
  else some false)
 else some false
abbrev SU:Type:=(List zM)×EQ×AC×EQ×(List zM)×EQ×AC×EQ
abbrev SR:Type:=List zE→Int→Int→List zM→EQ→AC→EQ→List zM→EQ→AC→EQ→Option SU
def zn (k:Nat)(rec:SR)(aY:List zE)(fT aK:Int)(aa:List zM)(af:EQ)(ag:AC)(ae:EQ)(r3:List zM)(m4:EQ)(r5:AC)(m6:EQ):Option SU:=
 bif decide (aK < fT) then (bif zD aK aY.length then (bif zD (aY.getD aK.toNat (0, 0, 0, 0, 0, 0, 0)).2.1 r3.length then (bif zD (aY.getD aK.toNat (0, 0, 0, 0, 0, 0, 0)).2.2.1 r3.length then (let y0:List zM:=(r3.set (aY.getD aK.toNat (0,0,0,0,0,0,0)).2.1.toNat ((zA ((r3.getD (aY.getD aK.toNat (0,0,0,0,0,0,0)).2.1.toNat (0,0,0)).1-(aY.getD aK.toNat (0,0,0,0,0,0,0)).2.2.2.1)),(r3.getD (aY.getD aK.toNat (0,0,0,0,0,0,0)).2.1.toNat (0,0,0)).2))
     let y1:List zM:=(y0.set (aY.getD aK.toNat (0,0,0,0,0,0,0)).2.2.1.toNat ((zA ((y0.getD (aY.getD aK.toNat (0,0,0,0,0,0,0)).2.2.1.toNat (0,0,0)).1+(aY.getD aK.toNat (0,0,0,0,0,0,0)).2.2.2.1)),(y0.getD (aY.getD aK.toNat (0,0,0,0,0,0,0)).2.2.1.toNat (0,0,0)).2))
     bif !(decide ((aY.getD aK.toNat (0, 0, 0, 0, 0, 0, 0)).2.2.2.2.1 = 3)) then ((rV k (y1.getD (aY.getD aK.toNat (0,0,0,0,0,0,0)).2.1.toNat (0,0,0)).1 (y1.getD (aY.getD aK.toNat (0,0,0,0,0,0,0)).2.1.toNat (0,0,0)).2.1 (y1.getD (aY.getD aK.toNat (0,0,0,0,0,0,0)).2.1.toNat (0,0,0)).2.2 (aY.getD aK.toNat (0,0,0,0,0,0,0)).2.2.2.1).bind fun x2=>
      let y2:List zM:=(y1.set (aY.getD aK.toNat (0,0,0,0,0,0,0)).2.1.toNat ((y1.getD (aY.getD aK.toNat (0,0,0,0,0,0,0)).2.1.toNat (0,0,0)).1,(y1.getD (aY.getD aK.toNat (0,0,0,0,0,0,0)).2.1.toNat (0,0,0)).2.1,x2))
      bif zD (aY.getD aK.toNat (0, 0, 0, 0, 0, 0, 0)).2.1 m6.length then (bif zD (aY.getD aK.toNat (0, 0, 0, 0, 0, 0, 0)).2.2.1 (m6.getD (aY.getD aK.toNat (0, 0, 0, 0, 0, 0, 0)).2.1.toNat []).length then (bif zD (aY.getD aK.toNat (0, 0, 0, 0, 0, 0, 0)).2.2.1 (m6.getD (aY.getD aK.toNat (0, 0, 0, 0, 0, 0, 0)).2.1.toNat []).length then (let y3:EQ:=(m6.set (aY.getD aK.toNat (0,0,0,0,0,0,0)).2.1.toNat ((m6.getD (aY.getD aK.toNat (0,0,0,0,0,0,0)).2.1.toNat []).set (aY.getD aK.toNat (0,0,0,0,0,0,0)).2.2.1.toNat (zA (((m6.getD (aY.getD aK.toNat (0,0,0,0,0,0,0)).2.1.toNat []).getD (aY.getD aK.toNat (0,0,0,0,0,0,0)).2.2.1.toNat 0)+(aY.getD aK.toNat (0,0,0,0,0,0,0)).2.2.2.1))))
         bif zD (aY.getD aK.toNat (0, 0, 0, 0, 0, 0, 0)).2.2.1 y3.length then (bif zD (aY.getD aK.toNat (0, 0, 0, 0, 0, 0, 0)).2.1 (y3.getD (aY.getD aK.toNat (0, 0, 0, 0, 0, 0, 0)).2.2.1.toNat []).length then (bif zD (aY.getD aK.toNat (0, 0, 0, 0, 0, 0, 0)).2.1 (y3.getD (aY.getD aK.toNat (0, 0, 0, 0, 0, 0, 0)).2.2.1.toNat []).length then (let y4:EQ:=(y3.set (aY.getD aK.toNat (0,0,0,0,0,0,0)).2.2.1.toNat ((y3.getD (aY.getD aK.toNat (0,0,0,0,0,0,0)).2.2.1.toNat []).set (aY.getD aK.toNat (0,0,0,0,0,0,0)).2.1.toNat (zA (((y3.getD (aY.getD aK.toNat (0,0,0,0,0,0,0)).2.2.1.toNat []).getD (aY.getD aK.toNat (0,0,0,0,0,0,0)).2.1.toNat 0)-(aY.getD aK.toNat (0,0,0,0,0,0,0)).2.2.2.1))))
            rec aY fT (zA (aK+1)) aa af ag ae y2 m4 r5 y4)
           else none)
          else none)
         else none)
        else none)
       else none)
      else none)
     else bif zD (aY.getD aK.toNat (0, 0, 0, 0, 0, 0, 0)).2.1 m6.length then (bif zD (aY.getD aK.toNat (0, 0, 0, 0, 0, 0, 0)).2.2.1 (m6.getD (aY.getD aK.toNat (0, 0, 0, 0, 0, 0, 0)).2.1.toNat []).length then (bif zD (aY.getD aK.toNat (0, 0, 0, 0, 0, 0, 0)).2.2.1 (m6.getD (aY.getD aK.toNat (0, 0, 0, 0, 0, 0, 0)).2.1.toNat []).length then (let y5:EQ:=(m6.set (aY.getD aK.toNat (0,0,0,0,0,0,0)).2.1.toNat ((m6.getD (aY.getD aK.toNat (0,0,0,0,0,0,0)).2.1.toNat []).set (aY.getD aK.toNat (0,0,0,0,0,0,0)).2.2.1.toNat (zA (((m6.getD (aY.getD aK.toNat (0,0,0,0,0,0,0)).2.1.toNat []).getD (aY.getD aK.toNat (0,0,0,0,0,0,0)).2.2.1.toNat 0)+(aY.getD aK.toNat (0,0,0,0,0,0,0)).2.2.2.1))))
        bif zD (aY.getD aK.toNat (0, 0, 0, 0, 0, 0, 0)).2.2.1 y5.length then (bif zD (aY.getD aK.toNat (0, 0, 0, 0, 0, 0, 0)).2.1 (y5.getD (aY.getD aK.toNat (0, 0, 0, 0, 0, 0, 0)).2.2.1.toNat []).length then (bif zD (aY.getD aK.toNat (0, 0, 0, 0, 0, 0, 0)).2.1 (y5.getD (aY.getD aK.toNat (0, 0, 0, 0, 0, 0, 0)).2.2.1.toNat []).length then (let y6:EQ:=(y5.set (aY.getD aK.toNat (0,0,0,0,0,0,0)).2.2.1.toNat ((y5.getD (aY.getD aK.toNat (0,0,0,0,0,0,0)).2.2.1.toNat []).set (aY.getD aK.toNat (0,0,0,0,0,0,0)).2.1.toNat (zA (((y5.getD (aY.getD aK.toNat (0,0,0,0,0,0,0)).2.2.1.toNat []).getD (aY.getD aK.toNat (0,0,0,0,0,0,0)).2.1.toNat 0)-(aY.getD aK.toNat (0,0,0,0,0,0,0)).2.2.2.1))))
           rec aY fT (zA (aK+1)) aa af ag ae y1 m4 r5 y6)
          else none)
         else none)
        else none)
       else none)
      else none)
     else none)
    else none)
   else none)
  else none)
 else some (aa,af,ag,ae,r3,m4,r5,m6)
def zm (k:Nat):Nat→SR
 |0,_,_,_,_,_,_,_,_,_,_,_=>none
 |n+1,aY,fT,aK,aa,af,ag,ae,r3,m4,r5,m6=>zn k (zm k n) aY fT aK aa af ag ae r3 m4 r5 m6
def mg (k:Nat)(aX:List zM)(bB:EQ)(bA:AC)(bo:EQ)(a1:List zE):Option ((List zM)×EQ×AC×EQ×Int):=
 bif decide ((a1.length:Int)>64) then some (aX,bB,bA,bo,1)
 else(Io k a1 aX bB bA bo).bind fun x0=>
 bif x0 then some (aX,bB,bA,bo,1)
 else(dG k aX bB bA bo).bind fun x1=>
 (zm k k a1 (a1.length:Int) 0 aX bB bA bo x1.1 x1.2.1 x1.2.2.1 x1.2.2.2).bind fun z=>
 (uB k z.2.2.2.2.1 z.2.2.2.2.2.1 z.2.2.2.2.2.2.1 z.2.2.2.2.2.2.2).bind fun x3=>
 bif !x3 then some (jV z 8)
 else some (yEl z 0)
abbrev SY:Type:=((List zM)×EQ×AC×EQ×Int×Int×Int×Int×Int×Int×Int)⊕(Bool×Int×Int×Int×Int×Int×Int×Int×(List zM)×EQ×AC×EQ)
abbrev SW:Type:=Int→Int→List zM→EQ→AC→EQ→Int→Int→Int→Int→Int→Int→Int→List zE→Option SY
def AV (k:Nat)(rec:SW)(bF aR:Int)(aa:List zM)(af:EQ)(ag:AC)(ae:EQ)(aq ay az aD aN aO aP:Int)(r3:List zE):Option SY:=
 bif decide (aR < bF) then (bif zD aR r3.length then ((uJ k aa af ag ae [(r3.getD aR.toNat (0,0,0,0,0,0,0))]).bind fun x1=>
   bif !x1 then(rec bF (zA (aR+1)) aa af ag ae aq ay az aD aN aO aP r3)
   else(mg k aa af ag ae [(r3.getD aR.toNat (0,0,0,0,0,0,0))]).bind fun x2=>
   bif decide (x2.2.2.2.2=0) then some (.inr (true,(kE (r3.getD aR.toNat (0,0,0,0,0,0,0)) (eT x2))))
   else rec bF (zA (aR+1)) aa af ag ae aq ay az aD aN aO aP r3)
  else none)
 else some (.inl (aa,af,ag,ae,aq,ay,az,aD,aN,aO,aP))
def E0 (k:Nat):Nat→SW
 |0,_,_,_,_,_,_,_,_,_,_,_,_,_,_=>none
 |n+1,bF,aR,aa,af,ag,ae,aq,ay,az,aD,aN,aO,aP,r3=>AV k (E0 k n) bF aR aa af ag ae aq ay az aD aN aO aP r3
def I6 (k:Nat)(aX:List zM)(bB:EQ)(bA:AC)(bo:EQ)(a1:List zE)(a2:Int):Option (Int×Int×Int×Int×Int×Int×Int×(List zM)×EQ×AC×EQ×Bool):=
 (EM k a1 a2).bind fun x0=>
 (E0 k k (x0.length:Int) 0 aX bB bA bo 0 0 0 0 0 0 0 x0).bind fun z=>
 match z with
 |.inl z1=>some (0,0,0,0,0,0,0,(jV z1 false))
 |.inr z2=>some (yVg z2 z2.1)
abbrev S2:Type:=(List zE)×(List zM)×EQ×AC×EQ×(List zE)
abbrev S0:Type:=Int→List zE→List zM→EQ→AC→EQ→List zE→Option S2
def AW (k:Nat)(rec:S0)(s2:Int)(s7:List zE)(aa:List zM)(af:EQ)(ag:AC)(ae:EQ)(r1:List zE):Option S2:=
 (I6 k aa af ag ae s7 s2).bind fun x0=>
 bif !x0.2.2.2.2.2.2.2.2.2.2.2 then some (s7,aa,af,ag,ae,r1)
 else(mj k s7 x0.1).bind fun x1=>
 bif zY (r1.length + 1) 56 then (let y0:List zE:=(r1++[(dI x0)])
  rec s2 x1.1 x0.2.2.2.2.2.2.2.1 x0.2.2.2.2.2.2.2.2.1 x0.2.2.2.2.2.2.2.2.2.1 x0.2.2.2.2.2.2.2.2.2.2.1 y0)
 else none
def E1 (k:Nat):Nat→S0
 |0,_,_,_,_,_,_,_=>none
 |n+1,s2,s7,aa,af,ag,ae,r1=>AW k (E1 k n) s2 s7 aa af ag ae r1
def I8 (k:Nat)(aX:List zM)(bB:EQ)(bA:AC)(bo:EQ)(a1:List zE)(a2:Int):Option Gg:=
 (E1 k k a2 a1 aX bB bA bo []).bind fun z=>
 some (lI z (z.1,z.2.2.2.2.2))
abbrev S5:Type:=(Int×Int×(List zM)×EQ×AC×EQ×Int×Int×Int×Int×Int×Int×Int×Int×Int×Int×Int×Int×Int×Int×(List zE))⊕qTw
abbrev S3:Type:=Int→Int→Int→Int→List zM→EQ→AC→EQ→Int→Int→Int→Int→Int→Int→Int→Int→Int→Int→Int→Int→Int→Int→List zE→Int→Int→Int→Int→Int→Int→Int→Option S5
def AY (k:Nat)(rec:S3)(cE bV fT aK:Int)(aa:List zM)(af:EQ)(ag:AC)(ae:EQ)(aq ay az aD aN aO aP bQ bR bg aI bL bM bN:Int)(r2:List zE)(bK cf cq dZ ee ef eg:Int):Option S5:=
 bif decide (aK < fT) then (bif zD aK r2.length then (bif !(decide ((r2.getD aK.toNat (0,0,0,0,0,0,0)).2.1=cq)) then(rec cE bV fT (zA (aK+1)) aa af ag ae aq ay az aD aN aO aP bQ bR bg aI bL bM bN r2 bK cf cq dZ ee ef eg)
   else bif !(decide ((r2.getD aK.toNat (0,0,0,0,0,0,0)).2.2.1=cf)) then(rec cE bV fT (zA (aK+1)) aa af ag ae aq ay az aD aN aO aP bQ bR bg aI bL bM bN r2 bK cf cq dZ ee ef eg)
   else bif decide (cf≥(r2.getD aK.toNat (0,0,0,0,0,0,0)).2.1) then(rec cE bV fT (zA (aK+1)) aa af ag ae aq ay az aD aN aO aP bQ bR bg aI bL bM bN r2 bK cf cq dZ ee ef eg)
   else(uJ k aa af ag ae [(bK,cf,cq,dZ,ee,ef,eg),(r2.getD aK.toNat (0,0,0,0,0,0,0))]).bind fun x1=>
   bif !x1 then(rec cE bV fT (zA (aK+1)) aa af ag ae aq ay az aD aN aO aP bQ bR bg aI bL bM bN r2 bK cf cq dZ ee ef eg)
   else(mg k aa af ag ae [(bK,cf,cq,dZ,ee,ef,eg),(r2.getD aK.toNat (0,0,0,0,0,0,0))]).bind fun x2=>
   bif decide (x2.2.2.2.2=0) then some (.inr (true,bK,cf,cq,dZ,ee,ef,eg,(kE (r2.getD aK.toNat (0,0,0,0,0,0,0)) (eT x2))))
   else rec cE bV fT (zA (aK+1)) aa af ag ae aq ay az aD aN aO aP bQ bR bg aI bL bM bN r2 bK cf cq dZ ee ef eg)
  else none)
 else some (.inl (cE,bV,aa,af,ag,ae,aq,ay,az,aD,aN,aO,aP,bQ,bR,bg,aI,bL,bM,bN,r2))
def E4 (k:Nat):Nat→S3
 |0,_,_,_,_,_,_,_,_,_,_,_,_,_,_,_,_,_,_,_,_,_,_,_,_,_,_,_,_,_,_=>none
 |n+1,cE,bV,fT,aK,aa,af,ag,ae,aq,ay,az,aD,aN,aO,aP,bQ,bR,bg,aI,bL,bM,bN,r2,bK,cf,cq,dZ,ee,ef,eg=>AY k (E4 k n) cE bV fT aK aa af ag ae aq ay az aD aN aO aP bQ bR bg aI bL bM bN r2 bK cf cq dZ ee ef eg
abbrev S9:Type:=(Int×Int×Int×Int×Int×Int×Int×Int×Int×Int×Int×Int×Int×Int)⊕qTw
abbrev S7:Type:=Int→Int→List zM→EQ→AC→EQ→Int→Int→Int→Int→Int→Int→Int→Int→Int→Int→Int→Int→Int→Int→List zE→Option S9
def AZ (k:Nat)(rec:S7)(cE bV:Int)(aa:List zM)(af:EQ)(ag:AC)(ae:EQ)(aq ay az aD aN aO aP bQ bR bg aI bL bM bN:Int)(r2:List zE):Option S9:=
 bif decide (bV < cE) then (bif zD bV r2.length then ((E4 k k cE bV (r2.length:Int) 0 aa af ag ae aq ay az aD aN aO aP bQ bR bg aI bL bM bN r2 (r2.getD bV.toNat (0,0,0,0,0,0,0)).1 (r2.getD bV.toNat (0,0,0,0,0,0,0)).2.1 (r2.getD bV.toNat (0,0,0,0,0,0,0)).2.2.1 (r2.getD bV.toNat (0,0,0,0,0,0,0)).2.2.2.1 (r2.getD bV.toNat (0,0,0,0,0,0,0)).2.2.2.2.1 (r2.getD bV.toNat (0,0,0,0,0,0,0)).2.2.2.2.2.1 (r2.getD bV.toNat (0,0,0,0,0,0,0)).2.2.2.2.2.2).bind fun z=>
   match z with
   |.inl z1=>rec z1.1 (zA (z1.2.1+1)) z1.2.2.1 z1.2.2.2.1 z1.2.2.2.2.1 z1.2.2.2.2.2.1 z1.2.2.2.2.2.2.1 z1.2.2.2.2.2.2.2.1 z1.2.2.2.2.2.2.2.2.1 z1.2.2.2.2.2.2.2.2.2.1 z1.2.2.2.2.2.2.2.2.2.2.1 z1.2.2.2.2.2.2.2.2.2.2.2.1 z1.2.2.2.2.2.2.2.2.2.2.2.2.1 z1.2.2.2.2.2.2.2.2.2.2.2.2.2.1 z1.2.2.2.2.2.2.2.2.2.2.2.2.2.2.1 z1.2.2.2.2.2.2.2.2.2.2.2.2.2.2.2.1 z1.2.2.2.2.2.2.2.2.2.2.2.2.2.2.2.2.1 z1.2.2.2.2.2.2.2.2.2.2.2.2.2.2.2.2.2.1 z1.2.2.2.2.2.2.2.2.2.2.2.2.2.2.2.2.2.2.1 z1.2.2.2.2.2.2.2.2.2.2.2.2.2.2.2.2.2.2.2.1 z1.2.2.2.2.2.2.2.2.2.2.2.2.2.2.2.2.2.2.2.2
   |.inr z2=>some (.inr (z2.1,z2.2.1,z2.2.2.1,z2.2.2.2.1,z2.2.2.2.2.1,z2.2.2.2.2.2.1,z2.2.2.2.2.2.2.1,z2.2.2.2.2.2.2.2.1,z2.2.2.2.2.2.2.2.2.1,z2.2.2.2.2.2.2.2.2.2.1,z2.2.2.2.2.2.2.2.2.2.2.1,z2.2.2.2.2.2.2.2.2.2.2.2.1,z2.2.2.2.2.2.2.2.2.2.2.2.2.1,z2.2.2.2.2.2.2.2.2.2.2.2.2.2.1,z2.2.2.2.2.2.2.2.2.2.2.2.2.2.2.1,z2.2.2.2.2.2.2.2.2.2.2.2.2.2.2.2.1,z2.2.2.2.2.2.2.2.2.2.2.2.2.2.2.2.2.1,z2.2.2.2.2.2.2.2.2.2.2.2.2.2.2.2.2.2.1,z2.2.2.2.2.2.2.2.2.2.2.2.2.2.2.2.2.2.2)))
  else none)
 else some (.inl (aq,ay,az,aD,aN,aO,aP,bQ,bR,bg,aI,bL,bM,bN))
def E5 (k:Nat):Nat→S7
 |0,_,_,_,_,_,_,_,_,_,_,_,_,_,_,_,_,_,_,_,_,_=>none
 |n+1,cE,bV,aa,af,ag,ae,aq,ay,az,aD,aN,aO,aP,bQ,bR,bg,aI,bL,bM,bN,r2=>AZ k (E5 k n) cE bV aa af ag ae aq ay az aD aN aO aP bQ bR bg aI bL bM bN r2
def Ja (k:Nat)(aX:List zM)(bB:EQ)(bA:AC)(bo:EQ)(a1:List zE)(a2:Int):Option (Int×Int×Int×Int×Int×Int×Int×Int×Int×Int×Int×Int×Int×Int×(List zM)×EQ×AC×EQ×Bool):=
 (EM k a1 a2).bind fun x0=>
 (E5 k k (x0.length:Int) 0 aX bB bA bo 0 0 0 0 0 0 0 0 0 0 0 0 0 0 x0).bind fun z3=>
 match z3 with
 |.inl z4=>some (0,0,0,0,0,0,0,0,0,0,0,0,0,0,[],[],[],[],false)
 |.inr z5=>some (S6 z5 z5.1)
abbrev Tf:Type:=Int×(List zE)×(List zM)×EQ×AC×EQ×(List zE)
abbrev Td:Type:=Int→List zE→Int→Int→List zM→EQ→AC→EQ→List zE→List zE→Option Tf
def sn (k:Nat)(rec:Td)(s2:Int)(s7:List zE)(wb n9:Int)(aa:List zM)(af:EQ)(ag:AC)(ae:EQ)(r1 r2:List zE):Option Tf:=
 bif decide (n9 < wb) then (bif zD n9 r2.length then ((mj k s7 (r2.getD n9.toNat (0,0,0,0,0,0,0)).1).bind fun x1=>
   bif zY (r1.length + 1) 56 then (let y0:List zE:=(r1++[(r2.getD n9.toNat (0,0,0,0,0,0,0))])
    rec s2 x1.1 wb (zA (n9+1)) aa af ag ae y0 r2)
   else none)
  else none)
 else some (s2,s7,aa,af,ag,ae,r1)
def sm (k:Nat):Nat→Td
 |0,_,_,_,_,_,_,_,_,_,_=>none
 |n+1,s2,s7,wb,n9,aa,af,ag,ae,r1,r2=>sn k (sm k n) s2 s7 wb n9 aa af ag ae r1 r2
abbrev Ti:Type:=(List zE)×(List zM)×EQ×AC×EQ×(List zE)
abbrev Tg:Type:=Int→List zE→List zM→EQ→AC→EQ→List zE→Option Ti
def A0 (k:Nat)(rec:Tg)(s2:Int)(s7:List zE)(aa:List zM)(af:EQ)(ag:AC)(ae:EQ)(r1:List zE):Option Ti:=
 (Ja k aa af ag ae s7 s2).bind fun x0=>
 bif !x0.2.2.2.2.2.2.2.2.2.2.2.2.2.2.2.2.2.2 then some (s7,aa,af,ag,ae,r1)
 else(sm k k s2 s7 2 0 x0.2.2.2.2.2.2.2.2.2.2.2.2.2.2.1 x0.2.2.2.2.2.2.2.2.2.2.2.2.2.2.2.1 x0.2.2.2.2.2.2.2.2.2.2.2.2.2.2.2.2.1 x0.2.2.2.2.2.2.2.2.2.2.2.2.2.2.2.2.2.1 r1 [(dI x0),(yNa x0)]).bind fun z=>
 rec z.1 z.2.1 z.2.2.1 z.2.2.2.1 z.2.2.2.2.1 z.2.2.2.2.2.1 z.2.2.2.2.2.2
def E6 (k:Nat):Nat→Tg
 |0,_,_,_,_,_,_,_=>none
 |n+1,s2,s7,aa,af,ag,ae,r1=>A0 k (E6 k n) s2 s7 aa af ag ae r1
def Jb (k:Nat)(aX:List zM)(bB:EQ)(bA:AC)(bo:EQ)(a1:List zE)(a2:Int):Option Gg:=
 (E6 k k a2 a1 aX bB bA bo []).bind fun z1=>
 some (lI z1 (z1.1,z1.2.2.2.2.2))
abbrev Tn:Type:=(List zE)×(List zM)×EQ×AC×EQ×(List zE)
abbrev Tl:Type:=Int→List zE→List zM→EQ→AC→EQ→List zE→Option Tn
def Jg (k:Nat)(rec:Tl)(s2:Int)(s7:List zE)(aa:List zM)(af:EQ)(ag:AC)(ae:EQ)(r1:List zE):Option Tn:=
 (I8 k aa af ag ae s7 s2).bind fun x0=>
 (Jb k x0.1 x0.2.1 x0.2.2.1 x0.2.2.2.1 x0.2.2.2.2.1 s2).bind fun x1=>
 bif zY (r1.length + x0.2.2.2.2.2.length) 56 then (bif zY ((r1 ++ x0.2.2.2.2.2).length + x1.2.2.2.2.2.length) 56 then (let y0:List zE:=((r1++x0.2.2.2.2.2)++x1.2.2.2.2.2)
   bif decide ((x1.2.2.2.2.2.length:Int)=0) then some (x1.2.2.2.2.1,(jV x1 y0))
   else rec s2 x1.2.2.2.2.1 x1.1 x1.2.1 x1.2.2.1 x1.2.2.2.1 y0)
  else none)
 else none
def Fc (k:Nat):Nat→Tl
 |0,_,_,_,_,_,_,_=>none
 |n+1,s2,s7,aa,af,ag,ae,r1=>Jg k (Fc k n) s2 s7 aa af ag ae r1
def Fe (k:Nat)(aX:List zM)(bB:EQ)(bA:AC)(bo:EQ)(a1:List zE)(a2:Int):Option Gg:=
 (Fc k k a2 a1 aX bB bA bo []).bind fun z=>
 some (lI z (z.1,z.2.2.2.2.2))
def Pm (k:Nat)(a0:AC):Option AC:=
 bif zY (0+a0.length) 8 then some a0
 else none
def Po (k:Nat)(gE cp cN gZ eX gF fS:Int)(a1:AC):Option (Bool×AC):=
 bif decide (cp<0) then some (false,a1)
 else bif decide (cp≥(a1.length:Int)) then some (false,a1)
 else bif zD cp a1.length then (bif decide ((a1.getD cp.toNat 0)<1) then some (false,a1)
  else bif zD cp a1.length then (bif zD cp a1.length then some (true,(a1.set cp.toNat (zA ((a1.getD cp.toNat 0)-1))))
   else none)
  else none)
 else none
abbrev Tq:Type:=AC×(List zE)
abbrev To:Type:=List zE→Int→Int→AC→List zE→Option Tq
def A6 (k:Nat)(rec:To)(s8:List zE)(s9 aw:Int)(r1:AC)(r2:List zE):Option Tq:=
 bif decide (aw < s9) then (bif zD aw s8.length then ((Po k (s8.getD aw.toNat (0,0,0,0,0,0,0)).1 (s8.getD aw.toNat (0,0,0,0,0,0,0)).2.1 (s8.getD aw.toNat (0,0,0,0,0,0,0)).2.2.1 (s8.getD aw.toNat (0,0,0,0,0,0,0)).2.2.2.1 (s8.getD aw.toNat (0,0,0,0,0,0,0)).2.2.2.2.1 (s8.getD aw.toNat (0,0,0,0,0,0,0)).2.2.2.2.2.1 (s8.getD aw.toNat (0,0,0,0,0,0,0)).2.2.2.2.2.2 r1).bind fun x0=>
   bif x0.1 then (bif zY (r2.length + 1) 56 then (let y0:List zE:=(r2++[(s8.getD aw.toNat (0,0,0,0,0,0,0))])
     rec s8 s9 (zA (aw+1)) x0.2 y0)
    else none)
   else rec s8 s9 (zA (aw+1)) x0.2 r2)
  else none)
 else some (r1,r2)
def A5 (k:Nat):Nat→To
 |0,_,_,_,_,_=>none
 |n+1,s8,s9,aw,r1,r2=>A6 k (A5 k n) s8 s9 aw r1 r2
def Pn (k:Nat)(a0:List zE)(cd:AC):Option ((List zE)×AC):=
 (A5 k k a0 (a0.length:Int) 0 cd []).bind fun z=>
 some (z.2,z.1)
def A4 (k:Nat)(a0:List zE)(a1:AC):Option (List zE):=
 (Pm k a1).bind fun x0=>
 (Pn k a0 x0).bind fun x1=>
 some x1.1
abbrev Tt:Type:=Int×(List zM)×EQ×AC×EQ×AC×(List zE)
abbrev Ts:Type:=Int→Int→Int→List zM→EQ→AC→EQ→AC→List zE→Option Tt
def A8 (k:Nat)(rec:Ts)(s7 gD cE:Int)(aa:List zM)(af:EQ)(ag:AC)(ae:EQ)(r1:AC)(r2:List zE):Option Tt:=
 bif decide (cE < gD) then ((E8 k r2 cE).bind fun x1=>
  bif zY (r1.length+1) 8 then(rec s7 gD (zA (cE+1)) aa af ag ae (r1++[(x1.length:Int)]) r2)
  else none)
 else some (s7,aa,af,ag,ae,r1,r2)
def uS (k:Nat):Nat→Ts
 |0,_,_,_,_,_,_,_,_,_=>none
 |n+1,s7,gD,cE,aa,af,ag,ae,r1,r2=>A8 k (uS k n) s7 gD cE aa af ag ae r1 r2
abbrev Tw:Type:=Int×(List zM)×EQ×AC×EQ×AC×(List zE)
abbrev Tu:Type:=Int→Int→Int→List zM→EQ→AC→EQ→AC→List zE→AC→Option Tw
def Ba (k:Nat)(rec:Tu)(s7 KY kG:Int)(aa:List zM)(af:EQ)(ag:AC)(ae:EQ)(r1:AC)(r2:List zE)(r3:AC):Option Tw:=
 bif decide (kG < KY) then (bif zD kG r3.length then (bif zD (r3.getD kG.toNat 0) r1.length then (bif zD (r3.getD kG.toNat 0) r1.length then (let y0:AC:=(r1.set (r3.getD kG.toNat 0).toNat (zA ((r1.getD (r3.getD kG.toNat 0).toNat 0)-1)))
     rec s7 KY (zA (kG+1)) aa af ag ae y0 r2 r3)
    else none)
   else none)
  else none)
 else some (s7,aa,af,ag,ae,r1,r2)
def A9 (k:Nat):Nat→Tu
 |0,_,_,_,_,_,_,_,_,_,_=>none
 |n+1,s7,KY,kG,aa,af,ag,ae,r1,r2,r3=>Ba k (A9 k n) s7 KY kG aa af ag ae r1 r2 r3
abbrev Tx:Type:=Int→List zM→EQ→AC→EQ→AC→List zE→Option (Int×AC)
def Bb (k:Nat)(rec:Tx)(s7:Int)(aa:List zM)(af:EQ)(ag:AC)(ae:EQ)(r1:AC)(r2:List zE):Option (Int×AC):=
 (A4 k r2 r1).bind fun x2=>
 (uI k aa af ag ae x2).bind fun x3=>
 bif decide ((x3.length:Int)=0) then some ((zA (s7+1)),r1)
 else(A9 k k (zA (s7+1)) (x3.length:Int) 0 aa af ag ae r1 r2 x3).bind fun z1=>
 rec z1.1 z1.2.1 z1.2.2.1 z1.2.2.2.1 z1.2.2.2.2.1 z1.2.2.2.2.2.1 z1.2.2.2.2.2.2
def Fa (k:Nat):Nat→Tx
 |0,_,_,_,_,_,_,_=>none
 |n+1,s7,aa,af,ag,ae,r1,r2=>Bb k (Fa k n) s7 aa af ag ae r1 r2
def Je (k:Nat)(aX:List zM)(bB:EQ)(bA:AC)(bo:EQ)(a1:List zE)(a2:Int):Option (AC×Int):=
 (Au k a1 a2).bind fun x0=>
 (uS k k 0 (aX.length:Int) 0 aX bB bA bo [] x0).bind fun z=>
 (Fa k k z.1 z.2.1 z.2.2.1 z.2.2.2.1 z.2.2.2.2.1 z.2.2.2.2.2.1 z.2.2.2.2.2.2).bind fun z2=>
 some (z2.2,z2.1)
abbrev TB:Type:=(List zE)×(List zM)×EQ×AC×EQ×(List zE)
abbrev Tz:Type:=List zE→Int→Int→List zM→EQ→AC→EQ→List zE→Option TB
def Bc (k:Nat)(rec:Tz)(s7:List zE)(gY dL:Int)(aa:List zM)(af:EQ)(ag:AC)(ae:EQ)(r1:List zE):Option TB:=
 bif decide (dL < gY) then (bif zD dL r1.length then ((mj k s7 (r1.getD dL.toNat (0,0,0,0,0,0,0)).1).bind fun x4=>
   rec x4.1 gY (zA (dL+1)) aa af ag ae r1)
  else none)
 else some (s7,aa,af,ag,ae,r1)
def uT (k:Nat):Nat→Tz
 |0,_,_,_,_,_,_,_,_=>none
 |n+1,s7,gY,dL,aa,af,ag,ae,r1=>Bc k (uT k n) s7 gY dL aa af ag ae r1
def Bd (k:Nat)(aX:List zM)(bB:EQ)(bA:AC)(bo:EQ)(a1:List zE)(a2:Int):Option Gg:=
 (Je k aX bB bA bo a1 a2).bind fun x0=>
 (Au k a1 a2).bind fun x1=>
 (A4 k x1 x0.1).bind fun x2=>
 (mg k aX bB bA bo x2).bind fun x3=>
 bif !(decide (x3.2.2.2.2=0)) then some (aX,bB,bA,bo,a1,[])
 else(uT k k a1 (x2.length:Int) 0 x3.1 x3.2.1 x3.2.2.1 x3.2.2.2.1 x2).bind fun z=>
 some (lI z (z.1,z.2.2.2.2.2))
def uU (k:Nat)(aX:List zM)(bB:EQ)(bA:AC)(bo:EQ)(a1:List zE)(a2:Int)(a3:Bool):Option Gg:=
 (Fe k aX bB bA bo a1 a2).bind fun x0=>
 bif !a3 then some (x0.1,x0.2.1,x0.2.2.1,x0.2.2.2.1,x0.2.2.2.2.1,x0.2.2.2.2.2)
 else(Bd k x0.1 x0.2.1 x0.2.2.1 x0.2.2.2.1 x0.2.2.2.2.1 a2).bind fun x1=>
 bif decide ((x1.2.2.2.2.2.length:Int)=0) then some (sU x1 x0.2.2.2.2.2)
 else(Fe k x1.1 x1.2.1 x1.2.2.1 x1.2.2.2.1 x1.2.2.2.2.1 a2).bind fun x2=>
 bif zY (x0.2.2.2.2.2.length + x1.2.2.2.2.2.length) 56 then (bif zY ((x0.2.2.2.2.2 ++ x1.2.2.2.2.2).length + x2.2.2.2.2.2.length) 56 then (let y0:List zE:=((x0.2.2.2.2.2++x1.2.2.2.2.2)++x2.2.2.2.2.2)
   some (sU x2 y0))
  else none)
 else none
abbrev TE:Type:=(List zE)×Int×Int×(List vD)
abbrev TC:Type:=List zE→Int→Int→Int→Int→List vD→Int→Int→Int→Int→Int→Int→Int→AC→Option TE
def ss (k:Nat)(rec:TC)(s8:List zE)(s9 aw cE bV:Int)(r0:List vD)(aq ay az aD aN aO aP:Int)(r2:AC):Option TE:=
 bif decide (bV < cE) then (bif zD bV r2.length then ((mq k (r2.getD bV.toNat 0) 18 [aq,ay,az,aD]).bind fun x0=>
   bif zY (r0.length+1) 64 then(rec s8 s9 aw cE (zA (bV+1)) (r0++[x0]) aq ay az aD aN aO aP r2)
   else none)
  else none)
 else some (s8,s9,aw,r0)
def sr (k:Nat):Nat→TC
 |0,_,_,_,_,_,_,_,_,_,_,_,_,_,_=>none
 |n+1,s8,s9,aw,cE,bV,r0,aq,ay,az,aD,aN,aO,aP,r2=>ss k (sr k n) s8 s9 aw cE bV r0 aq ay az aD aN aO aP r2
abbrev TH:Type:=List vD
abbrev TF:Type:=List zE→Int→Int→List vD→Option TH
def Be (k:Nat)(rec:TF)(s8:List zE)(s9 aw:Int)(r0:List vD):Option TH:=
 bif decide (aw < s9) then (bif zD aw s8.length then ((sr k k s8 s9 aw 2 0 r0 (s8.getD aw.toNat (0,0,0,0,0,0,0)).1 (s8.getD aw.toNat (0,0,0,0,0,0,0)).2.1 (s8.getD aw.toNat (0,0,0,0,0,0,0)).2.2.1 (s8.getD aw.toNat (0,0,0,0,0,0,0)).2.2.2.1 (s8.getD aw.toNat (0,0,0,0,0,0,0)).2.2.2.2.1 (s8.getD aw.toNat (0,0,0,0,0,0,0)).2.2.2.2.2.1 (s8.getD aw.toNat (0,0,0,0,0,0,0)).2.2.2.2.2.2 [(s8.getD aw.toNat (0,0,0,0,0,0,0)).2.1,(s8.getD aw.toNat (0,0,0,0,0,0,0)).2.2.1]).bind fun z=>
   rec z.1 z.2.1 (zA (z.2.2.1+1)) z.2.2.2)
  else none)
 else some r0
def Fg (k:Nat):Nat→TF
 |0,_,_,_,_=>none
 |n+1,s8,s9,aw,r0=>Be k (Fg k n) s8 s9 aw r0
def Jj (k:Nat)(a0:List zE):Option (List vD):=
 (Fg k k a0 (a0.length:Int) 0 []).bind fun z1=>
 some z1
def pD (k:Nat)(KX:Int)(UW:List zM)(UX:EQ)(UY:AC)(UZ:EQ)(U0:AC)(U1:EQ)(Gh:List zE)(U2:AC)(U3:Int)(U4 a1:Bool):Option UN:=
 (uU k UW UX UY UZ Gh KX a1).bind fun x0=>
 (Jj k x0.2.2.2.2.2).bind fun x1=>
 some (KX,(jV x0 (U0,U1,x0.2.2.2.2.1,U2,U3,U4,x1)))
abbrev TM:Type:=Int×(List wQ)×Int×Int×Int×Int×(List zM)×EQ×AC×EQ×AC×EQ×(List zE)×AC×Int×Bool×Int×Int×Bool×(List vD)×(List zE)
abbrev TK:Type:=List zE→Int→Int→Int→List wQ→Int→Int→Int→Int→List zM→EQ→AC→EQ→AC→EQ→List zE→AC→Int→Bool→Int→Int→Bool→List vD→List zE→Option TM
def Bl (k:Nat)(rec:TK)(di:List zE)(g9 dj aa:Int)(af:List wQ)(ag ae aS aq:Int)(ay:List zM)(az:EQ)(aD:AC)(aN:EQ)(aO:AC)(aP:EQ)(bQ:List zE)(bR:AC)(bg:Int)(aI:Bool)(bE mE:Int)(gI:Bool)(r3:List vD)(r4:List zE):Option TM:=
 bif decide (dj < g9) then (bif zD dj di.length then ((Ps k (di.getD dj.toNat (0,0,0,0,0,0,0)).1 (di.getD dj.toNat (0,0,0,0,0,0,0)).2.1 (di.getD dj.toNat (0,0,0,0,0,0,0)).2.2.1 (di.getD dj.toNat (0,0,0,0,0,0,0)).2.2.2.1 (di.getD dj.toNat (0,0,0,0,0,0,0)).2.2.2.2.1 (di.getD dj.toNat (0,0,0,0,0,0,0)).2.2.2.2.2.1 (di.getD dj.toNat (0,0,0,0,0,0,0)).2.2.2.2.2.2 aq).bind fun x2=>
   bif x2 then ((mq k (di.getD dj.toNat (0,0,0,0,0,0,0)).2.1 21 [(di.getD dj.toNat (0,0,0,0,0,0,0)).1]).bind fun x3=>
    bif zY (r3.length+1) 64 then(rec di g9 (zA (dj+1)) aa af ag ae aS aq ay az aD aN aO aP bQ bR bg aI bE mE gI (r3++[x3]) r4)
    else none)
   else bif zY (r4.length + 1) 56 then (let y0:List zE:=(r4++[(di.getD dj.toNat (0,0,0,0,0,0,0))])
    rec di g9 (zA (dj+1)) aa af ag ae aS aq ay az aD aN aO aP bQ bR bg aI bE mE gI r3 y0)
   else none)
  else none)
 else some (aa,af,ag,ae,aS,aq,ay,az,aD,aN,aO,aP,bQ,bR,bg,aI,bE,mE,gI,r3,r4)
def Bk (k:Nat):Nat→TK
 |0,_,_,_,_,_,_,_,_,_,_,_,_,_,_,_,_,_,_,_,_,_,_,_,_=>none
 |n+1,di,g9,dj,aa,af,ag,ae,aS,aq,ay,az,aD,aN,aO,aP,bQ,bR,bg,aI,bE,mE,gI,r3,r4=>Bl k (Bk k n) di g9 dj aa af ag ae aS aq ay az aD aN aO aP bQ bR bg aI bE mE gI r3 r4
def uZ (k:Nat)(KU:Int)(KV:List wQ)(KW Cd Ce KZ:Int)(Vl:List zM)(Vm:EQ)(Vn:AC)(Vo:EQ)(Vp:AC)(Vq:EQ)(Gj:List zE)(Vr:AC)(Vs:Int)(K0:Bool):Option UN:=
 bif K0 then some (KZ,Vl,Vm,Vn,Vo,Vp,Vq,Gj,Vr,Vs,K0,[])
 else(Bm k KU KV KW Cd Ce (zA (KZ+1))).bind fun x0=>
 bif x0 then ((Jl k (zA (KZ+1)) Vl Vm Vn Vo Vp Vq Gj Vr Vs K0).bind fun x1=>
  some (x1.1,x1.2.1,x1.2.2.1,x1.2.2.2.1,x1.2.2.2.2.1,x1.2.2.2.2.2.1,x1.2.2.2.2.2.2.1,x1.2.2.2.2.2.2.2.1,x1.2.2.2.2.2.2.2.2.1,x1.2.2.2.2.2.2.2.2.2.1,x1.2.2.2.2.2.2.2.2.2.2.1,x1.2.2.2.2.2.2.2.2.2.2.2))
 else(Bk k k Gj (Gj.length:Int) 0 KU KV KW Cd Ce (zA (KZ+1)) Vl Vm Vn Vo Vp Vq Gj Vr Vs K0 0 0 false [] []).bind fun z=>
 (Jm k z.1 z.2.1 z.2.2.1 z.2.2.2.1 z.2.2.2.2.1 z.2.2.2.2.2.1).bind fun x4=>
 (pD k z.2.2.2.2.2.1 z.2.2.2.2.2.2.1 z.2.2.2.2.2.2.2.1 z.2.2.2.2.2.2.2.2.1 z.2.2.2.2.2.2.2.2.2.1 z.2.2.2.2.2.2.2.2.2.2.1 z.2.2.2.2.2.2.2.2.2.2.2.1 z.2.2.2.2.2.2.2.2.2.2.2.2.2.2.2.2.2.2.2.2 z.2.2.2.2.2.2.2.2.2.2.2.2.2.1 z.2.2.2.2.2.2.2.2.2.2.2.2.2.2.1 z.2.2.2.2.2.2.2.2.2.2.2.2.2.2.2.1 x4).bind fun x5=>
 bif zY (z.2.2.2.2.2.2.2.2.2.2.2.2.2.2.2.2.2.2.2.1.length + x5.2.2.2.2.2.2.2.2.2.2.2.length) 64 then (let y1:List vD:=(z.2.2.2.2.2.2.2.2.2.2.2.2.2.2.2.2.2.2.2.1++x5.2.2.2.2.2.2.2.2.2.2.2)
  some (sP x5 y1))
 else none
def qQd (k:Nat)(a0:gX)(a1:(Int×Int×Int×Int×Int×Int)):Option (Int×wR):=
 (yP k a1.2.1 0 (zA (a0.1-1))).bind fun x0=>
 bif !x0 then some (1,(yX a0 []))
 else(yP k a1.2.2.2.1 1 3).bind fun x1=>
 bif !x1 then some (1,(yX a0 []))
 else(Bo k (wD a0) a0.2.2.2.2.2.1 (a1.1,a0.2.2.2.2.2.2.2.2.2.2.2.2.2.2.2.2,a1.2)).bind fun x2=>
 bif !(decide (x2=0)) then some (x2,(yX a0 []))
 else(AM k a0.2.2.2.2.2.2.2.2.2.2.2.2.2.1 a1.1).bind fun x3=>
 bif !(decide (x3.2=0)) then some (x3.2,(yX a0 []))
 else(se k a0.2.2.2.2.2.2.2.2.2.2.2.2.1 (a1.1,a0.2.2.2.2.2.2.2.2.2.2.2.2.2.2.2.2,a1.2)).bind fun x4=>
 bif !(decide (x4.2=0)) then some (x4.2,(yX a0 []))
 else some (0,(mC a0 (x4.1,x3.1,a0.2.2.2.2.2.2.2.2.2.2.2.2.2.2.1,a0.2.2.2.2.2.2.2.2.2.2.2.2.2.2.2.1,a0.2.2.2.2.2.2.2.2.2.2.2.2.2.2.2.2,[])))
def Kz (k:Nat)(a0:gX)(a1:zE):Option (Int×wR):=
 (Rt k (yX a0 []) a1.2.1).bind fun x0=>
 bif !(decide (x0.2=0)) then some (x0.2,(yX a0 []))
 else bif decide (a1.1 = 2) then ((mj k a0.2.2.2.2.2.2.2.2.2.2.2.2.1 a1.2.1).bind fun x1=>
  (JE k (mC a0 (x1.1,a0.2.2.2.2.2.2.2.2.2.2.2.2.2)) 20 [a1.2.1]).bind fun x2=>
  some (x1.2.2.2.2.2.2.2.2,x2))
 else bif decide (a1.1 = 4) then ((yP k a1.2.2.1 1 3).bind fun x3=>
  bif !x3 then some (1,(yX a0 []))
  else(u6 k (wD a0) a0.2.2.2.2.2.1 a1.2.2.1).bind fun x4=>
  bif !(decide (x4=0)) then some (x4,(yX a0 []))
  else(AH k a0.2.2.2.2.2.2.2.2.2.2.2.2.1 a1.2.1 a1.2.2.1).bind fun x5=>
  some (x5.2,(mC a0 (x5.1,(UQ a0 [])))))
 else bif decide (a1.2.2.1 = 0) then ((AK k a0.2.2.2.2.2.2.2.2.2.2.2.2.1 a1.2.1).bind fun x6=>
  some (x6.2,(mC a0 (x6.1,(UQ a0 [])))))
 else bif decide (a1.2.2.1 = 1) then ((AI k a0.2.2.2.2.2.2.2.2.2.2.2.2.1 a1.2.1).bind fun x7=>
  some (x7.2,(mC a0 (x7.1,(UQ a0 [])))))
 else some (1,(yX a0 []))
def KA (k:Nat)(a0:gX)(a1:zE):Option (Int×wR):=
 (dG k a0.2.2.2.2.2.2.1 a0.2.2.2.2.2.2.2.1 a0.2.2.2.2.2.2.2.2.1 a0.2.2.2.2.2.2.2.2.2.1).bind fun x0=>
 bif decide (a1.1 = 5) then ((RB k (yX a0 []) a1.2.1).bind fun x1=>
  bif !x1 then some (1,(yX a0 []))
  else(yP k a1.2.2.1 (-1) 1152921504606846976).bind fun x2=>
  bif !x2 then some (1,(yX a0 []))
  else bif zD a0.2.2.2.2.2.2.2.2.2.2.2.2.2.2.2.2 x0.2.1.length then (bif zD a1.2.1 (x0.2.1.getD a0.2.2.2.2.2.2.2.2.2.2.2.2.2.2.2.2.toNat []).length then (let y0:EQ:=(x0.2.1.set a0.2.2.2.2.2.2.2.2.2.2.2.2.2.2.2.2.toNat ((x0.2.1.getD a0.2.2.2.2.2.2.2.2.2.2.2.2.2.2.2.2.toNat []).set a1.2.1.toNat a1.2.2.1))
    some (0,(fO a0 (x0.1,y0,x0.2.2.1,x0.2.2.2,(UR a0 [])))))
   else none)
  else none)
 else bif decide (a1.1 = 6) then ((yP k a1.2.1 (-1) 1152921504606846976).bind fun x3=>
  bif !x3 then some (1,(yX a0 []))
  else bif zD a0.2.2.2.2.2.2.2.2.2.2.2.2.2.2.2.2 x0.2.2.1.length then (let y1:AC:=(x0.2.2.1.set a0.2.2.2.2.2.2.2.2.2.2.2.2.2.2.2.2.toNat a1.2.1)
   some (0,(fO a0 (x0.1,x0.2.1,y1,x0.2.2.2,(UR a0 [])))))
  else none)
 else(yP k a1.2.1 0 1152921504606846976).bind fun x4=>
 bif !x4 then some (1,(yX a0 []))
 else bif zD a0.2.2.2.2.2.2.2.2.2.2.2.2.2.2.2.2 x0.1.length then (let y2:List zM:=(x0.1.set a0.2.2.2.2.2.2.2.2.2.2.2.2.2.2.2.2.toNat ((x0.1.getD a0.2.2.2.2.2.2.2.2.2.2.2.2.2.2.2.2.toNat (0,0,0)).1,(x0.1.getD a0.2.2.2.2.2.2.2.2.2.2.2.2.2.2.2.2.toNat (0,0,0)).2.1,a1.2.1))
  some (0,(fO a0 (y2,x0.2.1,x0.2.2.1,x0.2.2.2,(UR a0 [])))))
 else none
def yCu (k:Nat)(a0:gX)(a1 a2:Int):Option (Int×wR):=
 (F5 k (yX a0 []) a1).bind fun x0=>
 bif !x0 then some (1,(yX a0 []))
 else(yP k a2 0 1099511627776).bind fun x1=>
 bif !x1 then some (1,(yX a0 []))
 else(Bq k a0.2.2.2.2.2.2.2.2.2.2.2.1).bind fun x2=>
 bif zD a0.2.2.2.2.2.2.2.2.2.2.2.2.2.2.2.2 x2.length then ((mo k (x2.getD a0.2.2.2.2.2.2.2.2.2.2.2.2.2.2.2.2.toNat []) a1 a2).bind fun x3=>
  bif zD a0.2.2.2.2.2.2.2.2.2.2.2.2.2.2.2.2 x2.length then (let y0:EQ:=(x2.set a0.2.2.2.2.2.2.2.2.2.2.2.2.2.2.2.2.toNat x3)
   bif zD a0.2.2.2.2.2.2.2.2.2.2.2.2.2.2.2.2 y0.length then ((nI k a0.2.1 a0.2.2.2.2.2.2.2.2.2.2.1 (y0.getD a0.2.2.2.2.2.2.2.2.2.2.2.2.2.2.2.2.toNat [])).bind fun x4=>
    bif zD a0.2.2.2.2.2.2.2.2.2.2.2.2.2.2.2.2 a0.2.2.2.2.2.2.1.length then (bif !x4.2 then some (8,(yX a0 []))
     else bif decide (x4.1>1152921504606846976) then some (8,(yX a0 []))
     else bif decide (x4.1 < (a0.2.2.2.2.2.2.1.getD a0.2.2.2.2.2.2.2.2.2.2.2.2.2.2.2.2.toNat (0, 0, 0)).2.1) then (bif decide ((zA ((a0.2.2.2.2.2.2.1.getD a0.2.2.2.2.2.2.2.2.2.2.2.2.2.2.2.2.toNat (0,0,0)).1+x4.1))<0) then some (9,(yX a0 []))
      else(dG k a0.2.2.2.2.2.2.1 a0.2.2.2.2.2.2.2.1 a0.2.2.2.2.2.2.2.2.1 a0.2.2.2.2.2.2.2.2.2.1).bind fun x5=>
      bif zD a0.2.2.2.2.2.2.2.2.2.2.2.2.2.2.2.2 x5.1.length then (let y1:List zM:=(x5.1.set a0.2.2.2.2.2.2.2.2.2.2.2.2.2.2.2.2.toNat ((x5.1.getD a0.2.2.2.2.2.2.2.2.2.2.2.2.2.2.2.2.toNat (0,0,0)).1,x4.1,(x5.1.getD a0.2.2.2.2.2.2.2.2.2.2.2.2.2.2.2.2.toNat (0,0,0)).2.2))
       some (0,(fO a0 (y1,x5.2.1,x5.2.2.1,x5.2.2.2,a0.2.2.2.2.2.2.2.2.2.2.1,y0,(yC5 a0 [])))))
      else none)
     else(dG k a0.2.2.2.2.2.2.1 a0.2.2.2.2.2.2.2.1 a0.2.2.2.2.2.2.2.2.1 a0.2.2.2.2.2.2.2.2.2.1).bind fun x6=>
     bif zD a0.2.2.2.2.2.2.2.2.2.2.2.2.2.2.2.2 x6.1.length then (let y2:List zM:=(x6.1.set a0.2.2.2.2.2.2.2.2.2.2.2.2.2.2.2.2.toNat ((x6.1.getD a0.2.2.2.2.2.2.2.2.2.2.2.2.2.2.2.2.toNat (0,0,0)).1,x4.1,(x6.1.getD a0.2.2.2.2.2.2.2.2.2.2.2.2.2.2.2.2.toNat (0,0,0)).2.2))
      some (0,(fO a0 (y2,x6.2.1,x6.2.2.1,x6.2.2.2,a0.2.2.2.2.2.2.2.2.2.2.1,y0,(yC5 a0 [])))))
     else none)
    else none)
   else none)
  else none)
 else none
def Bv (k:Nat)(a0:gX)(a1 a2 a3:Int):Option (Int×wR):=
 (yP k a2 0 (zA (a0.1-1))).bind fun x0=>
 bif !x0 then some (1,(yX a0 []))
 else(yP k a3 1 1099511627776).bind fun x1=>
 bif !x1 then some (1,(yX a0 []))
 else bif zD a2 a0.2.2.2.2.2.2.1.length then ((Bw k (a0.2.2.2.2.2.2.1.getD a2.toNat (0,0,0)) a3).bind fun x2=>
  bif decide (a1 = 11) then ((Bx k (a0.2.2.2.2.2.2.1.getD a2.toNat (0,0,0)) a3 3).bind fun x3=>
   (By k (a0.2.2.2.2.2.2.1.getD a2.toNat (0,0,0)) 3).bind fun x4=>
   bif decide (x4<a3) then some (9,(yX a0 []))
   else bif decide ((zA (a0.2.2.2.2.2.2.2.2.2.2.2.2.2.2.1-a3))<0) then some (9,(yX a0 []))
   else bif !(decide (x3.2=0)) then some (x3.2,(yX a0 []))
   else bif decide ((zA (a0.2.2.2.2.2.2.2.2.2.2.2.2.2.2.1-a3))>1152921504606846976) then some (8,(yX a0 []))
   else(dG k a0.2.2.2.2.2.2.1 a0.2.2.2.2.2.2.2.1 a0.2.2.2.2.2.2.2.2.1 a0.2.2.2.2.2.2.2.2.2.1).bind fun x5=>
   bif zD a2 x5.1.length then some (0,(fO a0 ((x5.1.set a2.toNat x3.1),x5.2.1,x5.2.2.1,x5.2.2.2,(KS a0 ((zA (a0.2.2.2.2.2.2.2.2.2.2.2.2.2.2.1-a3)),a0.2.2.2.2.2.2.2.2.2.2.2.2.2.2.2.1,a0.2.2.2.2.2.2.2.2.2.2.2.2.2.2.2.2,[])))))
   else none)
  else bif !(decide (x2.2=0)) then some (x2.2,(yX a0 []))
  else bif decide ((zA (a0.2.2.2.2.2.2.2.2.2.2.2.2.2.2.1+a3))>1152921504606846976) then some (8,(yX a0 []))
  else(dG k a0.2.2.2.2.2.2.1 a0.2.2.2.2.2.2.2.1 a0.2.2.2.2.2.2.2.2.1 a0.2.2.2.2.2.2.2.2.2.1).bind fun x6=>
  bif zD a2 x6.1.length then some (0,(fO a0 ((x6.1.set a2.toNat x2.1),x6.2.1,x6.2.2.1,x6.2.2.2,(KS a0 ((zA (a0.2.2.2.2.2.2.2.2.2.2.2.2.2.2.1+a3)),a0.2.2.2.2.2.2.2.2.2.2.2.2.2.2.2.1,a0.2.2.2.2.2.2.2.2.2.2.2.2.2.2.2.2,[])))))
  else none)
 else none
abbrev TQ:Type:=(gX×AC×(List zM)×EQ×AC×EQ)⊕(Int×gX)
abbrev TO:Type:=EQ→Int→Int→gX→AC→List zM→EQ→AC→EQ→Option TQ
def BA (k:Nat)(rec:TO)(dL:EQ)(fq gG:Int)(b0:gX)(r1:AC)(r3:List zM)(m4:EQ)(r5:AC)(m6:EQ):Option TQ:=
 bif decide (gG < fq) then (bif zD gG dL.length then ((nI k b0.2.1 r1 (dL.getD gG.toNat [])).bind fun x4=>
   bif !x4.2 then some (.inr (8,b0))
   else bif decide (x4.1>1152921504606846976) then some (.inr (8,b0))
   else bif zD gG r3.length then (let y0:List zM:=(r3.set gG.toNat ((r3.getD gG.toNat (0,0,0)).1,x4.1,(r3.getD gG.toNat (0,0,0)).2.2))
    rec dL fq (zA (gG+1)) b0 r1 y0 m4 r5 m6)
   else none)
  else none)
 else some (.inl (b0,r1,r3,m4,r5,m6))
def pH (k:Nat):Nat→TO:=vT (fun _ _ _ _ _ _ _ _ _=>none) (BA k)
def Jz (k:Nat)(a0:gX)(a1 a2:Int):Option (Int×wR):=
 (F5 k (yX a0 []) a1).bind fun x0=>
 bif !x0 then some (1,(yX a0 []))
 else(yP k a2 0 1048576).bind fun x1=>
 bif !x1 then some (1,(yX a0 []))
 else(mo k a0.2.2.2.2.2.2.2.2.2.2.1 a1 a2).bind fun x2=>
 (dG k a0.2.2.2.2.2.2.1 a0.2.2.2.2.2.2.2.1 a0.2.2.2.2.2.2.2.2.1 a0.2.2.2.2.2.2.2.2.2.1).bind fun x3=>
 (pH k k a0.2.2.2.2.2.2.2.2.2.2.2.1 (a0.2.2.2.2.2.2.2.2.2.2.2.1.length:Int) 0 a0 x2 x3.1 x3.2.1 x3.2.2.1 x3.2.2.2).bind fun z=>
 match z with
 |.inl z1=>some (0,(fO z1.1 (yGx z1 (z1.2.1,(Px z1.1 [])))))
 |.inr z2=>some (wW z2 [])
def JC (k:Nat)(a0:gX)(a1:zE):Option (Int×wR):=
 bif decide (a1.1 = 1) then ((qQd k a0 a1.2).bind fun x0=>
  some (x0.1,x0.2))
 else bif decide (a1.1 = 2) then ((Kz k a0 a1).bind fun x1=>
  some (x1.1,x1.2))
 else bif decide (a1.1 = 3) then ((Kz k a0 a1).bind fun x2=>
  some (x2.1,x2.2))
 else bif decide (a1.1 = 4) then ((Kz k a0 a1).bind fun x3=>
  some (x3.1,x3.2))
 else bif decide (a1.1 = 5) then ((KA k a0 a1).bind fun x4=>
  some (x4.1,x4.2))
 else bif decide (a1.1 = 6) then ((KA k a0 a1).bind fun x5=>
  some (x5.1,x5.2))
 else bif decide (a1.1 = 7) then ((KA k a0 a1).bind fun x6=>
  some (x6.1,x6.2))
 else bif decide (a1.1 = 8) then ((yCu k a0 a1.2.1 a1.2.2.1).bind fun x7=>
  some (x7.1,x7.2))
 else bif decide (a1.1 = 10) then ((Bv k a0 a1.1 a1.2.1 a1.2.2.1).bind fun x8=>
  some (x8.1,x8.2))
 else bif decide (a1.1 = 11) then ((Bv k a0 a1.1 a1.2.1 a1.2.2.1).bind fun x9=>
  some (x9.1,x9.2))
 else bif decide (a1.1 = 12) then ((Jz k a0 a1.2.1 a1.2.2.1).bind fun cm=>
  some (cm.1,cm.2))
 else some (0,(yX a0 []))
def fk (k:Nat)(a0:wN)(a1:wF)(a2:vD):Option (wF×(List vD)×Int):=
 (Br k a0 a1 a2).bind fun x0=>
 bif !(decide (x0=0)) then some (a1,[],x0)
 else bif decide (a2.2.1 = 9) then ((Fy k a1 a2.1).bind fun x1=>
  some (a1,x1,0))
 else bif !(decide (a2.1 = (-1))) then ((JE k (eN a0 (eO a1 a2.1)) 15 []).bind fun x2=>
  (JB k x2 a2.2).bind fun x3=>
  bif !(decide (x3.1=0)) then some (a1,[],x3.1)
  else bif decide (a2.2.1 = 14) then ((uZ k a0.1 a0.2.1 a0.2.2.1 a0.2.2.2.1 a0.2.2.2.2 a1.1 a1.2.1 a1.2.2.1 a1.2.2.2.1 a1.2.2.2.2.1 a1.2.2.2.2.2.1 a1.2.2.2.2.2.2.1 a1.2.2.2.2.2.2.2.1 a1.2.2.2.2.2.2.2.2.1 a1.2.2.2.2.2.2.2.2.2.1 a1.2.2.2.2.2.2.2.2.2.2).bind fun x4=>
   some ((vK x4),x4.2.2.2.2.2.2.2.2.2.2.2,0))
  else(pD k x3.2.2.2.2.2.2.1 x3.2.2.2.2.2.2.2.1 x3.2.2.2.2.2.2.2.2.1 x3.2.2.2.2.2.2.2.2.2.1 x3.2.2.2.2.2.2.2.2.2.2.1 x3.2.2.2.2.2.2.2.2.2.2.2.1 x3.2.2.2.2.2.2.2.2.2.2.2.2.1 x3.2.2.2.2.2.2.2.2.2.2.2.2.2.1 x3.2.2.2.2.2.2.2.2.2.2.2.2.2.2.1 x3.2.2.2.2.2.2.2.2.2.2.2.2.2.2.2.1 x3.2.2.2.2.2.2.2.2.2.2.2.2.2.2.2.2.1 (decide (a2.2.1=13))).bind fun x5=>
  bif zY (x3.2.2.2.2.2.2.2.2.2.2.2.2.2.2.2.2.2.2.length + x5.2.2.2.2.2.2.2.2.2.2.2.length) 64 then (let y0:List vD:=(x3.2.2.2.2.2.2.2.2.2.2.2.2.2.2.2.2.2.2++x5.2.2.2.2.2.2.2.2.2.2.2)
   bif decide (a2.2.1 = 1) then ((lh k x5.2.2.2.2.2.2.2.1 a2.2.2.1).bind fun x6=>
    bif decide (x6 ≥ 0) then ((sA k (JD x3 y0) 19 [a2.2.2.1]).bind fun x7=>
     some ((vK x5),x7.2.2.2.2.2.2.2.2.2.2.2.2.2.2.2.2.2,0))
    else some ((vK x5),y0,0))
   else some ((vK x5),y0,0))
  else none)
 else(JC k (eN a0 (eO a1 a2.1)) a2.2).bind fun x8=>
 bif !(decide (x8.1=0)) then some (a1,[],x8.1)
 else bif decide (a2.2.1 = 14) then ((uZ k a0.1 a0.2.1 a0.2.2.1 a0.2.2.2.1 a0.2.2.2.2 a1.1 a1.2.1 a1.2.2.1 a1.2.2.2.1 a1.2.2.2.2.1 a1.2.2.2.2.2.1 a1.2.2.2.2.2.2.1 a1.2.2.2.2.2.2.2.1 a1.2.2.2.2.2.2.2.2.1 a1.2.2.2.2.2.2.2.2.2.1 a1.2.2.2.2.2.2.2.2.2.2).bind fun x9=>
  some ((vK x9),x9.2.2.2.2.2.2.2.2.2.2.2,0))
 else(pD k x8.2.2.2.2.2.2.1 x8.2.2.2.2.2.2.2.1 x8.2.2.2.2.2.2.2.2.1 x8.2.2.2.2.2.2.2.2.2.1 x8.2.2.2.2.2.2.2.2.2.2.1 x8.2.2.2.2.2.2.2.2.2.2.2.1 x8.2.2.2.2.2.2.2.2.2.2.2.2.1 x8.2.2.2.2.2.2.2.2.2.2.2.2.2.1 x8.2.2.2.2.2.2.2.2.2.2.2.2.2.2.1 x8.2.2.2.2.2.2.2.2.2.2.2.2.2.2.2.1 x8.2.2.2.2.2.2.2.2.2.2.2.2.2.2.2.2.1 (decide (a2.2.1=13))).bind fun cm=>
 bif zY (x8.2.2.2.2.2.2.2.2.2.2.2.2.2.2.2.2.2.2.length + cm.2.2.2.2.2.2.2.2.2.2.2.length) 64 then (let y1:List vD:=(x8.2.2.2.2.2.2.2.2.2.2.2.2.2.2.2.2.2.2++cm.2.2.2.2.2.2.2.2.2.2.2)
  bif decide (a2.2.1 = 1) then ((lh k cm.2.2.2.2.2.2.2.1 a2.2.2.1).bind fun fx=>
   bif decide (fx ≥ 0) then ((sA k (JD x8 y1) 19 [a2.2.2.1]).bind fun kH=>
    some ((vK cm),kH.2.2.2.2.2.2.2.2.2.2.2.2.2.2.2.2.2,0))
   else some ((vK cm),y1,0))
  else some ((vK cm),y1,0))
 else none
def pJ (k:Nat)(aQ:dK)(cz:vJ)(a1:AC):Option (Int×dK×vJ):=
 (FN k cz (zA (1-aQ.1)) (zA (aQ.2.1+1)) a1).bind fun x0=>
 bif decide (x0.1=0) then some (x0.1,((zA (1-aQ.1)),(zA (aQ.2.1+1)),0,false),x0.2)
 else some (x0.1,aQ,x0.2)
def PJ (k:Nat)(a0:Int):Option Bool:=
 (yP k a0 0 1048576).bind fun x0=>
 some (!x0)
abbrev TU:Type:=AC→Int→Int→Option (Unit⊕Int)
def BF (k:Nat)(rec:TU)(s0:AC)(s7 s8:Int):Option (Unit⊕Int):=
 bif decide (s8 < s7) then (bif zD s8 s0.length then ((PJ k (s0.getD s8.toNat 0)).bind fun x0=>
   bif x0 then some (.inr s8)
   else rec s0 s7 (zA (s8+1)))
  else none)
 else some (.inl ())
def vl (k:Nat):Nat→TU
 |0,_,_,_=>none
 |n+1,s0,s7,s8=>BF k (vl k n) s0 s7 s8
def PK (k:Nat)(a0:AC):Option Int:=
 (vl k k a0 (a0.length:Int) 0).bind fun z=>
 match z with
 |.inl z1=>some (-1)
 |.inr z2=>some z2
def FG (k:Nat)(a0:AC):Option Bool:=
 (PK k a0).bind fun x0=>
 some (decide (x0≥0))
def PM (k:Nat)(a0:Int):Option Bool:=
 some (decide (a0>1099511627776))
abbrev TW:Type:=AC→Int→Int→Option (Unit⊕Int)
def BG (k:Nat)(rec:TW)(s0:AC)(s7 s8:Int):Option (Unit⊕Int):=
 bif decide (s8 < s7) then (bif zD s8 s0.length then ((PM k (s0.getD s8.toNat 0)).bind fun x0=>
   bif x0 then some (.inr s8)
   else rec s0 s7 (zA (s8+1)))
  else none)
 else some (.inl ())
def vm (k:Nat):Nat→TW
 |0,_,_,_=>none
 |n+1,s0,s7,s8=>BG k (vm k n) s0 s7 s8
def PN (k:Nat)(a0:AC):Option Int:=
 (vm k k a0 (a0.length:Int) 0).bind fun z=>
 match z with
 |.inl z1=>some (-1)
 |.inr z2=>some z2
def JJ (k:Nat)(a0:AC):Option Bool:=
 (PN k a0).bind fun x0=>
 some (decide (x0≥0))
abbrev TY:Type:=EQ→Int→Int→wN→wF→Option (Unit⊕Bool)
def BH (k:Nat)(rec:TY)(g9:EQ)(dj iO:Int)(b0:wN)(b1:wF):Option (Unit⊕Bool):=
 bif decide (iO < dj) then (bif zD iO g9.length then ((nI k b0.2.1 b1.2.2.2.2.2.1 (g9.getD iO.toNat [])).bind fun x1=>
   bif !x1.2 then some (.inr false)
   else bif decide (x1.1>1152921504606846976) then some (.inr false)
   else bif zD iO b1.2.1.length then (bif !(decide (x1.1=(b1.2.1.getD iO.toNat (0,0,0)).2.1)) then some (.inr false)
    else(JJ k (g9.getD iO.toNat [])).bind fun x2=>
    bif x2 then some (.inr false)
    else rec g9 dj (zA (iO+1)) b0 b1)
   else none)
  else none)
 else some (.inl ())
def sD (k:Nat):Nat→TY:=vT (fun _ _ _ _ _=>none) (BH k)
def FH (k:Nat)(a0:wN)(a1:wF):Option Bool:=
 bif !(decide ((a1.2.2.2.2.2.1.length:Int)=(a0.2.1.length:Int))) then some false
 else bif !(decide ((a1.2.2.2.2.2.2.1.length:Int)=a0.1)) then some false
 else(FG k a1.2.2.2.2.2.1).bind fun x0=>
 bif x0 then some false
 else(sD k k a1.2.2.2.2.2.2.1 (a1.2.2.2.2.2.2.1.length:Int) 0 a0 a1).bind fun z=>
 match z with
 |.inl z1=>some true
 |.inr z2=>some z2
abbrev T0:Type:=List zE→Int→Option (Unit⊕Bool)
def JG (k:Nat)(rec:T0)(s0:List zE)(s5:Int):Option (Unit⊕Bool):=
 bif decide (s5 > 0) then (bif zD s5 s0.length then (bif zD (zA (s5 - 1)) s0.length then ((AF k (s0.getD s5.toNat (0,0,0,0,0,0,0)).1 (s0.getD s5.toNat (0,0,0,0,0,0,0)).2.1 (s0.getD s5.toNat (0,0,0,0,0,0,0)).2.2.1 (s0.getD s5.toNat (0,0,0,0,0,0,0)).2.2.2.1 (s0.getD s5.toNat (0,0,0,0,0,0,0)).2.2.2.2.1 (s0.getD s5.toNat (0,0,0,0,0,0,0)).2.2.2.2.2.1 (s0.getD s5.toNat (0,0,0,0,0,0,0)).2.2.2.2.2.2 (s0.getD (zA (s5-1)).toNat (0,0,0,0,0,0,0)).1 (s0.getD (zA (s5-1)).toNat (0,0,0,0,0,0,0)).2.1 (s0.getD (zA (s5-1)).toNat (0,0,0,0,0,0,0)).2.2.1 (s0.getD (zA (s5-1)).toNat (0,0,0,0,0,0,0)).2.2.2.1 (s0.getD (zA (s5-1)).toNat (0,0,0,0,0,0,0)).2.2.2.2.1 (s0.getD (zA (s5-1)).toNat (0,0,0,0,0,0,0)).2.2.2.2.2.1 (s0.getD (zA (s5-1)).toNat (0,0,0,0,0,0,0)).2.2.2.2.2.2).bind fun x0=>
    bif decide (x0<0) then some (.inr false)
    else rec s0 (zA (s5-1)))
   else none)
  else none)
 else some (.inl ())
def FB (k:Nat):Nat→T0:=vT (fun _ _=>none) (JG k)
def JF (k:Nat)(a0:List zE):Option Bool:=
 (FB k k a0 (zA ((a0.length:Int)-1))).bind fun z=>
 match z with
 |.inl z1=>some true
 |.inr z2=>some z2
abbrev T4:Type:=(List zE)⊕Bool
abbrev T2:Type:=List zE→List zE→Int→Int→Option T4
def BC (k:Nat)(rec:T2)(s0 s5:List zE)(s6 s7:Int):Option T4:=
 bif decide (s7 < s6) then (bif zD s7 s5.length then ((lh k s0 (s5.getD s7.toNat (0,0,0,0,0,0,0)).1).bind fun x0=>
   bif !(decide (x0=s7)) then some (.inr false)
   else rec s0 s5 s6 (zA (s7+1)))
  else none)
 else some (.inl s0)
def vj (k:Nat):Nat→T2
 |0,_,_,_,_=>none
 |n+1,s0,s5,s6,s7=>BC k (vj k n) s0 s5 s6 s7
def FA (k:Nat)(a0:List zE):Option Bool:=
 (vj k k a0 a0 (a0.length:Int) 0).bind fun z=>
 match z with
 | .inl z1 => bif decide ((z1.length : Int) ≤ 40) then ((JF k z1).bind fun x1=>
   some x1)
  else some false
 |.inr z2=>some z2
abbrev T5:Type:=AC→Int→AC→Int→Int→Option (AC⊕Bool)
def BD (k:Nat)(rec:T5)(s0:AC)(s3:Int)(s6:AC)(s7 s8:Int):Option (AC⊕Bool):=
 bif decide (s8 < s7) then (bif zD s8 s6.length then (bif decide ((s6.getD s8.toNat 0)≤s3) then some (.inr false)
   else rec s0 (s6.getD s8.toNat 0) s6 s7 (zA (s8+1)))
  else none)
 else some (.inl s0)
def FD (k:Nat):Nat→T5:=vT (fun _ _ _ _ _=>none) (BD k)
def FC (k:Nat)(a0:AC):Option Bool:=
 (FD k k a0 0 a0 (a0.length:Int) 0).bind fun z=>
 match z with
 |.inl z1=>some (decide ((z1.length:Int)≤200))
 |.inr z2=>some z2
def IY (k:Nat)(a0:AC)(a1:Int):Option Bool:=
 (AL k a0 a1).bind fun x0=>
 some x0.2
def JI (k:Nat)(a0:zE)(a1:wF):Option Bool:=
 (zh k a1.2.1 a1.2.2.1 a1.2.2.2.1 a1.2.2.2.2.1 a0.1 a0.2.1 a0.2.2.1 a0.2.2.2.1 a0.2.2.2.2.1 a0.2.2.2.2.2.1 a0.2.2.2.2.2.2).bind fun x0=>
 bif !x0 then some true
 else bif decide (a0.2.2.2.2.2.1<0) then some true
 else(yP k a0.2.2.2.2.2.2 a0.2.2.2.2.2.1 1048576).bind fun x1=>
 bif !x1 then some true
 else(IY k a1.2.2.2.2.2.2.2.2.1 a0.1).bind fun x2=>
 some (!x2)
abbrev T7:Type:=List zE→Int→Int→Int→List zM→EQ→AC→EQ→AC→EQ→List zE→AC→Int→Bool→Option (Unit⊕Int)
def BE (k:Nat)(rec:T7)(s0:List zE)(s7 s8 aa:Int)(af:List zM)(ag:EQ)(ae:AC)(aS:EQ)(ba:AC)(bb:EQ)(cI:List zE)(cJ:AC)(cL:Int)(bG:Bool):Option (Unit⊕Int):=
 bif decide (s8 < s7) then (bif zD s8 s0.length then ((JI k (s0.getD s8.toNat (0,0,0,0,0,0,0)) (aa,af,ag,ae,aS,ba,bb,cI,cJ,cL,bG)).bind fun x0=>
   bif x0 then some (.inr s8)
   else rec s0 s7 (zA (s8+1)) aa af ag ae aS ba bb cI cJ cL bG)
  else none)
 else some (.inl ())
def vk (k:Nat):Nat→T7
 |0,_,_,_,_,_,_,_,_,_,_,_,_,_,_=>none
 |n+1,s0,s7,s8,aa,af,ag,ae,aS,ba,bb,cI,cJ,cL,bG=>BE k (vk k n) s0 s7 s8 aa af ag ae aS ba bb cI cJ cL bG
def PI (k:Nat)(a0:List zE)(Vt:Int)(Vu:List zM)(Vv:EQ)(Vw:AC)(Vx:EQ)(Vy:AC)(Vz:EQ)(VA:List zE)(VB:AC)(VC:Int)(VD:Bool):Option Int:=
 (vk k k a0 (a0.length:Int) 0 Vt Vu Vv Vw Vx Vy Vz VA VB VC VD).bind fun z=>
 match z with
 |.inl z1=>some (-1)
 |.inr z2=>some z2
def JH (k:Nat)(a0:List zE)(Vt:Int)(Vu:List zM)(Vv:EQ)(Vw:AC)(Vx:EQ)(Vy:AC)(Vz:EQ)(VA:List zE)(VB:AC)(VC:Int)(VD:Bool):Option Bool:=
 (PI k a0 Vt Vu Vv Vw Vx Vy Vz VA VB VC VD).bind fun x0=>
 some (decide (x0≥0))
def FE (k:Nat)(a0:wF):Option Bool:=
 (FA k a0.2.2.2.2.2.2.2.1).bind fun x0=>
 bif x0 then ((FC k a0.2.2.2.2.2.2.2.2.1).bind fun x1=>
  bif x1 then ((JH k a0.2.2.2.2.2.2.2.1 a0.1 a0.2.1 a0.2.2.1 a0.2.2.2.1 a0.2.2.2.2.1 a0.2.2.2.2.2.1 a0.2.2.2.2.2.2.1 a0.2.2.2.2.2.2.2.1 a0.2.2.2.2.2.2.2.2.1 a0.2.2.2.2.2.2.2.2.2.1 a0.2.2.2.2.2.2.2.2.2.2).bind fun x2=>
   some (!x2))
  else some false)
 else some false
abbrev Ub:Type:=wN×wF×AC
abbrev T9:Type:=List zM→Int→Int→wN→wF→AC→Option Ub
def BK (k:Nat)(rec:T9)(kG:List zM)(s45 K1:Int)(b0:wN)(b1:wF)(r2:AC):Option Ub:=
 bif decide (K1 < s45) then (bif zD K1 kG.length then (bif zY (r2.length+1) 8 then(rec kG s45 (zA (K1+1)) b0 b1 (r2++[(kG.getD K1.toNat (0,0,0)).1]))
   else none)
  else none)
 else some (b0,b1,r2)
def BJ (k:Nat):Nat→T9:=vT (fun _ _ _ _ _ _=>none) (BK k)
def BI (k:Nat)(a0:wN)(a1:wF):Option Bool:=
 (yP k a1.1 0 a0.2.2.2.1).bind fun x0=>
 bif !x0 then some false
 else(uB k a1.2.1 a1.2.2.1 a1.2.2.2.1 a1.2.2.2.2.1).bind fun x1=>
 bif !x1 then some false
 else bif !(decide ((a1.2.1.length:Int)=a0.1)) then some false
 else(FH k a0 a1).bind fun x2=>
 bif !x2 then some false
 else(FE k a1).bind fun x3=>
 bif !x3 then some false
 else(BJ k k a1.2.1 (a1.2.1.length:Int) 0 a0 a1 []).bind fun z=>
 (AN k z.2.2).bind fun x4=>
 bif !x4.2 then some false
 else bif !(decide (x4.1=z.2.1.2.2.2.2.2.2.2.2.2.1)) then some false
 else(yP k x4.1 0 1152921504606846976).bind fun x5=>
 bif !x5 then some false
 else(Bm k z.1.1 z.1.2.1 z.1.2.2.1 z.1.2.2.2.1 z.1.2.2.2.2 z.2.1.1).bind fun x6=>
 bif j5 z.2.1.2.2.2.2.2.2.2.2.2.2 x6 then (bif !z.2.1.2.2.2.2.2.2.2.2.2.2 then some true
  else some (decide ((z.2.1.2.2.2.2.2.2.2.1.length:Int)=0)))
 else some false
abbrev Ue:Type:=Int×Bool×Cb×AC×AC×wN×dK×wF
abbrev Uc:Type:=Int→Bool→EQ→Int→Int→Cb→AC→AC→wN→dK→wF→Option Ue
def BS (k:Nat)(rec:Uc)(s2:Int)(bU:Bool)(K2:EQ)(wk mF:Int)(b0:Cb)(r1 r2:AC)(b3:wN)(b4:dK)(b5:wF):Option Ue:=
 bif decide (mF < wk) then (bif zD mF K2.length then ((pG k (K2.getD mF.toNat [])).bind fun x8=>
   bif decide (x8.2 = 0) then ((fk k b3 b5 x8.1).bind fun x9=>
    rec s2 bU K2 wk (zA (mF+1)) b0 r1 r2 b3 b4 x9.1)
   else rec s2 bU K2 wk (zA (mF+1)) b0 r1 r2 b3 b4 b5)
  else none)
 else some (s2,bU,b0,r1,r2,b3,b4,b5)
def vv (k:Nat):Nat→Uc:=vT (fun _ _ _ _ _ _ _ _ _ _ _=>none) (BS k)
def jG (k:Nat)(a0:wN)(a1:vJ)(a2:Int):Option ((Int×vJ×lJ×dK)⊕(Int×vJ)):=
 (lD k a0).bind fun x0=>
 bif !x0 then some (.inr (1,a1))
 else bif decide (a2<1) then some (.inr (1,a1))
 else bif decide (a2>1000) then some (.inr (1,a1))
 else(BM k a1).bind fun x1=>
 (iL k a0).bind fun x2=>
 (fh k x2).bind fun x3=>
 (vt k a1 x3).bind fun x4=>
 match x4 with
 |.inl x5=>bif !(decide (x5.2.2.1=0)) then some (.inr (x5.2.2.1,x5.2.2.2.1))
  else(vu k x5.1).bind fun x6=>
  bif !x6.2 then ((iL k a0).bind fun x7=>
   (vv k k a2 x1.2.2.2.2 x5.2.1 (x5.2.1.length:Int) 0 (x5.2.2.2.1.1,x5.2.2.2.1.2.2.1,x5.2.2.2.1.2.2.2.2) x5.2.2.2.1.2.1 x5.2.2.2.1.2.2.2.1 a0 x5.2.2.2.2 x7).bind fun z=>
   bif z.2.1 then ((fh k z.2.2.2.2.2.2.2).bind fun cm=>
    (pJ k z.2.2.2.2.2.2.1 (z.2.2.1.1,z.2.2.2.1,z.2.2.1.2.1,z.2.2.2.2.1,z.2.2.1.2.2) cm).bind fun fx=>
    bif !(decide (fx.1=0)) then some (.inr (fx.1,fx.2.2))
    else some (.inl (0,fx.2.2,(eN z.2.2.2.2.2.1 (Cc z (z.1,false))),fx.2.1)))
   else some (.inl (0,(z.2.2.1.1,z.2.2.2.1,z.2.2.1.2.1,z.2.2.2.2.1,z.2.2.1.2.2),(eN z.2.2.2.2.2.1 (Cc z (z.1,false))),z.2.2.2.2.2.2.1)))
  else(BI k a0 x6.1).bind fun kH=>
  bif !kH then ((iL k a0).bind fun sY=>
   (vv k k a2 x1.2.2.2.2 x5.2.1 (x5.2.1.length:Int) 0 (x5.2.2.2.1.1,x5.2.2.2.1.2.2.1,x5.2.2.2.1.2.2.2.2) x5.2.2.2.1.2.1 x5.2.2.2.1.2.2.2.1 a0 x5.2.2.2.2 sY).bind fun z1=>
   bif z1.2.1 then ((fh k z1.2.2.2.2.2.2.2).bind fun qb=>
    (pJ k z1.2.2.2.2.2.2.1 (z1.2.2.1.1,z1.2.2.2.1,z1.2.2.1.2.1,z1.2.2.2.2.1,z1.2.2.1.2.2) qb).bind fun mG=>
    bif !(decide (mG.1=0)) then some (.inr (mG.1,mG.2.2))
    else some (.inl (0,mG.2.2,(eN z1.2.2.2.2.2.1 (Cc z1 (z1.1,false))),mG.2.1)))
   else some (.inl (0,(z1.2.2.1.1,z1.2.2.2.1,z1.2.2.1.2.1,z1.2.2.2.2.1,z1.2.2.1.2.2),(eN z1.2.2.2.2.2.1 (Cc z1 (z1.1,false))),z1.2.2.2.2.2.2.1)))
  else(vv k k a2 x1.2.2.2.2 x5.2.1 (x5.2.1.length:Int) 0 (x5.2.2.2.1.1,x5.2.2.2.1.2.2.1,x5.2.2.2.1.2.2.2.2) x5.2.2.2.1.2.1 x5.2.2.2.1.2.2.2.1 a0 x5.2.2.2.2 x6.1).bind fun z2=>
  bif z2.2.1 then ((fh k z2.2.2.2.2.2.2.2).bind fun qc=>
   (pJ k z2.2.2.2.2.2.2.1 (z2.2.2.1.1,z2.2.2.2.1,z2.2.2.1.2.1,z2.2.2.2.2.1,z2.2.2.1.2.2) qc).bind fun qd=>
   bif !(decide (qd.1=0)) then some (.inr (qd.1,qd.2.2))
   else some (.inl (0,qd.2.2,(eN z2.2.2.2.2.2.1 (Cc z2 (z2.1,false))),qd.2.1)))
  else some (.inl (0,(z2.2.2.1.1,z2.2.2.2.1,z2.2.2.1.2.1,z2.2.2.2.2.1,z2.2.2.1.2.2),(eN z2.2.2.2.2.2.1 (Cc z2 (z2.1,false))),z2.2.2.2.2.2.2.1))
 |.inr iM=>bif !(decide (iM.2.2.1=0)) then some (.inr (iM.2.2.1,iM.2.2.2))
  else(vu k iM.1).bind fun mH=>
  bif !mH.2 then ((iL k a0).bind fun K3=>
   none)
  else(BI k a0 mH.1).bind fun Gk=>
  bif !Gk then ((iL k a0).bind fun Gl=>
   none)
  else none
def sI (k:Nat)(aQ:lJ)(cz:dK)(iP:vJ):Option (wF×lJ×dK×vJ):=
 some ((nR aQ),aQ,cz,iP)
def DT (k:Nat)(a0:Int):Option Int:=
 bif decide (a0<0) then some (-1)
 else bif decide (a0≥24) then some (-1)
 else bif zD a0 24 then some (List.getD [(-1),6,1,2,2,2,1,1,2,0,2,2,2,0,0,0,1,5,4,1,1,1,1,1] a0.toNat 0)
 else none
abbrev Ug:Type:=Int→Int→zE→Option (Int⊕Bool)
def yH9 (k:Nat)(rec:Ug)(s3 s4:Int)(b0:zE):Option (Int⊕Bool):=
 bif decide (s4 < 6) then (bif decide (s4 = 0) then (bif !(decide (b0.2.1=0)) then some (.inr false)
   else rec s3 (zA (s4+1)) b0)
  else bif decide (s4 = 1) then (bif !(decide (b0.2.2.1=0)) then some (.inr false)
   else rec s3 (zA (s4+1)) b0)
  else bif decide (s4 = 2) then (bif !(decide (b0.2.2.2.1=0)) then some (.inr false)
   else rec s3 (zA (s4+1)) b0)
  else bif decide (s4 = 3) then (bif !(decide (b0.2.2.2.2.1=0)) then some (.inr false)
   else rec s3 (zA (s4+1)) b0)
  else bif decide (s4 = 4) then (bif !(decide (b0.2.2.2.2.2.1=0)) then some (.inr false)
   else rec s3 (zA (s4+1)) b0)
  else bif decide (s4 = 5) then (bif !(decide (b0.2.2.2.2.2.2=0)) then some (.inr false)
   else rec s3 (zA (s4+1)) b0)
  else none)
 else some (.inl s3)
def Fm (k:Nat):Nat→Ug:=vT (fun _ _ _=>none) (yH9 k)
def Ju (k:Nat)(a0:zE):Option Bool:=
 (DT k a0.1).bind fun x0=>
 (Fm k k x0 (vP false x0 0) a0).bind fun z=>
 match z with
 |.inl z1=>some (decide (z1≥0))
 |.inr z2=>some z2
abbrev Uk:Type:=AC×Int×AC
abbrev Ui:Type:=AC→Int→Int→AC→Option Uk
def Jw (k:Nat)(rec:Ui)(s0:AC)(s4 s5:Int)(r0:AC):Option Uk:=
 bif decide (s5 ≥ 0) then (bif zD s4 s0.length then (bif !(decide ((IntKind.wrap .u64 (s5)) < 0)) then (bif zY (r0.length+1) 1 then(rec s0 s4 (zA (s5-8)) (r0++[(IntKind.wrap .u8 ((shr .u64 (IntKind.wrap .u64 ((s0.getD s4.toNat 0))) (IntKind.wrap .u64 (s5)))))]))
    else none)
   else none)
  else none)
 else some (s0,s4,r0)
def Bt (k:Nat):Nat→Ui:=vT (fun _ _ _ _=>none) (Jw k)
abbrev Ul:Type:=AC→Int→AC→Option AC
def Bu (k:Nat)(rec:Ul)(s0:AC)(s4:Int)(r0:AC):Option AC:=
 bif decide (s4 < (s0.length : Int)) then ((Bt k k s0 s4 56 r0).bind fun z=>
  rec z.1 (zA (z.2.1+1)) z.2.2)
 else some r0
def vg (k:Nat):Nat→Ul:=vT (fun _ _ _=>none) (Bu k)
def Jv (k:Nat)(a0:AC):Option AC:=
 (vg k k a0 0 []).bind fun z1=>
 some z1
def vh (k:Nat)(a0:zE):Option AC:=
 (Ju k a0).bind fun x0=>
 bif !x0 then some []
 else(DT k a0.1).bind fun x1=>
 bif (decide (0 ≤ x1)) && (decide (x1 ≤ 6)) then ((Jv k (qQ [a0.2.1,a0.2.2.1,a0.2.2.2.1,a0.2.2.2.2.1,a0.2.2.2.2.2.1,a0.2.2.2.2.2.2] 0 (x1.toNat-0))).bind fun x2=>
  bif zY (1+x2.length) 1 then some ([(IntKind.wrap .u8 (a0.1))]++x2)
  else none)
 else none
def mz (k:Nat)(aQ:lJ)(cz:dK)(iP:vJ):Option (Bool×lJ×dK×vJ):=
 some (aQ.2.2.2.2.2.2.2.2.2.2.2.2.2.2.2.2.2,aQ,cz,iP)
def Gd (k:Nat)(a0 a1:Int):Option (List vD):=
 some [(a0,16,a1,0,0,0,0,0)]
def Pv (k:Nat)(a0:zE):Option AC:=
 (kC k a0).bind fun x0=>
 bif !x0 then some []
 else(rQ k a0.1).bind fun x1=>
 bif (decide (0 ≤ x1)) && (decide (x1 ≤ 6)) then ((rS k (qQ [a0.2.1,a0.2.2.1,a0.2.2.2.1,a0.2.2.2.2.1,a0.2.2.2.2.2.1,a0.2.2.2.2.2.2] 0 (x1.toNat-0))).bind fun x2=>
  bif zY (1+x2.length) 1 then some ([(IntKind.wrap .u8 (a0.1))]++x2)
  else none)
 else none
def Js (k:Nat)(a0:vD):Option AC:=
 (Pv k a0.2).bind fun x0=>
 bif decide ((x0.length:Int)=0) then some []
 else(rS k [a0.1]).bind fun x1=>
 bif zY (x1.length+x0.length) 1 then some (x1++x0)
 else none
def FP (k:Nat)(aQ:dK)(cz:vJ)(a1:AC):Option (Int×dK×vJ):=
 (DX k a1).bind fun x0=>
 bif !x0.2 then some (10,aQ,cz)
 else bif aQ.2.2.2 then some (10,aQ,cz)
 else(sE k cz aQ.1 x0.1).bind fun x1=>
 bif decide (x1.1=3) then some (10,aQ,x1.2)
 else bif decide (x1.1 = 0) then ((pI k x1.2).bind fun x2=>
  bif decide (x2.1=0) then some (x2.1,(aQ.1,aQ.2.1,(zA (aQ.2.2.1+1)),aQ.2.2.2),x2.2)
  else some (x2.1,aQ,x2.2))
 else bif decide (x1.1=0) then some (x1.1,(aQ.1,aQ.2.1,(zA (aQ.2.2.1+1)),aQ.2.2.2),x1.2)
 else some (x1.1,aQ,x1.2)
def JP (k:Nat)(aQ:lJ)(cz:dK)(iP:vJ)(a1:AC):Option (Int×lJ×dK×vJ):=
 (FP k cz iP a1).bind fun x0=>
 bif !(decide (x0.1=10)) then some (x0.1,aQ,x0.2.1,x0.2.2)
 else(fh k (nR aQ)).bind fun x1=>
 (pJ k x0.2.1 x0.2.2 x1).bind fun x2=>
 bif !(decide (x2.1=0)) then some (x2.1,aQ,x2.2.1,x2.2.2)
 else(FP k x2.2.1 x2.2.2 a1).bind fun x3=>
 some (x3.1,aQ,x3.2.1,x3.2.2)
def JQ (k:Nat)(aQ:dK)(cz:vJ):Option (Int×dK×vJ):=
 some (aQ.2.2.1,aQ,cz)
def BV (k:Nat)(aQ:lJ)(cz:dK)(iP:vJ)(a1:Int)(a2:AC):Option ((List vD)×lJ×dK×vJ):=
 (mz k aQ cz iP).bind fun x0=>
 bif x0.1 then some ([],x0.2.1,x0.2.2.1,x0.2.2.2)
 else(uu k a2).bind fun x1=>
 bif !(decide (x1.2 = 0)) then ((Gd k a1 x1.2).bind fun x2=>
  some (x2,x0.2.1,x0.2.2.1,x0.2.2.2))
 else(fk k (wD x0.2.1) (nR x0.2.1) (a1,x1.1)).bind fun x3=>
 bif !(decide (x3.2.2 = 0)) then ((Gd k a1 x3.2.2).bind fun x4=>
  some (x4,x0.2.1,x0.2.2.1,x0.2.2.2))
 else bif decide (x1.1.1=9) then some (x3.2.1,x0.2.1,x0.2.2.1,x0.2.2.2)
 else(Js k (a1,x1.1)).bind fun x5=>
 (JP k x0.2.1 x0.2.2.1 x0.2.2.2 x5).bind fun x6=>
 bif decide (x6.1 = 0) then ((JQ k x6.2.2.1 x6.2.2.2).bind fun x7=>
  bif decide (x7.1 ≥ x6.2.1.2.2.2.2.2.2.2.2.2.2.2.2.2.2.2.2.1) then ((fh k x3.1).bind fun x8=>
   (pJ k x7.2.1 x7.2.2 x8).bind fun x9=>
   bif decide (x9.1=11) then some (x3.2.1,(sU x6.2.1 (eO x3.1 (x6.2.1.2.2.2.2.2.2.2.2.2.2.2.2.2.2.2.2.1,true))),x9.2.1,x9.2.2)
   else some (x3.2.1,(sU x6.2.1 (eO x3.1 x6.2.1.2.2.2.2.2.2.2.2.2.2.2.2.2.2.2.2)),x9.2.1,x9.2.2))
  else some (x3.2.1,(sU x6.2.1 (eO x3.1 x6.2.1.2.2.2.2.2.2.2.2.2.2.2.2.2.2.2.2)),x7.2.1,x7.2.2))
 else bif decide (x6.1 = 10) then ((Gd k a1 10).bind fun cm=>
  some (cm,x6.2.1,x6.2.2.1,x6.2.2.2))
 else some ([],(UP x6.2.1 true),x6.2.2.1,x6.2.2.2)
abbrev Ut:Type:=AC→AC→Int→Option (Unit⊕Bool)
def zd (k:Nat)(rec:Ut)(s0 s1:AC)(s5:Int):Option (Unit⊕Bool):=
 bif decide (s5 < (s0.length : Int)) then (bif zD s5 s0.length then (bif zD s5 s1.length then (bif !(decide ((s0.getD s5.toNat 0)=(s1.getD s5.toNat 0))) then some (.inr false)
    else rec s0 s1 (zA (s5+1)))
   else none)
  else none)
 else some (.inl ())
def Ek (k:Nat):Nat→Ut
 |0,_,_,_=>none
 |n+1,s0,s1,s5=>zd k (Ek k n) s0 s1 s5
def pn (k:Nat)(a0 a1:AC):Option Bool:=
 bif !(decide ((a0.length:Int)=(a1.length:Int))) then some false
 else(Ek k k a0 a1 0).bind fun z=>
 match z with
 |.inl z1=>some true
 |.inr z2=>some z2
abbrev Uw:Type:=EQ→EQ→Int→Option (Unit⊕Bool)
def ze (k:Nat)(rec:Uw)(s0 s1:EQ)(s5:Int):Option (Unit⊕Bool):=
 bif decide (s5 < (s0.length : Int)) then (bif zD s5 s0.length then (bif zD s5 s1.length then ((pn k (s0.getD s5.toNat []) (s1.getD s5.toNat [])).bind fun x0=>
    bif !x0 then some (.inr false)
    else rec s0 s1 (zA (s5+1)))
   else none)
  else none)
 else some (.inl ())
def El (k:Nat):Nat→Uw
 |0,_,_,_=>none
 |n+1,s0,s1,s5=>ze k (El k n) s0 s1 s5
def uC (k:Nat)(a0 a1:EQ):Option Bool:=
 bif !(decide ((a0.length:Int)=(a1.length:Int))) then some false
 else(El k k a0 a1 0).bind fun z=>
 match z with
 |.inl z1=>some true
 |.inr z2=>some z2
abbrev Uz:Type:=Int→List zM→EQ→AC→EQ→List zM→EQ→AC→EQ→Option (Unit⊕Bool)
def zg (k:Nat)(rec:Uz)(s5:Int)(aa:List zM)(af:EQ)(ag:AC)(ae:EQ)(aq:List zM)(ay:EQ)(az:AC)(aD:EQ):Option (Unit⊕Bool):=
 bif decide (s5 < (aa.length : Int)) then (bif zD s5 aa.length then (bif zD s5 aq.length then (bif !((decide ((aa.getD s5.toNat (0,0,0)).1=(aq.getD s5.toNat (0,0,0)).1))&&((decide ((aa.getD s5.toNat (0,0,0)).2.1=(aq.getD s5.toNat (0,0,0)).2.1))&&(decide ((aa.getD s5.toNat (0,0,0)).2.2=(aq.getD s5.toNat (0,0,0)).2.2)))) then some (.inr false)
    else rec (zA (s5+1)) aa af ag ae aq ay az aD)
   else none)
  else none)
 else some (.inl ())
def En (k:Nat):Nat→Uz
 |0,_,_,_,_,_,_,_,_,_=>none
 |n+1,s5,aa,af,ag,ae,aq,ay,az,aD=>zg k (En k n) s5 aa af ag ae aq ay az aD
def Em (k:Nat)(aX:List zM)(bB:EQ)(bA:AC)(bo:EQ)(gH:List zM)(pS:EQ)(pT:AC)(pU:EQ):Option Bool:=
 bif !(decide ((aX.length:Int)=(gH.length:Int))) then some false
 else(uC k bB pS).bind fun x0=>
 bif !x0 then some false
 else(uC k bo pU).bind fun x1=>
 bif !x1 then some false
 else(pn k bA pT).bind fun x2=>
 bif !x2 then some false
 else(En k k 0 aX bB bA bo gH pS pT pU).bind fun z=>
 match z with
 |.inl z1=>some true
 |.inr z2=>some z2
abbrev UB:Type:=List zE→List zE→Int→Option (Unit⊕Bool)
def BL (k:Nat)(rec:UB)(s0 s1:List zE)(s5:Int):Option (Unit⊕Bool):=
 bif decide (s5 < (s0.length : Int)) then (bif zD s5 s0.length then (bif zD s5 s1.length then (bif !((decide ((s0.getD s5.toNat (0,0,0,0,0,0,0)).1=(s1.getD s5.toNat (0,0,0,0,0,0,0)).1))&&((decide ((s0.getD s5.toNat (0,0,0,0,0,0,0)).2.1=(s1.getD s5.toNat (0,0,0,0,0,0,0)).2.1))&&((decide ((s0.getD s5.toNat (0,0,0,0,0,0,0)).2.2.1=(s1.getD s5.toNat (0,0,0,0,0,0,0)).2.2.1))&&((decide ((s0.getD s5.toNat (0,0,0,0,0,0,0)).2.2.2.1=(s1.getD s5.toNat (0,0,0,0,0,0,0)).2.2.2.1))&&((decide ((s0.getD s5.toNat (0,0,0,0,0,0,0)).2.2.2.2.1=(s1.getD s5.toNat (0,0,0,0,0,0,0)).2.2.2.2.1))&&((decide ((s0.getD s5.toNat (0,0,0,0,0,0,0)).2.2.2.2.2.1=(s1.getD s5.toNat (0,0,0,0,0,0,0)).2.2.2.2.2.1))&&(decide ((s0.getD s5.toNat (0,0,0,0,0,0,0)).2.2.2.2.2.2=(s1.getD s5.toNat (0,0,0,0,0,0,0)).2.2.2.2.2.2)))))))) then some (.inr false)
    else rec s0 s1 (zA (s5+1)))
   else none)
  else none)
 else some (.inl ())
def FK (k:Nat):Nat→UB
 |0,_,_,_=>none
 |n+1,s0,s1,s5=>BL k (FK k n) s0 s1 s5
def FJ (k:Nat)(a0 a1:List zE):Option Bool:=
 bif !(decide ((a0.length:Int)=(a1.length:Int))) then some false
 else(FK k k a0 a1 0).bind fun z=>
 match z with
 |.inl z1=>some true
 |.inr z2=>some z2
def FL (k:Nat)(a0 a1:wF):Option Bool:=
 bif decide (a0.1 = a1.1) then (bif decide (a0.2.2.2.2.2.2.2.2.2.1 = a1.2.2.2.2.2.2.2.2.2.1) then (bif j5 a0.2.2.2.2.2.2.2.2.2.2 a1.2.2.2.2.2.2.2.2.2.2 then ((Em k a0.2.1 a0.2.2.1 a0.2.2.2.1 a0.2.2.2.2.1 a1.2.1 a1.2.2.1 a1.2.2.2.1 a1.2.2.2.2.1).bind fun x0=>
    bif x0 then ((pn k a0.2.2.2.2.2.1 a1.2.2.2.2.2.1).bind fun x1=>
     bif x1 then ((uC k a0.2.2.2.2.2.2.1 a1.2.2.2.2.2.2.1).bind fun x2=>
      bif x2 then ((FJ k a0.2.2.2.2.2.2.2.1 a1.2.2.2.2.2.2.2.1).bind fun x3=>
       bif x3 then ((pn k a0.2.2.2.2.2.2.2.2.1 a1.2.2.2.2.2.2.2.2.1).bind fun x4=>
        some x4)
       else some false)
      else some false)
     else some false)
    else some false)
   else some false)
  else some false)
 else some false
abbrev UF:Type:=Int×Int×Int×Int×Int×Int×Int×Int×Int×Int×Int×Int×Int×Int
abbrev UD:Type:=AC→Int→Int→Int→Int→Int→Int→Int→Int→Int→Int→Int→Int→Int→Int→Int→Option UF
def yGc (k:Nat)(rec:UD)(s1:AC)(s6 aa af ag ae aS ba bb aq ay az aD aN aO aP:Int):Option UF:=
 bif decide (s6 < (s1.length : Int)) then (bif decide (s6 < 6) then (bif zD s6 s1.length then (bif decide (s6=0) then(rec s1 (zA (s6+1)) aa af ag ae aS ba bb aq (s1.getD s6.toNat 0) az aD aN aO aP)
    else bif decide (s6=1) then(rec s1 (zA (s6+1)) aa af ag ae aS ba bb aq ay (s1.getD s6.toNat 0) aD aN aO aP)
    else bif decide (s6=2) then(rec s1 (zA (s6+1)) aa af ag ae aS ba bb aq ay az (s1.getD s6.toNat 0) aN aO aP)
    else bif decide (s6=3) then(rec s1 (zA (s6+1)) aa af ag ae aS ba bb aq ay az aD (s1.getD s6.toNat 0) aO aP)
    else bif decide (s6=4) then(rec s1 (zA (s6+1)) aa af ag ae aS ba bb aq ay az aD aN (s1.getD s6.toNat 0) aP)
    else bif decide (s6=5) then(rec s1 (zA (s6+1)) aa af ag ae aS ba bb aq ay az aD aN aO (s1.getD s6.toNat 0))
    else none)
   else none)
  else some (aa,af,ag,ae,aS,ba,bb,aq,ay,az,aD,aN,aO,aP))
 else some (aa,af,ag,ae,aS,ba,bb,aq,ay,az,aD,aN,aO,aP)
def KM (k:Nat):Nat→UD
 |0,_,_,_,_,_,_,_,_,_,_,_,_,_,_,_,_=>none
 |n+1,s1,s6,aa,af,ag,ae,aS,ba,bb,aq,ay,az,aD,aN,aO,aP=>yGc k (KM k n) s1 s6 aa af ag ae aS ba bb aq ay az aD aN aO aP
def KN (k:Nat)(a0:Int)(a1:AC):Option zE:=
 (KM k k a1 0 0 0 0 0 0 0 0 a0 0 0 0 0 0 0).bind fun z=>
 some (z.2.2.2.2.2.2.2.1,z.2.2.2.2.2.2.2.2.1,z.2.2.2.2.2.2.2.2.2.1,z.2.2.2.2.2.2.2.2.2.2.1,z.2.2.2.2.2.2.2.2.2.2.2.1,z.2.2.2.2.2.2.2.2.2.2.2.2.1,z.2.2.2.2.2.2.2.2.2.2.2.2.2)
def KO (k:Nat):Option wF:=
 some (0,[],[],[],[],[],[],[],[],0,false)
def wa (k:Nat):Option Bool:=
 some true
def UG (k:Nat)(a1:Int)(a2:AC):Option (List vD):=
 (wa k).bind fun x0=>
 bif x0 then some []
 else(uu k a2).bind fun x1=>
 bif !(decide (x1.2 = 0)) then ((Gd k a1 x1.2).bind fun x2=>
  some x2)
 else none
def yF7 (k:Nat)(a1:Int):Option AC:=
 some []
def KP (k:Nat)(a1:Int):Option (Int×AC×EQ):=
 (yF7 k a1).bind fun x0=>
 (DZ k x0).bind fun x1=>
 bif decide ((x1.1.length:Int)=0) then some (0,[],[])
 else bif zD 0 x1.1.length then (bif decide (((x1.1.getD 0 []).length:Int)<8) then some (0,[],[])
  else bif zD 0 x1.1.length then (bif decide (8 ≤ ((x1.1.getD 0 []).length : Int)) then ((l9 k (List.take 8 (x1.1.getD 0 []))).bind fun x2=>
    bif zD 0 x2.1.length then (bif decide ((x2.1.getD 0 0)<1) then some (0,[],[])
     else bif zD 0 x2.1.length then (bif decide ((x2.1.getD 0 0)>4611686018427387904) then some (0,[],[])
      else bif zD 0 x2.1.length then (bif zD 0 x1.1.length then (bif decide (8 ≤ ((x1.1.getD 0 []).length : Int)) then (bif decide (1≤(x1.1.length:Int)) then some ((x2.1.getD 0 0),(List.drop 8 (x1.1.getD 0 [])),(qQ x1.1 1 (x1.1.length-1)))
         else none)
        else none)
       else none)
      else none)
     else none)
    else none)
   else none)
  else none)
 else none
def qZh (k:Nat):Option (Int×Int×AC×EQ×Bool):=
 (KP k 0).bind fun x0=>
 bif decide (x0.1 > 0) then ((KP k 1).bind fun x1=>
  bif decide (x1.1>x0.1) then some (x1.1,1,x1.2.1,x1.2.2,true)
  else some (x0.1,0,x0.2.1,x0.2.2,true))
 else(KP k 1).bind fun x2=>
 bif decide (x2.1>0) then some (x2.1,1,x2.2.1,x2.2.2,true)
 else some (0,0,[],[],false)
def yK5 (k:Nat)(a1:AC):Option (AC×EQ×Int):=
 some ([],[],11)
def KQ (k:Nat)(a1:AC):Option Int:=
 some 11
abbrev UJ:Type:=Int×Bool×wN×wF
abbrev UH:Type:=Int→Bool→Int→Int→wN→wF→EQ→Option UJ
def yAy (k:Nat)(rec:UH)(s2:Int)(bU:Bool)(wk mF:Int)(b0:wN)(b1:wF)(r2:EQ):Option UJ:=
 bif decide (mF < wk) then (bif zD mF r2.length then ((pG k (r2.getD mF.toNat [])).bind fun x7=>
   bif decide (x7.2 = 0) then ((fk k b0 b1 x7.1).bind fun x8=>
    rec s2 bU wk (zA (mF+1)) b0 x8.1 r2)
   else rec s2 bU wk (zA (mF+1)) b0 b1 r2)
  else none)
 else some (s2,bU,b0,b1)
def Ge (k:Nat):Nat→UH:=vT (fun _ _ _ _ _ _ _=>none) (yAy k)
def Gf (k:Nat)(a0:wN)(a2:Int):Option Int:=
 (lD k a0).bind fun x0=>
 bif !x0 then some 1
 else bif decide (a2<1) then some 1
 else bif decide (a2>1000) then some 1
 else(qZh k).bind fun x1=>
 (iL k a0).bind fun x2=>
 (fh k x2).bind fun x3=>
 (yK5 k x3).bind fun x4=>
 bif !(decide (x4.2.2=0)) then some x4.2.2
 else(vu k x4.1).bind fun x5=>
 bif !x5.2 then ((iL k a0).bind fun x6=>
  (Ge k k a2 x1.2.2.2.2 (x4.2.1.length:Int) 0 a0 x6 x4.2.1).bind fun z=>
  bif z.2.1 then ((fh k z.2.2.2).bind fun x9=>
   (KQ k x9).bind fun cm=>
   bif !(decide (cm=0)) then some cm
   else none)
  else none)
 else(BI k a0 x5.1).bind fun fx=>
 bif !fx then ((iL k a0).bind fun kH=>
  (Ge k k a2 x1.2.2.2.2 (x4.2.1.length:Int) 0 a0 kH x4.2.1).bind fun z1=>
  bif z1.2.1 then ((fh k z1.2.2.2).bind fun sY=>
   (KQ k sY).bind fun qb=>
   bif !(decide (qb=0)) then some qb
   else none)
  else none)
 else(Ge k k a2 x1.2.2.2.2 (x4.2.1.length:Int) 0 a0 x5.1 x4.2.1).bind fun z2=>
 bif z2.2.1 then ((fh k z2.2.2.2).bind fun mG=>
  (KQ k mG).bind fun qc=>
  bif !(decide (qc=0)) then some qc
  else none)
 else none
def vy (k:Nat):Option Bool:=
 (BW k 20000).bind fun x0=>
 match x0 with
 |.inl x1=>(kD k 0).bind fun x2=>
  (jG k x2 x1 100).bind fun x3=>
  match x3 with
  |.inl x4=>(KN k 10 [0,5]).bind fun x5=>
   (vh k x5).bind fun x6=>
   (BV k x4.2.2.1 x4.2.2.2 x4.2.1 (-1) x6).bind fun x7=>
   (kD k 0).bind fun x8=>
   (jG k x8 x7.2.2.2 100).bind fun x9=>
   match x9 with
   |.inl cm=>(sI k cm.2.2.1 cm.2.2.2 cm.2.1).bind fun fx=>
    (kD k 0).bind fun kH=>
    (jG k kH fx.2.2.2 0).bind fun sY=>
    match sY with
    | .inl qb => bif decide (x4.1 = 0) then (bif decide ((x7.1.length : Int) = 0) then (bif decide (cm.1 = 0) then (bif decide ((fx.1.2.1.length : Int) = 3) then (bif zD 0 fx.1.2.1.length then (bif decide ((fx.1.2.1.getD 0 (0, 0, 0)).1 = 5) then ((mz k x7.2.1 x7.2.2.1 qb.2.1).bind fun mG=>
           bif !mG.1 then some (decide (qb.1=1))
           else some false)
          else some false)
         else none)
        else some false)
       else some false)
      else some false)
     else some false
    | .inr qc => bif decide (x4.1 = 0) then (bif decide ((x7.1.length : Int) = 0) then (bif decide (cm.1 = 0) then (bif decide ((fx.1.2.1.length : Int) = 3) then (bif zD 0 fx.1.2.1.length then (bif decide ((fx.1.2.1.getD 0 (0, 0, 0)).1 = 5) then ((mz k x7.2.1 x7.2.2.1 qc.2).bind fun qd=>
           bif !qd.1 then some (decide (qc.1=1))
           else some false)
          else some false)
         else none)
        else some false)
       else some false)
      else some false)
     else some false
   |.inr iM=>(KO k).bind fun mH=>
    (kD k 0).bind fun K3=>
    (jG k K3 iM.2 0).bind fun Gk=>
    match Gk with
    | .inl Gl => bif decide (x4.1 = 0) then (bif decide ((x7.1.length : Int) = 0) then (bif decide (iM.1 = 0) then (bif decide ((mH.2.1.length : Int) = 3) then (bif zD 0 mH.2.1.length then (bif decide ((mH.2.1.getD 0 (0, 0, 0)).1 = 5) then ((mz k x7.2.1 x7.2.2.1 Gl.2.1).bind fun x23=>
           bif !x23.1 then some (decide (Gl.1=1))
           else some false)
          else some false)
         else none)
        else some false)
       else some false)
      else some false)
     else some false
    | .inr K4 => bif decide (x4.1 = 0) then (bif decide ((x7.1.length : Int) = 0) then (bif decide (iM.1 = 0) then (bif decide ((mH.2.1.length : Int) = 3) then (bif zD 0 mH.2.1.length then (bif decide ((mH.2.1.getD 0 (0, 0, 0)).1 = 5) then ((mz k x7.2.1 x7.2.2.1 K4.2).bind fun VE=>
           bif !VE.1 then some (decide (K4.1=1))
           else some false)
          else some false)
         else none)
        else some false)
       else some false)
      else some false)
     else some false
  |.inr Gm=>(KN k 10 [0,5]).bind fun x27=>
   (vh k x27).bind fun x28=>
   (UG k (-1) x28).bind fun K5=>
   (kD k 0).bind fun x30=>
   (jG k x30 Gm.2 100).bind fun x31=>
   match x31 with
   |.inl Gn=>(sI k Gn.2.2.1 Gn.2.2.2 Gn.2.1).bind fun wm=>
    (kD k 0).bind fun x34=>
    (jG k x34 wm.2.2.2 0).bind fun x35=>
    match x35 with
    | .inl x36 => bif decide (Gm.1 = 0) then (bif decide ((K5.length : Int) = 0) then (bif decide (Gn.1 = 0) then (bif decide ((wm.1.2.1.length : Int) = 3) then (bif zD 0 wm.1.2.1.length then (bif decide ((wm.1.2.1.getD 0 (0, 0, 0)).1 = 5) then ((wa k).bind fun x37=>
           bif !x37 then some (decide (x36.1=1))
           else some false)
          else some false)
         else none)
        else some false)
       else some false)
      else some false)
     else some false
    | .inr x38 => bif decide (Gm.1 = 0) then (bif decide ((K5.length : Int) = 0) then (bif decide (Gn.1 = 0) then (bif decide ((wm.1.2.1.length : Int) = 3) then (bif zD 0 wm.1.2.1.length then (bif decide ((wm.1.2.1.getD 0 (0, 0, 0)).1 = 5) then ((wa k).bind fun x39=>
           bif !x39 then some (decide (x38.1=1))
           else some false)
          else some false)
         else none)
        else some false)
       else some false)
      else some false)
     else some false
   |.inr VF=>(KO k).bind fun Ch=>
    (kD k 0).bind fun x42=>
    (jG k x42 VF.2 0).bind fun x43=>
    match x43 with
    | .inl x44 => bif decide (Gm.1 = 0) then (bif decide ((K5.length : Int) = 0) then (bif decide (VF.1 = 0) then (bif decide ((Ch.2.1.length : Int) = 3) then (bif zD 0 Ch.2.1.length then (bif decide ((Ch.2.1.getD 0 (0, 0, 0)).1 = 5) then ((wa k).bind fun x45=>
           bif !x45 then some (decide (x44.1=1))
           else some false)
          else some false)
         else none)
        else some false)
       else some false)
      else some false)
     else some false
    | .inr x46 => bif decide (Gm.1 = 0) then (bif decide ((K5.length : Int) = 0) then (bif decide (VF.1 = 0) then (bif decide ((Ch.2.1.length : Int) = 3) then (bif zD 0 Ch.2.1.length then (bif decide ((Ch.2.1.getD 0 (0, 0, 0)).1 = 5) then ((wa k).bind fun x47=>
           bif !x47 then some (decide (x46.1=1))
           else some false)
          else some false)
         else none)
        else some false)
       else some false)
      else some false)
     else some false
 |.inr x48=>(kD k 0).bind fun x49=>
  (Gf k x49 100).bind fun x50=>
  (KN k 10 [0,5]).bind fun x51=>
  (vh k x51).bind fun x52=>
  (UG k (-1) x52).bind fun x53=>
  (kD k 0).bind fun x54=>
  (Gf k x54 100).bind fun x55=>
  (KO k).bind fun VG=>
  (kD k 0).bind fun x57=>
  (Gf k x57 0).bind fun x58=>
  bif decide (x50 = 0) then (bif decide ((x53.length : Int) = 0) then (bif decide (x55 = 0) then (bif decide ((VG.2.1.length : Int) = 3) then (bif zD 0 VG.2.1.length then (bif decide ((VG.2.1.getD 0 (0, 0, 0)).1 = 5) then ((wa k).bind fun x59=>
        bif !x59 then some (decide (x58=1))
        else some false)
       else some false)
      else none)
     else some false)
    else some false)
   else some false)
  else some false
abbrev UM:Type:=((Int×Int×Int×Int)×(List wQ)×Cb×AC×AC×lJ×dK)⊕Bool
abbrev UK:Type:=List vD→Int→(Int×Int×Int×Int)→List wQ→Cb→AC→AC→lJ→dK→Option UM
def BY (k:Nat)(rec:UK)(s1:List vD)(s9:Int)(b0:(Int×Int×Int×Int))(r1:List wQ)(b2:Cb)(r3 r4:AC)(b5:lJ)(b6:dK):Option UM:=
 bif decide (s9 < (s1.length : Int)) then ((sI k b5 b6 (b2.1,r3,b2.2.1,r4,b2.2.2)).bind fun x5=>
  bif zD s9 s1.length then (bif zD s9 s1.length then ((vh k (s1.getD s9.toNat (0,0,0,0,0,0,0,0)).2).bind fun x6=>
    (BV k x5.2.1 x5.2.2.1 x5.2.2.2 (s1.getD s9.toNat (0,0,0,0,0,0,0,0)).1 x6).bind fun x7=>
    bif decide ((x7.1.length : Int) = 1) then (bif zD 0 x7.1.length then (bif decide ((x7.1.getD 0 (0, 0, 0, 0, 0, 0, 0, 0)).2.1 = 16) then ((sI k x7.2.1 x7.2.2.1 x7.2.2.2).bind fun x8=>
       (FL k x8.1 x5.1).bind fun x9=>
       bif !x9 then some (.inr false)
       else rec s1 (zA (s9+1)) b0 r1 (x8.2.2.2.1,x8.2.2.2.2.2.1,x8.2.2.2.2.2.2.2) x8.2.2.2.2.1 x8.2.2.2.2.2.2.1 x8.2.1 x8.2.2.1)
      else rec s1 (zA (s9+1)) b0 r1 (x7.2.2.2.1,x7.2.2.2.2.2.1,x7.2.2.2.2.2.2.2) x7.2.2.2.2.1 x7.2.2.2.2.2.2.1 x7.2.1 x7.2.2.1)
     else none)
    else rec s1 (zA (s9+1)) b0 r1 (x7.2.2.2.1,x7.2.2.2.2.2.1,x7.2.2.2.2.2.2.2) x7.2.2.2.2.1 x7.2.2.2.2.2.2.1 x7.2.1 x7.2.2.1)
   else none)
  else none)
 else some (.inl (b0,r1,b2,r3,r4,b5,b6))
def BX (k:Nat):Nat→UK:=vT (fun _ _ _ _ _ _ _ _ _=>none) (BY k)
def JV (k:Nat)(a0:Int)(a1:List vD):Option Bool:=
 bif decide (a0<0) then some true
 else bif decide (a0>3000) then some true
 else bif decide ((a1.length:Int)>60) then some true
 else(kD k 2).bind fun x0=>
 (BW k a0).bind fun x1=>
 match x1 with
 |.inl x2=>(jG k x0 x2 1000).bind fun x3=>
  match x3 with
  |.inl x4=>(BX k k a1 0 (x0.1,x0.2.2) x0.2.1 (x4.2.1.1,x4.2.1.2.2.1,x4.2.1.2.2.2.2) x4.2.1.2.1 x4.2.1.2.2.2.1 x4.2.2.1 x4.2.2.2).bind fun z=>
   match z with
   |.inl z1=>(sI k z1.2.2.2.2.2.1 z1.2.2.2.2.2.2 (z1.2.2.1.1,z1.2.2.2.1,z1.2.2.1.2.1,z1.2.2.2.2.1,z1.2.2.1.2.2)).bind fun cm=>
    (jG k (z1.1.1,z1.2.1,z1.1.2) cm.2.2.2 1000).bind fun fx=>
    match fx with
    |.inl kH=>(mz k cm.2.1 cm.2.2.1 kH.2.1).bind fun sY=>
     bif !sY.1 then (bif decide (kH.1 = 10) then ((vy k).bind fun qb=>
       some qb)
      else bif decide (kH.1 = 0) then ((sI k kH.2.2.1 kH.2.2.2 sY.2.2.2).bind fun mG=>
       (FL k mG.1 cm.1).bind fun qc=>
       bif qc then ((vy k).bind fun qd=>
        some qd)
       else some false)
      else some false)
     else some false
    |.inr iM=>(mz k cm.2.1 cm.2.2.1 iM.2).bind fun mH=>
     bif !mH.1 then (bif decide (iM.1 = 10) then ((vy k).bind fun K3=>
       some K3)
      else bif decide (iM.1=0) then some false
      else some false)
     else some false
   |.inr z2=>some z2
  | .inr Gk => bif decide (Gk.1 = 10) then ((vy k).bind fun Gl=>
    some Gl)
   else some false
 |.inr x23=>(Gf k x0 1000).bind fun K4=>
  bif decide (K4 = 10) then ((vy k).bind fun VE=>
   some VE)
  else some false
def ZN (k:Nat)(aX:List (Int×Int×Int))(bB:EQ)(bA:AC)(bo:EQ)(US mD pP wc sX UT UU:Int):Option Bool:=
 bif decide (mD ≥ 0) then (bif decide (mD < (aX.length : Int)) then (bif decide (pP ≥ 0) then (bif decide (pP < (aX.length : Int)) then (bif !(decide (mD = pP)) then (bif decide (wc ≥ 1) then (bif decide (wc ≤ 1099511627776) then (bif decide (sX≥1) then some (decide (sX≤3))
        else some false)
       else some false)
      else some false)
     else some false)
    else some false)
   else some false)
  else some false)
 else some false
abbrev yEw:Type:=(List (Int×Int×Int×Int×Int×Int×Int))⊕Bool
abbrev qPs:Type:=List (Int×Int×Int×Int×Int×Int×Int)→Int→List (Int×Int×Int)→EQ→AC→EQ→Option yEw
def Ep (k:Nat)(rec:qPs)(s1:List (Int×Int×Int×Int×Int×Int×Int))(s5:Int)(aa:List (Int×Int×Int))(af:EQ)(ag:AC)(ae:EQ):Option yEw:=
 bif decide (s5 < (s1.length : Int)) then (bif zD s5 s1.length then ((ZN k aa af ag ae (s1.getD s5.toNat (0,0,0,0,0,0,0)).1 (s1.getD s5.toNat (0,0,0,0,0,0,0)).2.1 (s1.getD s5.toNat (0,0,0,0,0,0,0)).2.2.1 (s1.getD s5.toNat (0,0,0,0,0,0,0)).2.2.2.1 (s1.getD s5.toNat (0,0,0,0,0,0,0)).2.2.2.2.1 (s1.getD s5.toNat (0,0,0,0,0,0,0)).2.2.2.2.2.1 (s1.getD s5.toNat (0,0,0,0,0,0,0)).2.2.2.2.2.2).bind fun x0=>
   bif !x0 then some (.inr false)
   else rec s1 (zA (s5+1)) aa af ag ae)
  else none)
 else some (.inl s1)
def Oi (k:Nat):Nat→qPs
 |0,_,_,_,_,_,_=>none
 |n+1,s1,s5,aa,af,ag,ae=>Ep k (Oi k n) s1 s5 aa af ag ae
def Oh (k:Nat)(aX:List (Int×Int×Int))(bB:EQ)(bA:AC)(bo:EQ)(a1:List (Int×Int×Int×Int×Int×Int×Int)):Option Bool:=
 (Oi k k a1 0 aX bB bA bo).bind fun z=>
 match z with
 |.inl z1=>some (decide ((z1.length:Int)≤64))
 |.inr z2=>some z2
abbrev yF2:Type:=EQ→Int→EQ→Option EQ
def Ee (k:Nat)(rec:yF2)(s0:EQ)(s4:Int)(m0:EQ):Option EQ:=
 bif decide (s4 < (s0.length : Int)) then (bif zD s4 s0.length then (bif zY (0 + (s0.getD s4.toNat []).length) 8 then (bif zY (m0.length+1) 24 then(rec s0 (zA (s4+1)) (m0++[(s0.getD s4.toNat [])]))
    else none)
   else none)
  else none)
 else some m0
def N9 (k:Nat):Nat→yF2
 |0,_,_,_=>none
 |n+1,s0,s4,m0=>Ee k (N9 k n) s0 s4 m0
def Ii (k:Nat)(a0:EQ):Option EQ:=
 (N9 k k a0 0 []).bind fun z=>
 some z
def Ob (k:Nat)(aX:List (Int×Int×Int))(bB:EQ)(bA:AC)(bo:EQ):Option ((List (Int×Int×Int))×EQ×AC×EQ):=
 bif zY (0 + aX.length) 24 then ((Ii k bB).bind fun x0=>
  bif zY (0 + bA.length) 8 then ((Ii k bo).bind fun x1=>
   some (aX,x0,bA,x1))
  else none)
 else none
abbrev yKe:Type:=List (Int×Int×Int×Int×Int×Int×Int)→Int→Int→Int→Int→Option (Int×Int)
def Es (k:Nat)(rec:yKe)(s0:List (Int×Int×Int×Int×Int×Int×Int))(s1 s6 s7 s8:Int):Option (Int×Int):=
 bif decide (s8 < (s0.length : Int)) then (bif zD s8 s0.length then (bif !(decide ((s0.getD s8.toNat (0,0,0,0,0,0,0)).2.1=s1)) then(rec s0 s1 s6 s7 (zA (s8+1)))
   else bif zD s8 s0.length then (bif decide ((s0.getD s8.toNat (0, 0, 0, 0, 0, 0, 0)).2.2.2.2.1 = 3) then (bif zD s8 s0.length then(rec s0 s1 (zA (s6+(s0.getD s8.toNat (0,0,0,0,0,0,0)).2.2.2.1)) s7 (zA (s8+1)))
     else none)
    else bif zD s8 s0.length then(rec s0 s1 s6 (zA (s7+(s0.getD s8.toNat (0,0,0,0,0,0,0)).2.2.2.1)) (zA (s8+1)))
    else none)
   else none)
  else none)
 else some (s6,s7)
def Ou (k:Nat):Nat→yKe
 |0,_,_,_,_,_=>none
 |n+1,s0,s1,s6,s7,s8=>Es k (Ou k n) s0 s1 s6 s7 s8
def Ot (k:Nat)(a0:List (Int×Int×Int×Int×Int×Int×Int))(a1:Int):Option (Int×Int):=
 (Ou k k a0 a1 0 0 0).bind fun z=>
 some (z.1,z.2)
def Ov (k:Nat)(a0:List (Int×Int×Int×Int×Int×Int×Int))(a1:Int):Option Int:=
 (Ot k a0 a1).bind fun x0=>
 some x0.2
def Ow (k:Nat)(pQ pR lK a1:Int):Option Int:=
 bif decide (a1≥lK) then some 0
 else some (zA (lK-a1))
abbrev qT8:Type:=List (Int×Int×Int×Int×Int×Int×Int)→Int→Int→Int→Int→Option Int
def Er (k:Nat)(rec:qT8)(s0:List (Int×Int×Int×Int×Int×Int×Int))(s1 s2 s7 s8:Int):Option Int:=
 bif decide (s8 < (s0.length : Int)) then (bif zD s8 s0.length then (bif decide ((s0.getD s8.toNat (0, 0, 0, 0, 0, 0, 0)).2.1 = s1) then (bif zD s8 s0.length then (bif decide ((s0.getD s8.toNat (0, 0, 0, 0, 0, 0, 0)).2.2.1 = s2) then (bif zD s8 s0.length then(rec s0 s1 s2 (zA (s7+(s0.getD s8.toNat (0,0,0,0,0,0,0)).2.2.2.1)) (zA (s8+1)))
      else none)
     else rec s0 s1 s2 s7 (zA (s8+1)))
    else none)
   else rec s0 s1 s2 s7 (zA (s8+1)))
  else none)
 else some s7
def Oo (k:Nat):Nat→qT8
 |0,_,_,_,_,_=>none
 |n+1,s0,s1,s2,s7,s8=>Er k (Oo k n) s0 s1 s2 s7 s8
def Iu (k:Nat)(a0:List (Int×Int×Int×Int×Int×Int×Int))(a1 a2:Int):Option Int:=
 (Oo k k a0 a1 a2 0 0).bind fun z=>
 some z
def Oq (k:Nat)(a0:List (Int×Int×Int×Int×Int×Int×Int))(a1 a2:Int):Option Int:=
 (Iu k a0 a1 a2).bind fun x0=>
 (Iu k a0 a2 a1).bind fun x1=>
 some (zA (x0-x1))
abbrev qQx:Type:=EQ→Int→Int→Option (Unit⊕Bool)
def D4 (k:Nat)(rec:qQx)(s0:EQ)(s1 s5:Int):Option (Unit⊕Bool):=
 bif decide (s5 < s1) then (bif zD s5 s0.length then (bif !(decide (((s0.getD s5.toNat []).length:Int)=s1)) then some (.inr false)
   else rec s0 s1 (zA (s5+1)))
  else none)
 else some (.inl ())
def N0 (k:Nat):Nat→qQx
 |0,_,_,_=>none
 |n+1,s0,s1,s5=>D4 k (N0 k n) s0 s1 s5
def H6 (k:Nat)(a0:EQ)(a1:Int):Option Bool:=
 bif !(decide ((a0.length:Int)=a1)) then some false
 else(N0 k k a0 a1 0).bind fun z=>
 match z with
 |.inl z1=>some true
 |.inr z2=>some z2
def NX (k:Nat)(pQ pR lK:Int):Option Bool:=
 bif decide (pQ > (-4611686018427387904)) then (bif decide (pQ < 4611686018427387904) then (bif decide (pR ≥ 0) then (bif decide (pR ≤ 2305843009213693952) then (bif decide (lK≥0) then some (decide (lK≤2305843009213693952))
     else some false)
    else some false)
   else some false)
  else some false)
 else some false
def H4 (k:Nat)(a0:Int):Option Bool:=
 bif decide (a0≥(-1)) then some (decide (a0≤2305843009213693952))
 else some false
abbrev yG3:Type:=(Int×Int×(List (Int×Int×Int))×EQ×AC×EQ)⊕Bool
abbrev yFt:Type:=Int→Int→Int→List (Int×Int×Int)→EQ→AC→EQ→Option yG3
def D5 (k:Nat)(rec:yFt)(s3 s4 s5:Int)(aa:List (Int×Int×Int))(af:EQ)(ag:AC)(ae:EQ):Option yG3:=
 bif decide (s5 < s3) then (bif zD s4 af.length then (bif zD s5 (af.getD s4.toNat []).length then ((H4 k ((af.getD s4.toNat []).getD s5.toNat 0)).bind fun x4=>
    bif !x4 then some (.inr false)
    else bif zD s4 ae.length then (bif zD s5 (ae.getD s4.toNat []).length then (bif decide (((ae.getD s4.toNat []).getD s5.toNat 0)≤(-72057594037927936)) then some (.inr false)
      else bif zD s4 ae.length then (bif zD s5 (ae.getD s4.toNat []).length then (bif decide (((ae.getD s4.toNat []).getD s5.toNat 0)≥72057594037927936) then some (.inr false)
        else bif zD s4 ae.length then (bif zD s5 (ae.getD s4.toNat []).length then (bif zD s5 ae.length then (bif zD s4 (ae.getD s5.toNat []).length then (bif !(decide (((ae.getD s4.toNat []).getD s5.toNat 0)=(zA (0-((ae.getD s5.toNat []).getD s4.toNat 0))))) then some (.inr false)
            else rec s3 s4 (zA (s5+1)) aa af ag ae)
           else none)
          else none)
         else none)
        else none)
       else none)
      else none)
     else none)
    else none)
   else none)
  else none)
 else some (.inl (s3,s4,aa,af,ag,ae))
def H7 (k:Nat):Nat→yFt
 |0,_,_,_,_,_,_,_=>none
 |n+1,s3,s4,s5,aa,af,ag,ae=>D5 k (H7 k n) s3 s4 s5 aa af ag ae
abbrev qTi:Type:=Int→Int→List (Int×Int×Int)→EQ→AC→EQ→Option (Unit⊕Bool)
def D6 (k:Nat)(rec:qTi)(s3 s4:Int)(aa:List (Int×Int×Int))(af:EQ)(ag:AC)(ae:EQ):Option (Unit⊕Bool):=
 bif decide (s4 < s3) then (bif zD s4 aa.length then ((NX k (aa.getD s4.toNat (0,0,0)).1 (aa.getD s4.toNat (0,0,0)).2.1 (aa.getD s4.toNat (0,0,0)).2.2).bind fun x2=>
   bif !x2 then some (.inr false)
   else bif zD s4 ag.length then ((H4 k (ag.getD s4.toNat 0)).bind fun x3=>
    bif !x3 then some (.inr false)
    else(H7 k k s3 s4 0 aa af ag ae).bind fun z=>
    match z with
    |.inl z1=>rec z1.1 (zA (z1.2.1+1)) z1.2.2.1 z1.2.2.2.1 z1.2.2.2.2.1 z1.2.2.2.2.2
    |.inr z2=>some (.inr z2))
   else none)
  else none)
 else some (.inl ())
def H8 (k:Nat):Nat→qTi
 |0,_,_,_,_,_,_=>none
 |n+1,s3,s4,aa,af,ag,ae=>D6 k (H8 k n) s3 s4 aa af ag ae
def N2 (k:Nat)(aX:List (Int×Int×Int))(bB:EQ)(bA:AC)(bo:EQ):Option Bool:=
 bif decide ((aX.length:Int)<1) then some false
 else bif decide ((aX.length:Int)>6) then some false
 else(H6 k bB (aX.length:Int)).bind fun x0=>
 bif !x0 then some false
 else(H6 k bo (aX.length:Int)).bind fun x1=>
 bif !x1 then some false
 else bif !(decide ((bA.length:Int)=(aX.length:Int))) then some false
 else(H8 k k (aX.length:Int) 0 aX bB bA bo).bind fun z3=>
 match z3 with
 |.inl z4=>some true
 |.inr z5=>some z5
abbrev yGp:Type:=(List (Int×Int×Int×Int×Int×Int×Int))×Int×(List (Int×Int×Int))×EQ×AC×EQ×(List (Int×Int×Int))×EQ×AC×EQ
abbrev yEc:Type:=List (Int×Int×Int×Int×Int×Int×Int)→Int→Int→List (Int×Int×Int)→EQ→AC→EQ→List (Int×Int×Int)→EQ→AC→EQ→Option yGp
def Et (k:Nat)(rec:yEc)(s1:List (Int×Int×Int×Int×Int×Int×Int))(s7 s8:Int)(aa:List (Int×Int×Int))(af:EQ)(ag:AC)(ae:EQ)(r3:List (Int×Int×Int))(m4:EQ)(r5:AC)(m6:EQ):Option yGp:=
 bif decide (s8 < (r3.length : Int)) then ((Oq k s1 s7 s8).bind fun x4=>
  bif zD s7 r3.length then (bif zD s7 r3.length then (let y1:List (Int×Int×Int):=(r3.set s7.toNat ((zA ((r3.getD s7.toNat (0,0,0)).1-x4)),(r3.getD s7.toNat (0,0,0)).2))
    bif zD s7 m6.length then (bif zD s7 m6.length then (bif zD s8 (m6.getD s7.toNat []).length then (bif zD s8 (m6.getD s7.toNat []).length then (let y2:EQ:=(m6.set s7.toNat ((m6.getD s7.toNat []).set s8.toNat (zA (((m6.getD s7.toNat []).getD s8.toNat 0)+x4))))
        rec s1 s7 (zA (s8+1)) aa af ag ae y1 m4 r5 y2)
       else none)
      else none)
     else none)
    else none)
   else none)
  else none)
 else some (s1,s7,aa,af,ag,ae,r3,m4,r5,m6)
def Iw (k:Nat):Nat→yEc
 |0,_,_,_,_,_,_,_,_,_,_,_=>none
 |n+1,s1,s7,s8,aa,af,ag,ae,r3,m4,r5,m6=>Et k (Iw k n) s1 s7 s8 aa af ag ae r3 m4 r5 m6
abbrev yH2:Type:=(List (Int×Int×Int))×EQ×AC×EQ×(List (Int×Int×Int))×EQ×AC×EQ
abbrev yE5:Type:=List (Int×Int×Int×Int×Int×Int×Int)→Int→List (Int×Int×Int)→EQ→AC→EQ→List (Int×Int×Int)→EQ→AC→EQ→Option yH2
def Ew (k:Nat)(rec:yE5)(s1:List (Int×Int×Int×Int×Int×Int×Int))(s7:Int)(aa:List (Int×Int×Int))(af:EQ)(ag:AC)(ae:EQ)(r3:List (Int×Int×Int))(m4:EQ)(r5:AC)(m6:EQ):Option yH2:=
 bif decide (s7 < (r3.length : Int)) then (bif zD s7 r3.length then ((Ov k s1 s7).bind fun x2=>
   (Ow k (r3.getD s7.toNat (0,0,0)).1 (r3.getD s7.toNat (0,0,0)).2.1 (r3.getD s7.toNat (0,0,0)).2.2 x2).bind fun x3=>
   bif zD s7 r3.length then (let y0:List (Int×Int×Int):=(r3.set s7.toNat ((r3.getD s7.toNat (0,0,0)).1,(r3.getD s7.toNat (0,0,0)).2.1,x3))
    (Iw k k s1 s7 0 aa af ag ae y0 m4 r5 m6).bind fun z=>
    rec z.1 (zA (z.2.1+1)) z.2.2.1 z.2.2.2.1 z.2.2.2.2.1 z.2.2.2.2.2.1 z.2.2.2.2.2.2.1 z.2.2.2.2.2.2.2.1 z.2.2.2.2.2.2.2.2.1 z.2.2.2.2.2.2.2.2.2)
   else none)
  else none)
 else some (aa,af,ag,ae,r3,m4,r5,m6)
def Iy (k:Nat):Nat→yE5
 |0,_,_,_,_,_,_,_,_,_,_=>none
 |n+1,s1,s7,aa,af,ag,ae,r3,m4,r5,m6=>Ew k (Iy k n) s1 s7 aa af ag ae r3 m4 r5 m6
def Oy (k:Nat)(aX:List (Int×Int×Int))(bB:EQ)(bA:AC)(bo:EQ)(a1:List (Int×Int×Int×Int×Int×Int×Int)):Option ((List (Int×Int×Int))×EQ×AC×EQ×Int):=
 (Oh k aX bB bA bo a1).bind fun x0=>
 bif !x0 then some (aX,bB,bA,bo,1)
 else(Ob k aX bB bA bo).bind fun x1=>
 (Iy k k a1 0 aX bB bA bo x1.1 x1.2.1 x1.2.2.1 x1.2.2.2).bind fun z1=>
 (N2 k z1.2.2.2.2.1 z1.2.2.2.2.2.1 z1.2.2.2.2.2.2.1 z1.2.2.2.2.2.2.2).bind fun x5=>
 bif !x5 then some (jV z1 8)
 else some (yEl z1 0)
end Go.Ab.Gi
