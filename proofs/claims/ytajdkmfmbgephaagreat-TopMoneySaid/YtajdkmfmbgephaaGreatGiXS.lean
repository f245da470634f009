/- part 5 -/
import Derived.Test.YtajdkmfmbgephaaGreatGiAbD
set_option linter.unusedVariables false
set_option maxRecDepth 100000
abbrev Go.Ab.Ty.i:Go.Ab.Ty:=.int .i64
abbrev Go.Ab.CS.i:Go.Ab.CS:=.int .i64
abbrev Go.Ab.PC.i:Go.Ab.PC:=.int .i64
abbrev Go.Ab.RC.i:Go.Ab.RC:=.int .i64
namespace Go.Ab.Gi
abbrev AC:=List Int
abbrev EQ:=List AC
abbrev ij:Type:=AC×Bool
abbrev jF:Go.Ab.Ty:=.pair .i .i
abbrev vC:Type:=Int×AC×Int×AC×Int×Int×Int×Bool×Bool×Int
abbrev ik:Type:=Int×Int×AC×Int×Int
abbrev lQ:Type:=Int×Int×Bool×Bool
abbrev dP:Type:=Int×Int×Bool
abbrev dQ:Type:=Int×Int×Int×Bool
abbrev tm:Type:=Int×Int×Int×Int×Int×Bool×Bool×Int
abbrev qB:Type:=Int×Int×Int×Int×Int×Int×Int×Int
abbrev zF:Type:=Int×Int×Int×Int×Int×Int×Int
abbrev zN:Type:=Int×Int×Int
abbrev wL:Type:=Int×Int
abbrev GG:Type:=(List zN)×EQ×AC×EQ×(List zF)×(List zF)
abbrev Lk:Type:=(List zN)×EQ×AC×EQ
abbrev qZ:Go.Ab.Ty:=.pair .i jF
abbrev vAt:Go.Ab.Ty:=.pair (.sl (.int .u8)) jF
abbrev qQ9:Type:=Bool×Int×Int×Int×Int×Int×Int×Int×Int×Int×Int×Int×Int×Int×Int×(List zN)×EQ×AC×EQ
abbrev VD:Type:=Int×(List zN)×EQ×AC×EQ×AC×EQ×(List zF)×AC×Int×Bool×(List qB)
abbrev pV:Type:=Int×(List zN)×EQ×AC×EQ×AC×EQ×(List zF)×AC×Int×Bool×Bool
abbrev wK:Type:=Int×(List zN)×EQ×AC×EQ×AC×EQ×(List zF)×AC×Int×Bool
abbrev wT:Type:=Int×(List wL)×Int×Int×Int×Int×(List zN)×EQ×AC×EQ×AC×EQ×(List zF)×AC×Int×Bool×Int×(List qB)
abbrev lR:Type:=Int×(List wL)×Int×Int×Int×Int×(List zN)×EQ×AC×EQ×AC×EQ×(List zF)×AC×Int×Bool×Int×Bool
abbrev il:Type:=Int×(List wL)×Int×Int×Int×Int×(List zN)×EQ×AC×EQ×AC×EQ×(List zF)×AC×Int×Bool×Int
abbrev vZ:Type:=Int×(List wL)×Int×Int×Int
abbrev vG7:Go.Ab.Ty:=.pair .i qZ
abbrev vDh:Go.Ab.Ty:=.pair .i vAt
abbrev yRh:Go.Ab.Ty:=.pair .i vG7
abbrev nY:Go.Ab.Ty:=.pair .i vDh
abbrev yYe:Go.Ab.Ty:=.pair .i yRh
abbrev zJ:Go.Ab.Ty:=.pair .i yYe
abbrev qQ:Go.Ab.Ty:=.pair .i zJ
abbrev S2:List Go.Ab.CS:=[.dat false .i,.dat false .i,.dat false (.sl .i)]
abbrev iX:List Go.Ab.CS:=[.dat false qZ,.dat false (.sl .i),.dat false .i,.dat false (.sl .i)]
abbrev Cn:List Go.Ab.CS:=[.dat true (.int .u8),.bool]
abbrev fa:List Go.Ab.CS:=[.dat true qZ,.dat true (.sl .i),.dat true .i,.dat true (.sl .i)]
abbrev K7:List Go.Ab.CS:=[.i,.dat false qZ,.dat false (.sl .i),.dat false .i,.dat false (.sl .i),.dat false .i,.dat false (.sl .i),.dat false zJ,.dat false .i,.i,.bool]
abbrev sS:List Go.Ab.CS:=[.i,.dat false jF,.i,.i,.i]
abbrev kj:List Go.Ab.CS:=[.i,.dat true qZ,.dat true (.sl .i),.dat true .i,.dat true (.sl .i),.dat true .i,.dat true (.sl .i),.dat true zJ,.dat true .i,.i,.bool]
abbrev Cz:List Go.Ab.CS:=[.i,.dat true jF,.i,.i,.i]
abbrev Sv:List Go.Ab.CS:=[.i,.dat true jF,.i,.i,.i,.i,.dat true qZ,.dat true (.sl .i),.dat true .i,.dat true (.sl .i),.dat true .i,.dat true (.sl .i),.dat true zJ,.dat true .i,.i,.bool,.i,.lit (.osl 1001001 none)]
abbrev Ur:List Go.Ab.CS:=[.i,.dat true jF,.i,.i,.i,.i,.dat true qZ,.dat true (.sl .i),.dat true .i,.dat true (.sl .i),.dat true .i,.dat true (.sl .i),.dat true zJ,.dat true .i,.i,.bool,.i,.lit .nsl]
abbrev iW:List Go.Ab.CS:=[.i,.i,.i,.i,.i,.i,.i]
abbrev qYp:List Go.Ab.CS:=[.i,.i,.i,.i,.i,.i,.i,.i,.i,.i,.i,.i,.i,.i,.dat true qZ,.dat true (.sl .i),.dat true .i,.dat true (.sl .i)]
abbrev KW:List Go.Ab.CS:=[.i,.i,.i,.i,.i,.i,.i,.i,.i,.i,.i,.i,.i,.i,.lit .nsl,.lit .nsl,.lit .nsl,.lit .nsl]
abbrev qZg:List Go.Ab.CS:=[.i,.lit (.osl 1001001 none),.i,.lit (.osl 1001002 none),.i,.i,.i,.bool,.bool,.i]
abbrev yKn:List Go.Ab.CS:=[.i,.lit (.osl 1001003 none),.i,.lit (.osl 1001004 none),.i,.i,.i,.bool,.bool,.i]
abbrev yCj:List Go.Ab.CS:=[.i,.lit (.osl 1001003 none),.lit (.osl 1001004 none),.lit (.osl 1001005 none),.lit (.osl 1001006 none),.lit (.osl 1001007 none),.lit (.osl 1001008 none),.lit (.osl 1001009 none),.lit .nsl,.i,.bool]
abbrev yIt:List Go.Ab.CS:=[.i,.lit (.osl 1001003 none),.lit (.osl 1001004 none),.lit (.osl 1001005 none),.lit (.osl 1001006 none),.lit (.osl 1001007 none),.lit .nsl,.lit .nsl,.lit .nsl,.i,.bool]
abbrev yI0:List Go.Ab.CS:=[.i,.lit (.osl 1001004 none),.lit .nsl,.lit .nsl,.lit .nsl,.lit .nsl,.lit .nsl,.lit .nsl,.lit .nsl,.i,.bool]
abbrev ki:List Go.Ab.CS:=[.i,.lit .nsl,.lit .nsl,.lit .nsl,.lit .nsl,.lit .nsl,.lit .nsl,.lit .nsl,.lit .nsl,.i,.bool]
abbrev CA:List Go.Ab.CS:=[.lit (.osl 1001001 none),.lit (.osl 1001002 none),.i,.dat true qZ,.dat true (.sl .i),.dat true .i,.dat true (.sl .i),.dat true .i,.dat true (.sl .i),.dat true zJ,.dat true .i,.i,.bool,.bool]
abbrev SS:List Go.Ab.CS:=[.lit (.osl 1001002 none),.lit (.osl 1001003 none),.lit (.osl 1001004 none)]
abbrev KV:List Go.Ab.CS:=[.lit (.osl 1001003 none),.lit (.osl 1001004 none),.lit (.osl 1001005 none),.lit (.osl 1001006 none)]
abbrev yEf:List Go.Ab.CS:=[.lit (.osl 1001004 none),.lit (.osl 1001005 none),.lit (.osl 1001006 none),.lit (.osl 1001007 none)]
abbrev Lf:List Go.Ab.CS:=[.lit .nsl,.lit .nsl,.i,.lit .nsl,.lit .nsl,.lit .nsl,.lit .nsl,.lit .nsl,.lit .nsl,.lit .nsl,.lit .nsl,.i,.bool,.bool]
abbrev KU:List Go.Ab.CS:=[.lit .nsl,.lit .nsl,.lit .nsl,.lit .nsl]
abbrev KS:List Go.Ab.PC:=[.dat false .i,.dat false .i,.dat false (.sl .i)]
abbrev fc:List Go.Ab.PC:=[.dat false qZ,.dat false (.sl .i),.dat false .i,.dat false (.sl .i)]
abbrev tf:List Go.Ab.PC:=[.dat true qZ,.dat true (.sl .i),.dat true .i,.dat true (.sl .i)]
abbrev Gk:List Go.Ab.PC:=[.i,.dat false (.int .u8),.i,.dat false (.int .u8),.i,.i,.i,.bool,.bool,.i]
abbrev sU:List Go.Ab.PC:=[.i,.dat false qZ,.dat false (.sl .i),.dat false .i,.dat false (.sl .i),.dat false .i,.dat false (.sl .i),.dat false zJ,.dat false .i,.i,.bool]
abbrev lL:List Go.Ab.PC:=[.i,.dat false jF,.i,.i,.i]
abbrev R6:List Go.Ab.PC:=[.i,.dat false jF,.i,.i,.i,.i,.dat false qZ,.dat false (.sl .i),.dat false .i,.dat false (.sl .i),.dat false .i,.dat false (.sl .i),.dat false zJ,.dat false .i,.i,.bool,.i,.dat false qQ]
abbrev Gn:List Go.Ab.PC:=[.i,.dat true qZ,.dat true (.sl .i),.dat true .i,.dat true (.sl .i),.dat true .i,.dat true (.sl .i),.dat true zJ,.dat true .i,.i,.bool]
abbrev K3:List Go.Ab.PC:=[.i,.dat true jF,.i,.i,.i]
abbrev og:List Go.Ab.PC:=[.i,.i,.i]
abbrev wH:List Go.Ab.PC:=[.i,.i,.i,.i,.i,.i,.i]
abbrev Gq:List Go.Ab.PC:=[.i,.i,.i,.i,.i,.i,.i,.i]
abbrev lM:List Go.Ab.RC:=[.fro (.int .u8)]
abbrev oc:List Go.Ab.RC:=[.fro (.sl (.int .u8))]
abbrev kk:List Go.Ab.RC:=[.fro qZ,.fro (.sl .i),.fro .i,.fro (.sl .i)]
abbrev qP:List Go.Ab.RC:=[.i]
abbrev od:List Go.Ab.RC:=[.i,.fro qZ,.fro (.sl .i),.fro .i,.fro (.sl .i),.fro .i,.fro (.sl .i),.fro zJ,.fro .i,.i,.bool]
abbrev qSt:List Go.Ab.RC:=[.i,.fro qZ,.fro (.sl .i),.fro .i,.fro (.sl .i),.fro .i,.fro (.sl .i),.own zJ,.fro .i,.i,.bool]
abbrev wE:List Go.Ab.RC:=[.i,.fro jF,.i,.i,.i,.i,.fro qZ,.fro (.sl .i),.fro .i,.fro (.sl .i),.fro .i,.fro (.sl .i),.fro zJ,.fro .i,.i,.bool,.i,.own qQ]
abbrev Cv:List Go.Ab.RC:=[.i,.i,.i]
abbrev lN:List Go.Ab.RC:=[.i,.i,.i,.i,.i,.i,.i]
abbrev Co:List Go.Ab.RC:=[.i,.i,.i,.i,.i,.i,.i,.i]
abbrev yMm:List Go.Ab.RC:=[.i,.i,.i,.i,.i,.i,.i,.i,.i,.i,.i,.i,.i,.i,.fro qZ,.fro (.sl .i),.fro .i,.fro (.sl .i)]
abbrev vI:List Go.Ab.RC:=[.i,.own (.int .u8),.i,.own (.int .u8),.i,.i,.i,.bool,.bool,.i]
abbrev Kx:List Go.Ab.RC:=[.i,.own qZ,.mat,.own .i,.mat,.own .i,.mat,.own zJ,.own .i,.i,.bool]
abbrev yH2:List Go.Ab.RC:=[.i,.own jF,.i,.i,.i,.i,.own qZ,.mat,.own .i,.mat,.own .i,.mat,.own zJ,.own .i,.i,.bool,.i,.own qQ]
abbrev KD:List Go.Ab.RC:=[.link 0,.i,.i,.i,.bool]
abbrev tj:List Go.Ab.RC:=[.link 1,.i,.fro jF,.i,.i,.i,.i,.fro qZ,.fro (.sl .i),.fro .i,.fro (.sl .i),.fro .i,.fro (.sl .i),.fro zJ,.fro .i,.i,.bool,.i,.bool]
abbrev Cy:List Go.Ab.RC:=[.link 1,.i,.i,.i,.bool]
abbrev yL7:List Go.Ab.RC:=[.link 2,.i,.fro jF,.i,.i,.i,.i,.fro qZ,.fro (.sl .i),.fro .i,.fro (.sl .i),.fro .i,.fro (.sl .i),.fro zJ,.fro .i,.i,.bool,.i,.bool]
abbrev tl:List Go.Ab.RC:=[.link 2,.i,.i,.i,.bool]
abbrev n9:List Go.Ab.RC:=[.own .i]
abbrev yMk:List Go.Ab.RC:=[.own (.sl qQ),.own qQ,.i,.fro qZ,.fro (.sl .i),.fro .i,.fro (.sl .i),.fro .i,.fro (.sl .i),.fro zJ,.fro .i,.i,.bool,.bool]
abbrev K9:List Go.Ab.XC:=[.link 1,.p .i,.p (.dat true jF),.p .i,.p .i,.p .i,.p .i,.p (.dat true qZ),.p (.dat true (.sl .i)),.p (.dat true .i),.p (.dat true (.sl .i)),.p (.dat true .i),.p (.dat true (.sl .i)),.p (.dat true zJ),.p (.dat true .i),.p .i,.p .bool,.p .i,.p .bool]
abbrev Uv:List Go.Ab.XC:=[.link 1,.p .i,.p .i,.p .i,.p .bool]
abbrev La:List Go.Ab.XC:=[.link 2,.p .i,.p .i,.p .i,.p .bool]
abbrev ie:List Go.Ab.XC:=[.p .i,.own (.int .u8),.p .i,.own (.int .u8),.p .i,.p .i,.p .i,.p .bool,.p .bool,.p .i]
abbrev sX:List Go.Ab.XC:=[.p .i,.p (.dat true jF),.p .i,.p .i,.p .i,.p .i,.p (.dat true qZ),.p (.dat true (.sl .i)),.p (.dat true .i),.p (.dat true (.sl .i)),.p (.dat true .i),.p (.dat true (.sl .i)),.p (.dat true zJ),.p (.dat true .i),.p .i,.p .bool,.p .i,.own qQ]
abbrev sV:List Go.Ab.XC:=[.p .i,.p (.dat true jF),.p .i,.p .i,.p .i,.p .i,.p (.dat true qZ),.p (.dat true (.sl .i)),.p (.dat true .i),.p (.dat true (.sl .i)),.p (.dat true .i),.p (.dat true (.sl .i)),.p (.dat true zJ),.p (.dat true .i),.p .i,.p .bool,.p .i,.p (.nil)]
section
variable {A B C D E F G H I J K L M N O P Q R S U V W X Z a b Aa Ab Ac Ad Ae Af Ag Ah Ai Aj Ak Al Am An Ao Ap Aq Ar As At T Y:Type}
abbrev dy (x:A×B×C×D)(t:T):=(x.1,x.2.1,x.2.2.1,x.2.2.2,t)
abbrev ek (x:A×B×C×D×E)(t:T):=(x.1,dy x.2 t)
abbrev tg (x:A×B×C×D×E×F)(t:T):=(x.1,ek x.2 t)
abbrev j5 (x:A×B×C×D×E×F×G)(t:T):=(x.1,tg x.2 t)
abbrev Cp (x:A×B×C×D×E×F×G×H)(t:T):=(x.1,j5 x.2 t)
abbrev R8 (x:A×B×C×D×E×F×G×H×I)(t:T):=(x.1,Cp x.2 t)
abbrev eZ (x:A×B×C×D×E×F×G×H×I×J)(t:T):=(x.1,R8 x.2 t)
abbrev vK (x:A×B×C×D×E×F×G×H×I×J×K)(t:T):=(x.1,eZ x.2 t)
abbrev tc (x:A×B×C×D×E×F×G×H×I×J×K×L)(t:T):=(x.1,vK x.2 t)
abbrev vAh (x:A×B×C×D×E×F×G×H×I×J×K×L×M)(t:T):=(x.1,tc x.2 t)
abbrev TO (x:A×B×C×D×E×F×G×H×I×J×K×L×M×N)(t:T):=(x.1,vAh x.2 t)
abbrev yV1 (x:A×B×C×D×E×F×G×H×I×J×K×L×M×N×O)(t:T):=(x.1,TO x.2 t)
abbrev vCw (x:A×B×C×D×E×F×G×H×I×J×K×L×M×N×O×P)(t:T):=(x.1,yV1 x.2 t)
abbrev vB (x:A×B×C×D×E×F×G×H×I×J×K×L×M×N×O×P×Q)(t:T):=(x.1,vCw x.2 t)
abbrev wZ (x:A×B×C×D×E×F×G×H×I×J×K×L×M×N×O×P×Q×R)(t:T):=(x.1,vB x.2 t)
abbrev yXf (x:A×B×C×D×E×F×G×H×I×J×K×L×M×N×O×P×Q×R×S)(t:T):=(x.1,wZ x.2 t)
abbrev jK (x:A×B×C×D×E):=(x.1,x.2.1,x.2.2.1,x.2.2.2.1)
abbrev vS (x:A×B×C×D×E×F):=(x.1,jK x.2)
abbrev wo (x:A×B×C×D×E×F×G):=(x.1,vS x.2)
abbrev dO (x:A×B×C×D×E×F×G×H):=(x.1,wo x.2)
abbrev kO (x:A×B×C×D×E×F×G×H×I):=(x.1,dO x.2)
abbrev R9 (x:A×B×C×D×E×F×G×H×I×J):=(x.1,kO x.2)
abbrev jV (x:A×B×C×D×E×F×G×H×I×J×K):=(x.1,R9 x.2)
abbrev wB (x:A×B×C×D×E×F×G×H×I×J×K×L):=(x.1,jV x.2)
abbrev mK (x:A×B×C×D×E×F×G×H×I×J×K×L×M):=(x.1,wB x.2)
abbrev yS0 (x:A×B×C×D×E×F×G×H×I×J×K×L×M×N):=(x.1,mK x.2)
abbrev TR (x:A×B×C×D×E×F×G×H×I×J×K×L×M×N×O):=(x.1,yS0 x.2)
abbrev yVq (x:A×B×C×D×E×F×G×H×I×J×K×L×M×N×O×P):=(x.1,TR x.2)
abbrev vHm (x:A×B×C×D×E×F×G×H×I×J×K×L×M×N×O×P×Q):=(x.1,yVq x.2)
abbrev ig (x:A×B×C×D×E×F×G×H×I×J×K×L×M×N×O×P×Q×R):=(x.1,vHm x.2)
abbrev dz (x:A×B×C×D×E×F×G×H×I×J×K×L×M×N×O×P×Q×R×S):=(x.1,ig x.2)
abbrev yZg (x:A×B×C×D×E×F×G×H×I×J×K×L×M×N×O×P×Q×R×S×U):=(x.1,dz x.2)
abbrev jN (x:A×B×C×D×E)(t:T):=(x.1,x.2.1,x.2.2.1,x.2.2.2.1,t)
abbrev pU (x:A×B×C×D×E×F)(t:T):=(x.1,jN x.2 t)
abbrev fu (x:A×B×C×D×E×F×G)(t:T):=(x.1,pU x.2 t)
abbrev Cw (x:A×B×C×D×E×F×G×H)(t:T):=(x.1,fu x.2 t)
abbrev qSf (x:A×B×C×D×E×F×G×H×I)(t:T):=(x.1,Cw x.2 t)
abbrev VE (x:A×B×C×D×E×F×G×H×I×J)(t:T):=(x.1,qSf x.2 t)
abbrev yR2 (x:A×B×C×D×E×F×G×H×I×J×K)(t:T):=(x.1,VE x.2 t)
abbrev ta (x:A×B×C×D×E×F×G×H×I×J×K×L)(t:T):=(x.1,yR2 x.2 t)
abbrev mL (x:A×B×C×D×E×F×G×H×I×J×K×L×M)(t:T):=(x.1,ta x.2 t)
abbrev yNo (x:A×B×C×D×E×F×G×H×I×J×K×L×M×N)(t:T):=(x.1,mL x.2 t)
abbrev TQ (x:A×B×C×D×E×F×G×H×I×J×K×L×M×N×O)(t:T):=(x.1,yNo x.2 t)
abbrev vAj (x:A×B×C×D×E×F×G×H×I×J×K×L×M×N×O×P)(t:T):=(x.1,TQ x.2 t)
abbrev vJd (x:A×B×C×D×E×F×G×H×I×J×K×L×M×N×O×P×Q)(t:T):=(x.1,vAj x.2 t)
abbrev VF (x:A×B×C×D×E×F×G×H×I×J×K×L×M×N×O×P×Q×R)(t:T):=(x.1,vJd x.2 t)
abbrev jP (f:A→B→C→D→Y)(x:A×B×C×D×E):Y:=f x.1 x.2.1 x.2.2.1 x.2.2.2.1
abbrev kP (f:A→B→C→D→E→Y)(x:A×B×C×D×E×F):Y:=jP (f x.1) x.2
abbrev oh (f:A→B→C→D→E→F→Y)(x:A×B×C×D×E×F×G):Y:=kP (f x.1) x.2
abbrev td (f:A→B→C→D→E→F→G→Y)(x:A×B×C×D×E×F×G×H):Y:=oh (f x.1) x.2
abbrev oe (f:A→B→C→D→E→F→G→H→Y)(x:A×B×C×D×E×F×G×H×I):Y:=td (f x.1) x.2
abbrev SK (f:A→B→C→D→E→F→G→H→I→Y)(x:A×B×C×D×E×F×G×H×I×J):Y:=oe (f x.1) x.2
abbrev yX6 (f:A→B→C→D→E→F→G→H→I→J→Y)(x:A×B×C×D×E×F×G×H×I×J×K):Y:=SK (f x.1) x.2
abbrev pT (f:A→B→C→D→E→F→G→H→I→J→K→Y)(x:A×B×C×D×E×F×G×H×I×J×K×L):Y:=yX6 (f x.1) x.2
abbrev K0 (f:A→B→C→D→E→F→G→H→I→J→K→L→Y)(x:A×B×C×D×E×F×G×H×I×J×K×L×M):Y:=pT (f x.1) x.2
abbrev S5 (f:A→B→C→D→E→F→G→H→I→J→K→L→M→Y)(x:A×B×C×D×E×F×G×H×I×J×K×L×M×N):Y:=K0 (f x.1) x.2
abbrev Gt (f:A→B→C→D→E→F→G→H→I→J→K→L→M→N→Y)(x:A×B×C×D×E×F×G×H×I×J×K×L×M×N×O):Y:=S5 (f x.1) x.2
abbrev yWr (f:A→B→C→D→E→F→G→H→I→J→K→L→M→N→O→Y)(x:A×B×C×D×E×F×G×H×I×J×K×L×M×N×O×P):Y:=Gt (f x.1) x.2
abbrev qTj (f:A→B→C→D→E→F→G→H→I→J→K→L→M→N→O→P→Y)(x:A×B×C×D×E×F×G×H×I×J×K×L×M×N×O×P×Q):Y:=yWr (f x.1) x.2
abbrev vCh (f:A→B→C→D→E→F→G→H→I→J→K→L→M→N→O→P→Q→Y)(x:A×B×C×D×E×F×G×H×I×J×K×L×M×N×O×P×Q×R):Y:=qTj (f x.1) x.2
abbrev vLo (f:A→B→C→D→E→F→G→H→I→J→K→L→M→N→O→P→Q→R→Y)(x:A×B×C×D×E×F×G×H×I×J×K×L×M×N×O×P×Q×R×S):Y:=vCh (f x.1) x.2
abbrev vK1 (f:A→B→C→D→E→F→G→H→I→J→K→L→M→N→O→P→Q→R→S→Y)(x:A×B×C×D×E×F×G×H×I×J×K×L×M×N×O×P×Q×R×S×U):Y:=vLo (f x.1) x.2
abbrev VG (x:A×B×C×D×E×F×G×H×I×J×K×L×M×N×O×P×Q)(t:T):=dy x.2.2.2.2.2.2.2.2.2.2.2.2.2 t
abbrev qU2 (x:A×B×C×D×E×F)(t:T):=dy x.2.2 t
abbrev yS7 (x:A×B×C×D×E×F×G)(t:T):=dy x.2.2.2 t
abbrev qW2 (x:A×B×C×D×E×F×G×H)(t:T):=dy x.2.2.2.2 t
abbrev yTn (x:A×B×C×D×E×F×G×H×I×J×K×L)(t:T):=dy x.2.2.2.2.2.2.2.2 t
abbrev qTv (x:A×B×C×D×E×F×G×H×I×J×K×L×M×N×O×P×Q)(t:T):=ek x.2.2.2.2.2.2.2.2.2.2.2.2 t
abbrev P6 (x:A×B×C×D×E×F×G×H×I×J×K×L×M×N×O×P×Q)(t:T):=tg x.2.2.2.2.2.2.2.2.2.2.2 t
abbrev yRl (x:A×B×C×D×E×F×G×H)(t:T):=tg x.2.2 t
abbrev VH (x:A×B×C×D×E×F×G×H×I×J×K×L×M×N×O×P×Q)(t:T):=j5 x.2.2.2.2.2.2.2.2.2.2 t
abbrev TD (x:A×B×C×D×E×F×G×H×I×J×K)(t:T):=j5 x.2.2.2.2 t
abbrev vG3 (x:A×B×C×D×E×F×G×H×I×J×K×L×M×N)(t:T):=j5 x.2.2.2.2.2.2.2 t
abbrev vK2 (x:A×B×C×D×E×F×G×H×I×J×K×L)(t:T):=vK x.2 t
abbrev CB (x:A×B×C×D×E×F×G×H×I×J×K×L×M×N×O×P×Q×R)(t:T):=vK x.2.2.2.2.2.2.2 t
abbrev TK (x:A×B×C×D×E×F×G×H×I×J×K×L×M×N×O×P×Q×R×S)(t:T):=wZ x.2 t
abbrev vJ7 (x:A×B×C×D×E×F×G×H×I×J×K×L×M×N×O×P×Q×R×S×U):=jK x.2.2.2.2.2.2.2.2.2.2.2.2.2.2.2
abbrev K4 (x:A×B×C×D×E×F):=jK x.2
abbrev Lb (x:A×B×C×D×E×F×G×H×I×J×K×L×M×N×O×P×Q×R×S×U×V×W×X×Z×a):=jK x.2.2.2.2.2.2.2.2.2.2.2.2.2.2.2.2.2.2.2.2
abbrev UW (x:A×B×C×D×E×F×G×H×I×J×K×L×M×N×O×P×Q×R×S×U×V×W×X×Z×a×b):=jK x.2.2.2.2.2.2.2.2.2.2.2.2.2.2.2.2.2.2.2.2.2
abbrev Uw (x:A×B×C×D×E×F×G):=jK x.2.2
abbrev ySs (x:A×B×C×D×E×F×G×H×I×J×K×L×M×N×O×P×Q×R×S×U×V×W×X×Z×a×b×Aa×Ab×Ac×Ad×Ae×Af×Ag×Ah×Ai×Aj):=jK x.2.2.2.2.2.2.2.2.2.2.2.2.2.2.2.2.2.2.2.2.2.2.2.2.2.2.2.2.2.2.2
abbrev yRs (x:A×B×C×D×E×F×G×H×I×J×K×L×M×N×O×P×Q×R×S×U×V×W×X×Z×a×b×Aa×Ab×Ac×Ad×Ae×Af×Ag×Ah×Ai×Aj×Ak):=jK x.2.2.2.2.2.2.2.2.2.2.2.2.2.2.2.2.2.2.2.2.2.2.2.2.2.2.2.2.2.2.2.2
abbrev qZ4 (x:A×B×C×D×E×F×G×H×I×J×K×L×M×N×O×P×Q×R×S×U×V×W×X×Z×a):=wo x.2.2.2.2.2.2.2.2.2.2.2.2.2.2.2.2.2.2
abbrev Cr (x:A×B×C×D×E×F×G×H×I×J×K×L×M×N×O×P×Q×R×S×U×V×W×X×Z×a×b):=dO x.2.2.2.2.2.2.2.2.2.2.2.2.2.2.2.2.2.2
abbrev Fc (x:A×B×C×D×E×F×G×H×I):=dO x.2
abbrev qZk (x:A×B×C×D×E×F×G×H×I×J×K×L×M×N):=dO x.2.2.2.2.2.2
abbrev vDj (x:A×B×C×D×E×F×G×H×I×J×K×L×M×N×O):=dO x.2.2.2.2.2.2.2
abbrev yJa (x:A×B×C×D×E×F×G×H×I×J×K×L×M×N×O×P×Q×R×S×U×V×W×X×Z×a):=kO x.2.2.2.2.2.2.2.2.2.2.2.2.2.2.2.2
abbrev Cl (x:A×B×C×D×E×F×G×H×I×J×K×L):=jV x.2
abbrev Lc (x:A×B×C×D×E×F×G×H×I×J×K×L×M×N×O×P×Q×R×S×U×V×W×X×Z×a×b×Aa×Ab×Ac×Ad×Ae×Af×Ag×Ah×Ai):=jV x.2.2.2.2.2.2.2.2.2.2.2.2.2.2.2.2.2.2.2.2.2.2.2.2
abbrev UX (x:A×B×C×D×E×F×G×H×I×J×K×L×M×N×O×P×Q×R×S×U×V×W×X×Z×a×b×Aa×Ab×Ac×Ad×Ae×Af×Ag×Ah×Ai×Aj):=jV x.2.2.2.2.2.2.2.2.2.2.2.2.2.2.2.2.2.2.2.2.2.2.2.2.2
abbrev yIj (x:A×B×C×D×E×F×G×H×I×J×K×L×M):=jV x.2.2
abbrev vAa (x:A×B×C×D×E×F×G×H×I×J×K×L×M×N×O×P×Q×R×S×U×V×W×X×Z×a×b×Aa×Ab×Ac×Ad×Ae×Af×Ag×Ah×Ai×Aj×Ak×Al×Am×An×Ao×Ap×Aq×Ar×As×At):=jV x.2.2.2.2.2.2.2.2.2.2.2.2.2.2.2.2.2.2.2.2.2.2.2.2.2.2.2.2.2.2.2.2.2.2.2
abbrev yA8 (x:A×B×C×D×E×F×G×H×I×J×K×L×M×N×O):=jV x.2.2.2.2
abbrev K5 (x:A×B×C×D×E×F×G×H×I×J×K×L×M×N×O×P):=jV x.2.2.2.2.2
abbrev Ux (x:A×B×C×D×E×F×G×H×I×J×K×L×M×N×O×P×Q):=jV x.2.2.2.2.2.2
abbrev pQ (x:A×B×C×D×E×F×G×H×I×J×K×L×M×N×O×P×Q):=wB x.2.2.2.2.2
abbrev yWx (x:A×B×C×D×E×F×G×H×I×J×K×L×M×N×O×P×Q×R×S):=wB x.2.2.2.2.2.2.2
abbrev vCk (x:A×B×C×D×E×F×G×H×I×J×K×L×M×N×O×P×Q×R×S×U×V×W×X×Z×a×b×Aa×Ab×Ac×Ad×Ae):=dz x.2.2.2.2.2.2.2.2.2.2.2.2
abbrev ySh (x:A×B×C×D×E×F×G×H×I×J×K×L×M×N×O×P×Q×R×S×U×V×W×X×Z×a×b×Aa×Ab×Ac×Ad×Ae×Af):=dz x.2.2.2.2.2.2.2.2.2.2.2.2.2
abbrev fW (x:A×B×C×D×E×F×G×H×I×J×K×L×M×N×O×P×Q×R×S×U):=dz x.2
abbrev UU (x:A×B×C×D×E×F×G×H×I×J×K×L×M×N×O×P×Q×R×S×U×V):=dz x.2.2
abbrev Ll (x:A×B×C×D×E×F×G×H×I×J×K×L×M×N×O)(t:T):=jN x.2.2.2.2.2.2.2.2.2.2 t
abbrev lP (x:A×B×C×D×E×F)(t:T):=jN x.2 t
abbrev RO (x:A×B×C×D×E×F×G)(t:T):=jN x.2.2 t
abbrev yRj (x:A×B×C×D×E×F×G×H)(t:T):=jN x.2.2.2 t
abbrev vDm (x:A×B×C×D×E×F×G×H×I×J)(t:T):=jN x.2.2.2.2.2 t
abbrev CC (x:A×B×C×D×E×F×G×H×I×J×K)(t:T):=fu x.2.2.2.2 t
abbrev vG6 (x:A×B×C×D×E×F×G×H×I)(t:T):=Cw x.2 t
abbrev yXm (x:A×B×C×D×E×F×G×H×I×J×K×L×M)(t:T):=qSf x.2.2.2.2 t
abbrev yZu (x:A×B×C×D×E×F×G×H×I×J×K×L×M×N×O×P×Q)(t:T):=ta x.2.2.2.2.2 t
abbrev vD9 (x:A×B×C×D×E×F×G×H×I×J×K×L×M×N×O×P×Q×R×S×U×V)(t:T):=TQ x.2.2.2.2.2.2 t
abbrev JT (x:A×B×C×D×E×F×G×H×I×J×K×L×M×N×O×P×Q×R×S)(t:T):=VF x.2 t
end
abbrev QQ:Type:=(List ik)×Int
abbrev QO:Type:=List ik→Int→Int→Option QQ
def Ce (k:Nat)(rec:QO)(s0:List ik)(s3 s4:Int):Option QQ:=
 bif decide (s4 < (s0.length : Int)) then (bif decide (s4 < 200) then (bif zD s4 s0.length then(rec s0 (zA (s3+((s0.getD s4.toNat (0,0,[],0,0)).2.2.1.length:Int))) (zA (s4+1)))
   else none)
  else some (s0,s3))
 else some (s0,s3)
def Cd (k:Nat):Nat→QO:=vF (fun _ _ _=>none) (Ce k)
def Km (k:Nat)(a0:List ik):Option Bool:=
 (Cd k k a0 0 0).bind fun z=>
 bif decide ((z.1.length:Int)>100) then some true
 else some (decide (z.2>8000))
def Gf (k:Nat)(a0:Int):Option vZ:=
 bif decide ((jO .i64 a0 3)=1) then some (4,[(100,1000),(7,0)],12,20,100)
 else bif decide ((jO .i64 a0 3)=2) then some (3,[],20,20,4)
 else bif decide ((jO .i64 a0 3)=3) then some (3,[(100,1000),(7,0)],0,6,1)
 else some (3,[(100,1000),(7,0)],12,20,4)
def Ke (k:Nat)(a0:Int):Option (vC⊕Unit):=
 bif decide (a0<0) then some (.inr ())
 else bif decide (a0>200000) then some (.inr ())
 else some (.inl (a0,[],0,[],0,0,0,false,false,0))
def nZ (k:Nat)(a0 a1 a2:Int):Option Bool:=
 bif decide (a0≥a1) then some (decide (a0≤a2))
 else some false
def qY6 (k:Nat)(a0:wL):Option Bool:=
 (nZ k a0.1 0 1048576).bind fun x0=>
 bif !x0 then some true
 else(nZ k a0.2 0 10000).bind fun x1=>
 some (!x1)
abbrev QR:Type:=List wL→Int→Int→Option (Unit⊕Int)
def qZ3 (k:Nat)(rec:QR)(s0:List wL)(s7 s8:Int):Option (Unit⊕Int):=
 bif decide (s8 < s7) then (bif zD s8 s0.length then ((qY6 k (s0.getD s8.toNat (0,0))).bind fun x0=>
   bif x0 then some (.inr s8)
   else rec s0 s7 (zA (s8+1)))
  else none)
 else some (.inl ())
def QT (k:Nat):Nat→QR:=vF (fun _ _ _=>none) (qZ3 k)
def yJz (k:Nat)(a0:List wL):Option Int:=
 (QT k k a0 (a0.length:Int) 0).bind fun z=>
 match z with
 |.inl z1=>some (-1)
 |.inr z2=>some z2
def qY8 (k:Nat)(a0:List wL):Option Bool:=
 (yJz k a0).bind fun x0=>
 some (decide (x0≥0))
def lK (k:Nat)(a0:vZ):Option Bool:=
 (nZ k a0.1 1 6).bind fun x0=>
 bif x0 then ((nZ k a0.2.2.2.1 1 1048576).bind fun x1=>
  bif x1 then ((nZ k a0.2.2.1 0 a0.2.2.2.1).bind fun x2=>
   bif x2 then ((nZ k a0.2.2.2.2 1 1048576).bind fun x3=>
    bif decide ((a0.2.1.length : Int) ≤ 3) then (bif x3 then ((qY8 k a0.2.1).bind fun x4=>
      some (!x4))
     else some false)
    else some false)
   else bif decide ((a0.2.1.length:Int)≤3) then some false
   else some false)
  else bif decide ((a0.2.1.length:Int)≤3) then some false
  else some false)
 else(nZ k a0.2.2.2.1 1 1048576).bind fun x5=>
 bif x5 then ((nZ k a0.2.2.1 0 a0.2.2.2.1).bind fun x6=>
  bif x6 then ((nZ k a0.2.2.2.2 1 1048576).bind fun x7=>
   some false)
  else some false)
 else some false
def Kt (k:Nat)(a0:Int):Option Bool:=
 bif decide (a0≥0) then some (decide (a0<2))
 else some false
def v7 (k:Nat)(a0:AC):Option AC:=
 bif zU (0+a0.length) 1 then some a0
 else none
def Qv (k:Nat)(a0:vC)(a1:Int):Option AC:=
 (Kt k a1).bind fun x0=>
 bif !x0 then some []
 else bif decide (a1 = 0) then ((v7 k a0.2.1).bind fun x1=>
  some x1)
 else bif decide (a1 = 1) then ((v7 k a0.2.2.2.1).bind fun x2=>
  some x2)
 else none
abbrev QX:Type:=AC×EQ
abbrev QV:Type:=AC→EQ→Option QX
def zj (k:Nat)(rec:QV)(s0:AC)(r0:EQ):Option QX:=
 bif decide ((s0.length : Int) ≥ 2) then (bif zD 0 s0.length then (bif zD 1 s0.length then (bif decide ((fP .i64 (shl .i64 (zA ((s0.getD 0 0))) 8) (zA ((s0.getD 1 0))))>60000) then some (s0,r0)
    else bif decide ((fP .i64 (shl .i64 (zA ((s0.getD 0 0))) 8) (zA ((s0.getD 1 0))))>(zA ((s0.length:Int)-2))) then some (s0,r0)
    else bif (decide (2 ≤ (zA (2 + (fP .i64 (shl .i64 (zA ((s0.getD 0 0))) 8) (zA ((s0.getD 1 0)))))))) && (decide ((zA (2 + (fP .i64 (shl .i64 (zA ((s0.getD 0 0))) 8) (zA ((s0.getD 1 0)))))) ≤ (s0.length : Int))) then (bif zU (0 + (qW s0 2 ((zA (2 + (fP .i64 (shl .i64 (zA ((s0.getD 0 0))) 8) (zA ((s0.getD 1 0)))))).toNat - 2)).length) 1 then (let y0:AC:=(qW s0 2 ((zA (2+(fP .i64 (shl .i64 (zA ((s0.getD 0 0))) 8) (zA ((s0.getD 1 0)))))).toNat-2))
      bif zU (r0.length + 1) 24 then (bif (decide (0≤(zA (2+(fP .i64 (shl .i64 (zA ((s0.getD 0 0))) 8) (zA ((s0.getD 1 0))))))))&&(decide ((zA (2+(fP .i64 (shl .i64 (zA ((s0.getD 0 0))) 8) (zA ((s0.getD 1 0))))))≤(s0.length:Int))) then(rec (List.drop (zA (2+(fP .i64 (shl .i64 (zA ((s0.getD 0 0))) 8) (zA ((s0.getD 1 0)))))).toNat s0) (r0++[y0]))
       else none)
      else none)
     else none)
    else none)
   else none)
  else none)
 else some (s0,r0)
def zi (k:Nat):Nat→QV:=vF (fun _ _=>none) (zj k)
def Ep (k:Nat)(a0:AC):Option (EQ×Int):=
 (zi k k a0 []).bind fun z=>
 some (z.2,(z.1.length:Int))
abbrev Q0:Type:=AC×Int×AC
abbrev QY:Type:=AC→Int→AC→Int→Int→AC→Option Q0
def Ih (k:Nat)(rec:QY)(s0:AC)(s5:Int)(bG:AC)(aN cS:Int)(r0:AC):Option Q0:=
 bif decide (cS < aN) then (bif zD cS bG.length then(rec s0 (fP .u64 (shl .u64 s5 8) (IntKind.wrap .u64 ((bG.getD cS.toNat 0)))) bG aN (zA (cS+1)) r0)
  else none)
 else some (s0,s5,r0)
def yv (k:Nat):Nat→QY:=vF (fun _ _ _ _ _ _=>none) (Ih k)
def yx (k:Nat)(rec:AC→AC→Option AC)(s0 r0:AC):Option AC:=
 bif decide ((s0.length : Int) > 0) then (bif decide (8 ≤ (s0.length : Int)) then ((yv k k s0 0 (List.take 8 s0) ((List.take 8 s0).length:Int) 0 r0).bind fun z=>
   bif zU (z.2.2.length + 1) 8 then (bif decide (8≤(z.1.length:Int)) then(rec (List.drop 8 z.1) (z.2.2++[(zA (z.2.1))]))
    else none)
   else none)
  else none)
 else some r0
def yw (k:Nat):Nat→AC→AC→Option AC:=vF (fun _ _=>none) (yx k)
def mn (k:Nat)(a0:AC):Option (AC×Int):=
 bif !(decide ((Int.tmod (a0.length:Int) 8)=0)) then some ([],2)
 else(yw k k a0 []).bind fun z1=>
 some (z1,0)
def sL (k:Nat)(a0:vC)(a1:Int):Option (Int×AC×EQ):=
 (Qv k a0 a1).bind fun x0=>
 (Ep k x0).bind fun x1=>
 bif decide ((x1.1.length:Int)=0) then some (0,[],[])
 else bif zD 0 x1.1.length then (bif decide (((x1.1.getD 0 []).length:Int)<8) then some (0,[],[])
  else bif zD 0 x1.1.length then (bif decide (8 ≤ ((x1.1.getD 0 []).length : Int)) then ((mn k (List.take 8 (x1.1.getD 0 []))).bind fun x2=>
    bif zD 0 x2.1.length then (bif decide ((x2.1.getD 0 0)<1) then some (0,[],[])
     else bif zD 0 x2.1.length then (bif decide ((x2.1.getD 0 0)>4611686018427387904) then some (0,[],[])
      else bif zD 0 x2.1.length then (bif zD 0 x1.1.length then (bif decide (8 ≤ ((x1.1.getD 0 []).length : Int)) then (bif decide (1≤(x1.1.length:Int)) then some ((x2.1.getD 0 0),(List.drop 8 (x1.1.getD 0 [])),(qW x1.1 1 (x1.1.length-1)))
         else none)
        else none)
       else none)
      else none)
     else none)
    else none)
   else none)
  else none)
 else none
def F5 (k:Nat)(a0:vC):Option (Int×Int×AC×EQ×Bool):=
 (sL k a0 0).bind fun x0=>
 bif decide (x0.1 > 0) then ((sL k a0 1).bind fun x1=>
  bif decide (x1.1>x0.1) then some (x1.1,1,x1.2.1,x1.2.2,true)
  else some (x0.1,0,x0.2.1,x0.2.2,true))
 else(sL k a0 1).bind fun x2=>
 bif decide (x2.1>0) then some (x2.1,1,x2.2.1,x2.2.2,true)
 else some (0,0,[],[],false)
def ER (k:Nat)(a0:Int):Option Bool:=
 bif decide (a0≥0) then some (decide (a0≤6))
 else some false
abbrev Q4:Type:=Int→Int→Int→AC→Option AC
def Aw (k:Nat)(rec:Q4)(s1 bn bq:Int)(r0:AC):Option AC:=
 bif decide (bq < bn) then (bif zD bq r0.length then(rec s1 bn (zA (bq+1)) (r0.set bq.toNat s1))
  else none)
 else some r0
def ES (k:Nat):Nat→Q4
 |0,_,_,_,_=>none
 |n+1,s1,bn,bq,r0=>Aw k (ES k n) s1 bn bq r0
def uN (k:Nat)(a0 a1:Int):Option AC:=
 (ER k a0).bind fun x0=>
 bif !x0 then some []
 else bif uj a0 a0 8 then ((ES k k a1 ((List.replicate a0.toNat (0:Int)).length:Int) 0 (List.replicate a0.toNat (0:Int))).bind fun z=>
  some z)
 else none
abbrev Q6:Type:=Int→Int→Int→Int→EQ→Option EQ
def Ay (k:Nat)(rec:Q6)(s0 s1 bn bq:Int)(m0:EQ):Option EQ:=
 bif decide (bq < bn) then ((uN k s0 s1).bind fun x1=>
  bif zD bq m0.length then(rec s0 s1 bn (zA (bq+1)) (m0.set bq.toNat x1))
  else none)
 else some m0
def ET (k:Nat):Nat→Q6
 |0,_,_,_,_,_=>none
 |n+1,s0,s1,bn,bq,m0=>Ay k (ET k n) s0 s1 bn bq m0
def Ax (k:Nat)(a0 a1:Int):Option EQ:=
 (ER k a0).bind fun x0=>
 bif !x0 then some []
 else bif uj a0 a0 24 then ((ET k k a0 a1 ((List.replicate a0.toNat ([]:AC)).length:Int) 0 (List.replicate a0.toNat ([]:AC))).bind fun z=>
  some z)
 else none
abbrev Q9:Type:=Int×vZ×dP×dP×(List zN)×EQ×AC×EQ×AC
abbrev Q8:Type:=Int→List wL→Int→Int→vZ→dP→dP→List zN→EQ→AC→EQ→AC→Option Q9
def qU1 (k:Nat)(rec:Q8)(s3:Int)(bW:List wL)(s21 Lm:Int)(b0:vZ)(b1 b2:dP)(r3:List zN)(m4:EQ)(r5:AC)(m6:EQ)(r7:AC):Option Q9:=
 bif decide (Lm < s21) then (bif zD Lm bW.length then (bif zU (r7.length+1) 8 then(rec s3 bW s21 (zA (Lm+1)) b0 b1 b2 r3 m4 r5 m6 (r7++[(bW.getD Lm.toNat (0,0)).1]))
   else none)
  else none)
 else some (s3,b0,b1,b2,r3,m4,r5,m6,r7)
def Ra (k:Nat):Nat→Q8:=vF (fun _ _ _ _ _ _ _ _ _ _ _ _=>none) (qU1 k)
abbrev Rc:Type:=dP×dP×(List zN)×EQ×AC×EQ×AC×EQ
abbrev Rb:Type:=Int→Int→vZ→dP→dP→List zN→EQ→AC→EQ→AC→EQ→Option Rc
def yIe (k:Nat)(rec:Rb)(wq om:Int)(b0:vZ)(b1 b2:dP)(r3:List zN)(m4:EQ)(r5:AC)(m6:EQ)(r7:AC)(m8:EQ):Option Rc:=
 bif decide (om < wq) then (bif uj (b0.2.1.length : Int) (b0.2.1.length : Int) 8 then (bif zU (m8.length+1) 24 then(rec wq (zA (om+1)) b0 b1 b2 r3 m4 r5 m6 r7 (m8++[(List.replicate b0.2.1.length (0:Int))]))
   else none)
  else none)
 else some (b1,b2,r3,m4,r5,m6,r7,m8)
def Re (k:Nat):Nat→Rb:=vF (fun _ _ _ _ _ _ _ _ _ _ _=>none) (yIe k)
def iV (k:Nat)(a0:vZ):Option wK:=
 bif uj a0.1 a0.1 24 then ((Ax k a0.1 (-1)).bind fun x0=>
  (uN k a0.1 (-1)).bind fun x1=>
  (Ax k a0.1 0).bind fun x2=>
  (Ra k k a0.1 a0.2.1 (a0.2.1.length:Int) 0 a0 (0,0,false) (0,0,false) (List.replicate a0.1.toNat ((0,0,0):Int×Int×Int)) x0 x1 x2 []).bind fun z=>
  (Re k k z.1 0 z.2.1 z.2.2.1 z.2.2.2.1 z.2.2.2.2.1 z.2.2.2.2.2.1 z.2.2.2.2.2.2.1 z.2.2.2.2.2.2.2.1 z.2.2.2.2.2.2.2.2 []).bind fun z1=>
  some (z1.2.1.1,(yRl z1 ([],[],z1.2.1.2))))
 else none
def Ip (k:Nat)(a0:Bool):Option Int:=
 bif a0 then some 1
 else some 0
abbrev Ri:Type:=AC×Int×Int×AC
abbrev Rg:Type:=Int→Int→AC→Int→Int→AC→Option Ri
def Il (k:Nat)(rec:Rg)(s5 s6:Int)(bK:AC)(bV bn:Int)(r0:AC):Option Ri:=
 bif decide (s6 ≥ 0) then (bif !(decide ((zA (8 * s6)) < 0)) then (bif zU (r0.length+1) 1 then(rec s5 (zA (s6-1)) bK bV bn (r0++[(IntKind.wrap .u8 ((shr .i64 s5 (zA (8*s6)))))]))
   else none)
  else none)
 else some (bK,bV,bn,r0)
def se (k:Nat):Nat→Rg:=vF (fun _ _ _ _ _ _=>none) (Il k)
abbrev Rj:Type:=AC→Int→Int→AC→Option AC
def zb (k:Nat)(rec:Rj)(bK:AC)(bV bn:Int)(r0:AC):Option AC:=
 bif decide (bn < bV) then (bif zD bn bK.length then ((se k k (bK.getD bn.toNat 0) 7 bK bV bn r0).bind fun z=>
   rec z.1 z.2.1 (zA (z.2.2.1+1)) z.2.2.2)
  else none)
 else some r0
def uH (k:Nat):Nat→Rj:=vF (fun _ _ _ _=>none) (zb k)
def sf (k:Nat)(a0:AC):Option AC:=
 bif uj 0 (zA (8 * (a0.length : Int))) 1 then ((uH k k a0 (a0.length:Int) 0 []).bind fun z1=>
  some z1)
 else none
def Im (k:Nat)(a0:AC):Option AC:=
 (sf k [(a0.length:Int)]).bind fun x0=>
 (sf k a0).bind fun x1=>
 bif zU (x0.length+x1.length) 1 then some (x0++x1)
 else none
abbrev Rm:Type:=EQ→Int→Int→AC→Option AC
def zd (k:Nat)(rec:Rm)(s6:EQ)(s7 s8:Int)(r0:AC):Option AC:=
 bif decide (s8 < s7) then (bif zD s8 s6.length then ((Im k (s6.getD s8.toNat [])).bind fun x0=>
   bif zU (r0.length+x0.length) 1 then(rec s6 s7 (zA (s8+1)) (r0++x0))
   else none)
  else none)
 else some r0
def zc (k:Nat):Nat→Rm:=vF (fun _ _ _ _=>none) (zd k)
def Eo (k:Nat)(a0:EQ):Option AC:=
 (zc k k a0 (a0.length:Int) 0 []).bind fun z=>
 some z
abbrev Rq:Type:=wK×Lk×EQ
abbrev Rp:Type:=List zN→Int→Int→wK→Lk→EQ→Option Rq
def ze (k:Nat)(rec:Rp)(im:List zN)(dR fy:Int)(b0:wK)(b1:Lk)(r2:EQ):Option Rq:=
 bif decide (fy < dR) then (bif zD fy im.length then (bif zU (r2.length + 1) 24 then (let y0:EQ:=(r2++[[(im.getD fy.toNat (0,0,0)).1,(im.getD fy.toNat (0,0,0)).2.1,(im.getD fy.toNat (0,0,0)).2.2]])
    rec im dR (zA (fy+1)) b0 b1 y0)
   else none)
  else none)
 else some (b0,b1,r2)
def uI (k:Nat):Nat→Rp:=vF (fun _ _ _ _ _ _=>none) (ze k)
abbrev Rs:Type:=wK×EQ
abbrev Rr:Type:=List zF→Int→Int→wK→EQ→Option Rs
def zg (k:Nat)(rec:Rr)(pW:List zF)(s80 oq:Int)(b0:wK)(r1:EQ):Option Rs:=
 bif decide (oq < s80) then (bif zD oq pW.length then (bif zU (r1.length + 1) 24 then (let y3:EQ:=(r1++[[(pW.getD oq.toNat (0,0,0,0,0,0,0)).1,(pW.getD oq.toNat (0,0,0,0,0,0,0)).2.1,(pW.getD oq.toNat (0,0,0,0,0,0,0)).2.2.1,(pW.getD oq.toNat (0,0,0,0,0,0,0)).2.2.2.1,(pW.getD oq.toNat (0,0,0,0,0,0,0)).2.2.2.2.1,(pW.getD oq.toNat (0,0,0,0,0,0,0)).2.2.2.2.2.1,(pW.getD oq.toNat (0,0,0,0,0,0,0)).2.2.2.2.2.2]])
    rec pW s80 (zA (oq+1)) b0 y3)
   else none)
  else none)
 else some (b0,r1)
def uJ (k:Nat):Nat→Rr:=vF (fun _ _ _ _ _=>none) (zg k)
def fq (k:Nat)(a0:wK):Option AC:=
 (Ip k a0.2.2.2.2.2.2.2.2.2.2).bind fun x0=>
 (uI k k a0.2.1 (a0.2.1.length:Int) 0 a0 (K4 a0) [[a0.1,a0.2.2.2.2.2.2.2.2.2.1,x0,(a0.2.1.length:Int),(a0.2.2.1.length:Int),(a0.2.2.2.1.length:Int),(a0.2.2.2.2.1.length:Int),(a0.2.2.2.2.2.2.1.length:Int),(a0.2.2.2.2.2.2.2.1.length:Int)]]).bind fun z=>
 bif zU (z.2.2.length + z.2.1.2.1.length) 24 then (bif zU ((z.2.2 ++ z.2.1.2.1).length + 1) 24 then (let y1:EQ:=((z.2.2++z.2.1.2.1)++[z.2.1.2.2.1])
   bif zU (y1.length + z.2.1.2.2.2.length) 24 then (bif zU ((y1 ++ z.2.1.2.2.2).length + 1) 24 then (let y2:EQ:=((y1++z.2.1.2.2.2)++[z.1.2.2.2.2.2.1])
     bif zU (y2.length + z.1.2.2.2.2.2.2.1.length) 24 then ((uJ k k z.1.2.2.2.2.2.2.2.1 (z.1.2.2.2.2.2.2.2.1.length:Int) 0 z.1 (y2++z.1.2.2.2.2.2.2.1)).bind fun z1=>
      bif zU (z1.2.length + 1) 24 then (let y4:EQ:=(z1.2++[z1.1.2.2.2.2.2.2.2.2.1])
       (Eo k y4).bind fun x1=>
       some x1)
      else none)
     else none)
    else none)
   else none)
  else none)
 else none
def En (k:Nat)(a0:AC):Option ij:=
 bif decide ((a0.length:Int)>60000) then some ([],false)
 else bif zU (2+a0.length) 1 then some (([(IntKind.wrap .u8 ((shr .i64 (a0.length:Int) 8))),(IntKind.wrap .u8 ((a0.length:Int)))]++a0),true)
 else none
def Qt (k:Nat)(a0:vC):Option Int:=
 some a0.1
def KC (k:Nat)(a0:vC):Option Bool:=
 some a0.2.2.2.2.2.2.2.2.1
def gI (k:Nat)(a0:vC):Option (Bool×vC):=
 bif !a0.2.2.2.2.2.2.2.1 then some (false,(VE a0 (zA (a0.2.2.2.2.2.2.2.2.2+1))))
 else bif decide (a0.2.2.2.2.2.2.2.2.2<a0.2.2.2.2.2.1) then some (false,(VE a0 (zA (a0.2.2.2.2.2.2.2.2.2+1))))
 else bif (decide (0 ≤ (zA (a0.2.2.1 + (vV true (vV false a0.2.2.2.2.2.2.1 0) (zA ((a0.2.1.length : Int) - a0.2.2.1))))))) && (decide ((zA (a0.2.2.1 + (vV true (vV false a0.2.2.2.2.2.2.1 0) (zA ((a0.2.1.length : Int) - a0.2.2.1))))) ≤ (a0.2.1.length : Int))) then (bif (decide (0≤(zA (a0.2.2.2.2.1+(vV true (zA ((vV false a0.2.2.2.2.2.2.1 0)-(vV true (vV false a0.2.2.2.2.2.2.1 0) (zA ((a0.2.1.length:Int)-a0.2.2.1))))) (zA ((a0.2.2.2.1.length:Int)-a0.2.2.2.2.1)))))))&&(decide ((zA (a0.2.2.2.2.1+(vV true (zA ((vV false a0.2.2.2.2.2.2.1 0)-(vV true (vV false a0.2.2.2.2.2.2.1 0) (zA ((a0.2.1.length:Int)-a0.2.2.1))))) (zA ((a0.2.2.2.1.length:Int)-a0.2.2.2.2.1)))))≤(a0.2.2.2.1.length:Int))) then some (true,a0.1,(List.take ((zA (a0.2.2.1+(vV true (vV false a0.2.2.2.2.2.2.1 0) (zA ((a0.2.1.length:Int)-a0.2.2.1))))).toNat-0) a0.2.1),(zA (a0.2.2.1+(vV true (vV false a0.2.2.2.2.2.2.1 0) (zA ((a0.2.1.length:Int)-a0.2.2.1))))),(List.take ((zA (a0.2.2.2.2.1+(vV true (zA ((vV false a0.2.2.2.2.2.2.1 0)-(vV true (vV false a0.2.2.2.2.2.2.1 0) (zA ((a0.2.1.length:Int)-a0.2.2.1))))) (zA ((a0.2.2.2.1.length:Int)-a0.2.2.2.2.1))))).toNat-0) a0.2.2.2.1),(zA (a0.2.2.2.2.1+(vV true (zA ((vV false a0.2.2.2.2.2.2.1 0)-(vV true (vV false a0.2.2.2.2.2.2.1 0) (zA ((a0.2.1.length:Int)-a0.2.2.1))))) (zA ((a0.2.2.2.1.length:Int)-a0.2.2.2.2.1))))),a0.2.2.2.2.2.1,a0.2.2.2.2.2.2.1,a0.2.2.2.2.2.2.2.1,true,a0.2.2.2.2.2.2.2.2.2)
  else none)
 else none
def J2 (k:Nat)(a0:vC)(a1:Int):Option (Int×vC):=
 (KC k a0).bind fun x0=>
 bif x0 then some (11,a0)
 else(Kt k a1).bind fun x1=>
 bif !x1 then some (1,a0)
 else(gI k a0).bind fun x2=>
 bif x2.1 then some (11,x2.2)
 else bif decide (a1 = 0) then (bif decide (a1=0) then some (0,x2.2.1,[],0,x2.2.2.2.2)
  else bif decide (a1=1) then some (0,x2.2.1,[],x2.2.2.2.1,x2.2.2.2.2.1,0,x2.2.2.2.2.2.2)
  else none)
 else bif decide (a1 = 1) then (bif decide (a1=0) then some (0,x2.2.1,x2.2.2.1,0,[],x2.2.2.2.2.2)
  else bif decide (a1=1) then some (0,x2.2.1,x2.2.2.1,x2.2.2.2.1,[],0,x2.2.2.2.2.2.2)
  else none)
 else none
def sK (k:Nat)(a0:vC)(a1:Int)(a2:AC):Option (Int×vC):=
 (KC k a0).bind fun x0=>
 bif x0 then some (11,a0)
 else(Kt k a1).bind fun x1=>
 bif !x1 then some (1,a0)
 else bif decide (a1 = 0) then (bif decide ((a2.length:Int)>(zA (a0.1-(a0.2.1.length:Int)))) then some (3,a0)
  else(gI k a0).bind fun x2=>
  bif x2.1 then some (11,x2.2)
  else bif decide (a1 = 0) then (bif zU (x2.2.2.1.length+a2.length) 1 then some (0,x2.2.1,(x2.2.2.1++a2),x2.2.2.2)
   else none)
  else bif decide (a1 = 1) then (bif zU (x2.2.2.2.2.1.length+a2.length) 1 then some (0,x2.2.1,x2.2.2.1,x2.2.2.2.1,(x2.2.2.2.2.1++a2),x2.2.2.2.2.2)
   else none)
  else none)
 else bif decide (a1 = 1) then (bif decide ((a2.length:Int)>(zA (a0.1-(a0.2.2.2.1.length:Int)))) then some (3,a0)
  else(gI k a0).bind fun x3=>
  bif x3.1 then some (11,x3.2)
  else bif decide (a1 = 0) then (bif zU (x3.2.2.1.length+a2.length) 1 then some (0,x3.2.1,(x3.2.2.1++a2),x3.2.2.2)
   else none)
  else bif decide (a1 = 1) then (bif zU (x3.2.2.2.2.1.length+a2.length) 1 then some (0,x3.2.1,x3.2.2.1,x3.2.2.2.1,(x3.2.2.2.2.1++a2),x3.2.2.2.2.2)
   else none)
  else none)
 else none
def pO (k:Nat)(a0:vC):Option (Int×vC):=
 (KC k a0).bind fun x0=>
 bif x0 then some (11,a0)
 else(gI k a0).bind fun x1=>
 bif x1.1 then some (11,x1.2)
 else some (0,x1.2.1,x1.2.2.1,(x1.2.2.1.length:Int),x1.2.2.2.2.1,(x1.2.2.2.2.1.length:Int),x1.2.2.2.2.2.2)
def F1 (k:Nat)(a0:vC)(a1 a2:Int)(a3:AC):Option (Int×vC):=
 (sf k [a2]).bind fun x0=>
 bif zU (x0.length + a3.length) 1 then ((En k (x0++a3)).bind fun x1=>
  bif !x1.2 then some (10,a0)
  else bif decide (a2>4611686018427387904) then some (10,a0)
  else(Qt k a0).bind fun x2=>
  bif decide ((x1.1.length:Int)>x2) then some (10,a0)
  else(J2 k a0 a1).bind fun x3=>
  bif !(decide (x3.1=0)) then some (x3.1,x3.2)
  else(sK k x3.2 a1 x1.1).bind fun x4=>
  bif !(decide (x4.1=0)) then some (x4.1,x4.2)
  else(pO k x4.2).bind fun x5=>
  some (x5.1,x5.2))
 else none
def J3 (k:Nat)(a0:vC)(a1:AC):Option ((AC×EQ×Int×vC×dQ)⊕(AC×EQ×Int×vC)):=
 (F5 k a0).bind fun x0=>
 bif x0.2.2.2.2 then some (.inl (x0.2.2.1,x0.2.2.2.1,0,a0,x0.2.1,x0.1,(x0.2.2.2.1.length:Int),true))
 else(F1 k a0 0 1 a1).bind fun x1=>
 bif !(decide (x1.1=0)) then some (.inr ([],[],x1.1,x1.2))
 else bif zU (0+a1.length) 1 then some (.inl (a1,[],0,x1.2,0,1,0,false))
 else none
def Iq (k:Nat)(a0:AC):Option (AC×AC×Bool):=
 bif decide ((a0.length:Int)<8) then some ([],[],false)
 else bif decide (8 ≤ (a0.length : Int)) then ((mn k (List.take 8 a0)).bind fun x0=>
  bif decide (8 ≤ (a0.length : Int)) then (bif zD 0 x0.1.length then (bif decide ((x0.1.getD 0 0)<0) then some ([],[],false)
    else bif zD 0 x0.1.length then (bif decide ((x0.1.getD 0 0)>(zA (Int.tdiv ((List.drop 8 a0).length:Int) 8))) then some ([],[],false)
     else bif zD 0 x0.1.length then (bif (decide (0 ≤ (zA (8 * (x0.1.getD 0 0))))) && (decide ((zA (8 * (x0.1.getD 0 0))) ≤ ((List.drop 8 a0).length : Int))) then ((mn k (List.take (zA (8*(x0.1.getD 0 0))).toNat (List.drop 8 a0))).bind fun x1=>
       bif (decide (0≤(zA (8*(x0.1.getD 0 0)))))&&(decide ((zA (8*(x0.1.getD 0 0)))≤((List.drop 8 a0).length:Int))) then some (x1.1,(List.drop (zA (8*(x0.1.getD 0 0))).toNat (List.drop 8 a0)),true)
       else none)
      else none)
     else none)
    else none)
   else none)
  else none)
 else none
def sM (k:Nat)(a0:ij):Option (AC×ij):=
 (Iq k a0.1).bind fun x0=>
 bif a0.2 then some (x0.1,x0.2.1,true)
 else some (x0.1,x0.2.1,(!x0.2.2))
def B2 (k:Nat)(a0:ij)(a1:Int):Option (AC×ij):=
 (sM k a0).bind fun x0=>
 bif !(decide ((x0.1.length : Int) = a1)) then (bif uj a1 a1 8 then some ((List.replicate a1.toNat (0:Int)),x0.2.1,true)
  else none)
 else some (x0.1,x0.2)
abbrev Rz:Type:=ij×EQ
abbrev Rx:Type:=Int→ij→EQ→Option Rz
def J4 (k:Nat)(rec:Rx)(s1:Int)(b0:ij)(r1:EQ):Option Rz:=
 bif decide (s1 > 0) then (bif !b0.2 then ((sM k b0).bind fun x0=>
   bif zU (r1.length+1) 24 then(rec (zA (s1-1)) x0.2 (r1++[x0.1]))
   else none)
  else some (b0,r1))
 else some (b0,r1)
def F7 (k:Nat):Nat→Rx:=vF (fun _ _ _=>none) (J4 k)
def B3 (k:Nat)(a0:ij)(a1:Int):Option (EQ×ij):=
 (F7 k k a1 a0 []).bind fun z=>
 some (z.2,z.1)
def Qy (k:Nat)(a0 a1:AC):Option Bool:=
 some (tz a0 a1)
abbrev RE:Type:=AC×dP×ij×AC×dP×(List zN)
abbrev RD:Type:=AC→Int→dP→ij→AC→dP→List zN→Option RE
def J5 (k:Nat)(rec:RD)(s0:AC)(s7:Int)(b0:dP)(b1:ij)(r2:AC)(b3:dP)(r4:List zN):Option RE:=
 bif decide (s7 > 0) then (bif !b1.2 then ((B2 k b1 3).bind fun x1=>
   bif zD 0 x1.1.length then (bif zD 1 x1.1.length then (bif zD 2 x1.1.length then (bif zU (r4.length + 1) 24 then (let y0:List zN:=(r4++[((x1.1.getD 0 0),(x1.1.getD 1 0),(x1.1.getD 2 0))])
       rec s0 (zA (s7-1)) b0 x1.2 r2 b3 y0)
      else none)
     else none)
    else none)
   else none)
  else some (s0,b0,b1,r2,b3,r4))
 else some (s0,b0,b1,r2,b3,r4)
def B4 (k:Nat):Nat→RD:=vF (fun _ _ _ _ _ _ _=>none) (J5 k)
abbrev RG:Type:=AC×dP×ij×dP×(List zN)×EQ×AC×EQ×AC×EQ×(List zF)
abbrev RF:Type:=AC→Int→dP→ij→dP→List zN→EQ→AC→EQ→AC→EQ→List zF→Option RG
def J6 (k:Nat)(rec:RF)(s0:AC)(s9:Int)(b0:dP)(b1:ij)(b2:dP)(r3:List zN)(r4:EQ)(r5:AC)(r6:EQ)(r7:AC)(r8:EQ)(r9:List zF):Option RG:=
 bif decide (s9 > 0) then (bif !b1.2 then ((B2 k b1 7).bind fun x7=>
   bif zD 0 x7.1.length then (bif zD 1 x7.1.length then (bif zD 2 x7.1.length then (bif zD 3 x7.1.length then (bif zD 4 x7.1.length then (bif zD 5 x7.1.length then (bif zD 6 x7.1.length then (bif zU (r9.length + 1) 56 then (let y1:List zF:=(r9++[((x7.1.getD 0 0),(x7.1.getD 1 0),(x7.1.getD 2 0),(x7.1.getD 3 0),(x7.1.getD 4 0),(x7.1.getD 5 0),(x7.1.getD 6 0))])
           rec s0 (zA (s9-1)) b0 x7.2 b2 r3 r4 r5 r6 r7 r8 y1)
          else none)
         else none)
        else none)
       else none)
      else none)
     else none)
    else none)
   else none)
  else some (s0,b0,b1,b2,r3,r4,r5,r6,r7,r8,r9))
 else some (s0,b0,b1,b2,r3,r4,r5,r6,r7,r8,r9)
def B5 (k:Nat):Nat→RF:=vF (fun _ _ _ _ _ _ _ _ _ _ _ _=>none) (J6 k)
def B6 (k:Nat)(a0:AC):Option (wK×Bool):=
 (B2 k (a0,false) 9).bind fun x0=>
 bif zD 0 x0.1.length then (bif zD 1 x0.1.length then (bif zD 2 x0.1.length then (bif zD 3 x0.1.length then ((B4 k k a0 (x0.1.getD 3 0) (0,0,false) x0.2 x0.1 ((x0.1.getD 0 0),(x0.1.getD 1 0),(decide ((x0.1.getD 2 0)=1))) []).bind fun z=>
     bif zD 4 z.2.2.2.1.length then ((B3 k z.2.2.1 (z.2.2.2.1.getD 4 0)).bind fun x2=>
      (sM k x2.2).bind fun x3=>
      bif zD 6 z.2.2.2.1.length then ((B3 k x3.2 (z.2.2.2.1.getD 6 0)).bind fun x4=>
       (sM k x4.2).bind fun x5=>
       bif zD 7 z.2.2.2.1.length then ((B3 k x5.2 (z.2.2.2.1.getD 7 0)).bind fun x6=>
        bif zD 8 z.2.2.2.1.length then ((B5 k k z.1 (z.2.2.2.1.getD 8 0) z.2.1 x6.2 z.2.2.2.2.1 z.2.2.2.2.2 x2.1 x3.1 x4.1 x5.1 x6.1 []).bind fun z1=>
         (sM k z1.2.2.1).bind fun x8=>
         bif x8.2.2 then some ((0,[],[],[],[],[],[],[],[],0,false),false)
         else(fq k (z1.2.2.2.1.1,(TD z1 (x8.1,z1.2.2.2.1.2)))).bind fun x9=>
         (Qy k x9 z1.1).bind fun dA=>
         bif !dA then some ((0,[],[],[],[],[],[],[],[],0,false),false)
         else some ((z1.2.2.2.1.1,(TD z1 (x8.1,z1.2.2.2.1.2))),true))
        else none)
       else none)
      else none)
     else none)
    else none)
   else none)
  else none)
 else none
def sb (k:Nat)(a0:Int):Option Int:=
 bif decide (a0=9) then some 0
 else bif decide (a0=13) then some 0
 else bif decide (a0=14) then some 0
 else bif decide (a0=15) then some 0
 else bif decide (a0=2) then some 1
 else bif decide (a0=6) then some 1
 else bif decide (a0=7) then some 1
 else bif decide (a0=16) then some 1
 else bif decide (a0=19) then some 1
 else bif decide (a0=20) then some 1
 else bif decide (a0=21) then some 1
 else bif decide (a0=22) then some 1
 else bif decide (a0=23) then some 1
 else bif decide (a0=3) then some 2
 else bif decide (a0=4) then some 2
 else bif decide (a0=5) then some 2
 else bif decide (a0=8) then some 2
 else bif decide (a0=10) then some 2
 else bif decide (a0=11) then some 2
 else bif decide (a0=12) then some 2
 else bif decide (a0=18) then some 4
 else bif decide (a0=17) then some 5
 else bif decide (a0=1) then some 6
 else some (-1)
def lr (k:Nat)(a0:AC):Option (zF×Int):=
 bif decide ((a0.length:Int)=0) then some ((0,0,0,0,0,0,0),2)
 else bif decide (1 ≤ (a0.length : Int)) then ((mn k (List.drop 1 a0)).bind fun x0=>
  bif !(decide (x0.2=0)) then some ((0,0,0,0,0,0,0),2)
  else bif zD 0 a0.length then ((sb k (zA ((a0.getD 0 0)))).bind fun x1=>
   bif !(decide ((x0.1.length:Int)=x1)) then some ((0,0,0,0,0,0,0),2)
   else bif zD 0 a0.length then some (((zA ((a0.getD 0 0))),(bif (Nat.blt 0 x0.1.length) then(x0.1.getD 0 0) else 0),(bif (Nat.blt 1 x0.1.length) then(x0.1.getD 1 0) else 0),(bif (Nat.blt 2 x0.1.length) then(x0.1.getD 2 0) else 0),(bif (Nat.blt 3 x0.1.length) then(x0.1.getD 3 0) else 0),(bif (Nat.blt 4 x0.1.length) then(x0.1.getD 4 0) else 0),(bif (Nat.blt 5 x0.1.length) then(x0.1.getD 5 0) else 0)),0)
   else none)
  else none)
 else none
def pL (k:Nat)(a0:AC):Option (qB×Int):=
 bif decide ((a0.length:Int)<8) then some ((0,0,0,0,0,0,0,0),2)
 else bif decide (8 ≤ (a0.length : Int)) then ((mn k (List.take 8 a0)).bind fun x0=>
  bif decide (8 ≤ (a0.length : Int)) then ((lr k (List.drop 8 a0)).bind fun x1=>
   bif !(decide (x1.2=0)) then some ((0,0,0,0,0,0,0,0),2)
   else bif zD 0 x0.1.length then some (((x0.1.getD 0 0),x1.1),0)
   else none)
  else none)
 else none
def JK (k:Nat)(a0:Int):Option Bool:=
 bif decide (a0≥10) then some (decide (a0≤14))
 else some false
def FD (k:Nat)(a0:Int):Option Bool:=
 bif decide (a0≥1) then some (decide (a0≤14))
 else some false
abbrev RI:Type:=AC→Int→Int→Option (Unit⊕Bool)
def lI (k:Nat)(rec:RI)(bn:AC)(bq aO:Int):Option (Unit⊕Bool):=
 bif decide (aO < bq) then (bif zD aO bn.length then (bif !(decide ((bn.getD aO.toNat 0)=0)) then some (.inr false)
   else rec bn bq (zA (aO+1)))
  else none)
 else some (.inl ())
def mF (k:Nat):Nat→RI:=vF (fun _ _ _=>none) (lI k)
def kN (k:Nat)(a0:zF):Option Bool:=
 (sb k a0.1).bind fun x0=>
 bif decide (x0<0) then some false
 else bif (decide (0 ≤ x0)) && (decide (x0 ≤ 6)) then ((mF k k (qW [a0.2.1,a0.2.2.1,a0.2.2.2.1,a0.2.2.2.2.1,a0.2.2.2.2.2.1,a0.2.2.2.2.2.2] x0.toNat (6-x0.toNat)) ((qW [a0.2.1,a0.2.2.1,a0.2.2.2.1,a0.2.2.2.2.1,a0.2.2.2.2.2.1,a0.2.2.2.2.2.2] x0.toNat (6-x0.toNat)).length:Int) 0).bind fun z=>
  match z with
  |.inl z1=>some true
  |.inr z2=>some z2)
 else none
def BH (k:Nat)(a0:vZ)(a1:wK)(a2:qB):Option Int:=
 (JK k a2.2.1).bind fun x0=>
 bif decide (a2.1 ≥ 0) then ((FD k a2.2.1).bind fun x1=>
  bif !x1 then some 5
  else(kN k a2.2).bind fun x2=>
  bif !x2 then some 5
  else bif x0 then (bif !(decide (a2.1=(-1))) then some 5
   else bif !x0 then (bif !(decide (a2.1<a0.1)) then some 5
    else bif a1.2.2.2.2.2.2.2.2.2.2 then (bif !(decide (a2.2.1=9)) then some 7
     else some 0)
    else some 0)
   else bif a1.2.2.2.2.2.2.2.2.2.2 then (bif !(decide (a2.2.1=9)) then some 7
    else some 0)
   else some 0)
  else bif !x0 then (bif !(decide (a2.1<a0.1)) then some 5
   else bif a1.2.2.2.2.2.2.2.2.2.2 then (bif !(decide (a2.2.1=9)) then some 7
    else some 0)
   else some 0)
  else bif a1.2.2.2.2.2.2.2.2.2.2 then (bif !(decide (a2.2.1=9)) then some 7
   else some 0)
  else some 0)
 else(FD k a2.2.1).bind fun x3=>
 bif !x3 then some 5
 else(kN k a2.2).bind fun x4=>
 bif !x4 then some 5
 else bif x0 then (bif !(decide (a2.1=(-1))) then some 5
  else bif !x0 then some 5
  else bif a1.2.2.2.2.2.2.2.2.2.2 then (bif !(decide (a2.2.1=9)) then some 7
   else some 0)
  else some 0)
 else bif !x0 then some 5
 else bif a1.2.2.2.2.2.2.2.2.2.2 then (bif !(decide (a2.2.1=9)) then some 7
  else some 0)
 else some 0
def P0 (k:Nat)(gK cp cM iq fe gL fY a1:Int):Option Bool:=
 some (decide (cp=a1))
abbrev RN:Type:=List zF
abbrev RK:Type:=List zF→Int→Int→Int→List zF→Option RN
def Bm (k:Nat)(rec:RK)(s8:List zF)(s9 av aa:Int)(r1:List zF):Option RN:=
 bif decide (av < s9) then (bif zD av s8.length then ((P0 k (s8.getD av.toNat (0,0,0,0,0,0,0)).1 (s8.getD av.toNat (0,0,0,0,0,0,0)).2.1 (s8.getD av.toNat (0,0,0,0,0,0,0)).2.2.1 (s8.getD av.toNat (0,0,0,0,0,0,0)).2.2.2.1 (s8.getD av.toNat (0,0,0,0,0,0,0)).2.2.2.2.1 (s8.getD av.toNat (0,0,0,0,0,0,0)).2.2.2.2.2.1 (s8.getD av.toNat (0,0,0,0,0,0,0)).2.2.2.2.2.2 aa).bind fun x0=>
   bif x0 then (bif zU (r1.length + 1) 56 then (let y0:List zF:=(r1++[(s8.getD av.toNat (0,0,0,0,0,0,0))])
     rec s8 s9 (zA (av+1)) aa y0)
    else none)
   else rec s8 s9 (zA (av+1)) aa r1)
  else none)
 else some r1
def Ft (k:Nat):Nat→RK
 |0,_,_,_,_,_=>none
 |n+1,s8,s9,av,aa,r1=>Bm k (Ft k n) s8 s9 av aa r1
def PZ (k:Nat)(a0:List zF)(cf:Int):Option (List zF):=
 (Ft k k a0 (a0.length:Int) 0 cf []).bind fun z=>
 some z
def Fs (k:Nat)(a0:List zF)(a1:Int):Option (List zF):=
 (PZ k a0 a1).bind fun x0=>
 some x0
def yFy (k:Nat)(a0:(Int×Int×Int×Int×Int×Int×Bool×Int))(a1:Int)(a2:AC):Option wT:=
 some (a0.1,[],(lP a0 ([],[],[],[],[],[],[],[],a0.2.2.2.2.2.1,a0.2.2.2.2.2.2.1,a0.2.2.2.2.2.2.2,[(a0.2.2.2.2.2.2.2,a1,(bif (Nat.blt 0 a2.length) then(a2.getD 0 0) else 0),(bif (Nat.blt 1 a2.length) then(a2.getD 1 0) else 0),(bif (Nat.blt 2 a2.length) then(a2.getD 2 0) else 0),(bif (Nat.blt 3 a2.length) then(a2.getD 3 0) else 0),(bif (Nat.blt 4 a2.length) then(a2.getD 4 0) else 0),(bif (Nat.blt 5 a2.length) then(a2.getD 5 0) else 0))])))
def FO (k:Nat)(a0:wK)(a1:Int):Option (List qB):=
 bif zD a1 a0.2.1.length then ((Fs k a0.2.2.2.2.2.2.2.1 a1).bind fun x0=>
  (yFy k (0,0,0,0,0,0,false,a1) 17 [(a0.2.1.getD a1.toNat (0,0,0)).1,(a0.2.1.getD a1.toNat (0,0,0)).2.1,(a0.2.1.getD a1.toNat (0,0,0)).2.2,(x0.length:Int),a0.1]).bind fun x1=>
  some x1.2.2.2.2.2.2.2.2.2.2.2.2.2.2.2.2.2)
 else none
def JU (k:Nat)(a0:il)(a1:Int)(a2:AC):Option wT:=
 some (vB a0 [(a0.2.2.2.2.2.2.2.2.2.2.2.2.2.2.2.2,a1,(bif (Nat.blt 0 a2.length) then(a2.getD 0 0) else 0),(bif (Nat.blt 1 a2.length) then(a2.getD 1 0) else 0),(bif (Nat.blt 2 a2.length) then(a2.getD 2 0) else 0),(bif (Nat.blt 3 a2.length) then(a2.getD 3 0) else 0),(bif (Nat.blt 4 a2.length) then(a2.getD 4 0) else 0),(bif (Nat.blt 5 a2.length) then(a2.getD 5 0) else 0))])
def yS (k:Nat)(a0 a1 a2:Int):Option Bool:=
 bif decide (a0≥a1) then some (decide (a0≤a2))
 else some false
def FA (k:Nat)(a0:vZ)(a1:Int):Option Bool:=
 bif decide (a1≥0) then some (decide (a1<a0.1))
 else some false
def JG (k:Nat)(a0:vZ)(a1:Int)(a2:zF):Option Bool:=
 (FA k a0 a2.2.1).bind fun x0=>
 bif x0 then ((FA k a0 a2.2.2.1).bind fun x1=>
  bif x1 then (bif decide (a2.1 ≥ 1) then (bif decide (a2.2.2.2.1 ≥ 1) then (bif decide (a2.2.2.2.1 ≤ 1099511627776) then (bif decide (a2.2.2.2.2.1 ≥ 1) then (bif !(decide (a2.2.1 = a2.2.2.1)) then (bif decide (a2.2.2.2.2.1 ≤ 3) then (bif decide (a2.2.2.2.2.2.1 ≥ 0) then (bif decide (a2.2.2.2.2.2.1 ≤ a2.2.2.2.2.2.2) then (bif decide (a2.2.2.2.2.2.2≥a1) then some (decide (a2.2.2.2.2.2.2≤1048576))
           else some false)
          else some false)
         else some false)
        else some false)
       else some false)
      else bif !(decide (a2.2.1=a2.2.2.1)) then some false
      else some false)
     else bif !(decide (a2.2.1=a2.2.2.1)) then some false
     else some false)
    else bif !(decide (a2.2.1=a2.2.2.1)) then some false
    else some false)
   else bif !(decide (a2.2.1=a2.2.2.1)) then some false
   else some false)
  else bif decide (a2.1 ≥ 1) then (bif decide (a2.2.2.2.1 ≥ 1) then (bif decide (a2.2.2.2.1 ≤ 1099511627776) then (bif decide (a2.2.2.2.2.1≥1) then some false
     else some false)
    else some false)
   else some false)
  else some false)
 else bif decide (a2.1 ≥ 1) then (bif decide (a2.2.2.2.1 ≥ 1) then (bif decide (a2.2.2.2.1 ≤ 1099511627776) then (bif decide (a2.2.2.2.2.1≥1) then some false
    else some false)
   else some false)
  else some false)
 else some false
def vm (k:Nat)(a0:vZ)(a1 a2:Int):Option Int:=
 bif decide (a1≥a0.2.2.2.1) then some 7
 else bif decide (a2 = 3) then (bif decide (a1≥a0.2.2.1) then some 7
  else some 0)
 else some 0
def BE (k:Nat)(a0:vZ)(a1:Int)(a2:zF):Option Int:=
 (JG k a0 a1 a2).bind fun x0=>
 bif !x0 then some 1
 else(vm k a0 a1 a2.2.2.2.2.1).bind fun x1=>
 some x1
def Jf (k:Nat)(a0:Int):Option Bool:=
 some (!(decide (a0=a0)))
def Je (k:Nat)(a0 a1:Int):Option Bool:=
 (Jf k a0).bind fun x0=>
 bif x0 then ((Jf k a1).bind fun x1=>
  bif !x1 then some true
  else some (decide (a0<a1)))
 else some (decide (a0<a1))
def Jh (k:Nat)(a0:Int):Option Bool:=
 some (!(decide (a0=a0)))
abbrev RT:Type:=AC×Int×Int×Int
abbrev RQ:Type:=AC→Int→Int→Int→Int→Option RT
def Jg (k:Nat)(rec:RQ)(s0:AC)(s1 s6 s7 s8:Int):Option RT:=
 bif decide (s7 < s8) then (bif zD (zA ((shr .u64 (IntKind.wrap .u64 ((zA (s7 + s8)))) 1))) s0.length then ((Je k (s0.getD (zA ((shr .u64 (IntKind.wrap .u64 ((zA (s7+s8)))) 1))).toNat 0) s1).bind fun x0=>
   bif x0 then(rec s0 s1 s6 (zA ((zA ((shr .u64 (IntKind.wrap .u64 ((zA (s7+s8)))) 1)))+1)) s8)
   else rec s0 s1 s6 s7 (zA ((shr .u64 (IntKind.wrap .u64 ((zA (s7+s8)))) 1))))
  else none)
 else some (s0,s1,s6,s7)
def Fe (k:Nat):Nat→RQ:=vF (fun _ _ _ _ _=>none) (Jg k)
def A5 (k:Nat)(a0:AC)(a1:Int):Option (Int×Bool):=
 (Fe k k a0 a1 (a0.length:Int) 0 (a0.length:Int)).bind fun z=>
 bif decide (z.2.2.2 < z.2.2.1) then (bif zD z.2.2.2 z.1.length then (bif decide ((z.1.getD z.2.2.2.toNat 0)=z.2.1) then some (z.2.2.2,true)
   else bif zD z.2.2.2 z.1.length then ((Jh k (z.1.getD z.2.2.2.toNat 0)).bind fun x1=>
    bif x1 then ((Jh k z.2.1).bind fun x2=>
     some (z.2.2.2,x2))
    else some (z.2.2.2,false))
   else none)
  else none)
 else some (z.2.2.2,false)
def mr (k:Nat)(a0:AC):Option AC:=
 bif zU (0+a0.length) 8 then some a0
 else none
abbrev yMg (k:Nat)(a0:AC)(a1:Int)(a2:AC):Option AC:=ins 8 a0 a1 a2
def A6 (k:Nat)(a0:AC)(a1:Int):Option (AC×Int):=
 (A5 k a0 a1).bind fun x0=>
 bif x0.2 then some (a0,6)
 else bif decide ((a0.length:Int)≥200) then some (a0,3)
 else(mr k a0).bind fun x1=>
 (yMg k x1 x0.1 [a1]).bind fun x2=>
 some (x2,0)
def Ps (k:Nat)(gK cp cM iq fe gL fY a1:Int):Option Bool:=
 some (decide (gK=a1))
abbrev RZ:Type:=List zF→Int→Int→Int→Option (Unit⊕Int)
def AT (k:Nat)(rec:RZ)(s0:List zF)(s7 s8 aa:Int):Option (Unit⊕Int):=
 bif decide (s8 < s7) then (bif zD s8 s0.length then ((Ps k (s0.getD s8.toNat (0,0,0,0,0,0,0)).1 (s0.getD s8.toNat (0,0,0,0,0,0,0)).2.1 (s0.getD s8.toNat (0,0,0,0,0,0,0)).2.2.1 (s0.getD s8.toNat (0,0,0,0,0,0,0)).2.2.2.1 (s0.getD s8.toNat (0,0,0,0,0,0,0)).2.2.2.2.1 (s0.getD s8.toNat (0,0,0,0,0,0,0)).2.2.2.2.2.1 (s0.getD s8.toNat (0,0,0,0,0,0,0)).2.2.2.2.2.2 aa).bind fun x0=>
   bif x0 then some (.inr s8)
   else rec s0 s7 (zA (s8+1)) aa)
  else none)
 else some (.inl ())
def AR (k:Nat):Nat→RZ
 |0,_,_,_,_=>none
 |n+1,s0,s7,s8,aa=>AT k (AR k n) s0 s7 s8 aa
def Pt (k:Nat)(a0:List zF)(cf:Int):Option Int:=
 (AR k k a0 (a0.length:Int) 0 cf).bind fun z=>
 match z with
 |.inl z1=>some (-1)
 |.inr z2=>some z2
def lC (k:Nat)(a0:List zF)(a1:Int):Option Int:=
 (Pt k a0 a1).bind fun x0=>
 some x0
def Ja (k:Nat)(a0:Int):Option Bool:=
 some (!(decide (a0=a0)))
def E7 (k:Nat)(a0 a1:Int):Option Int:=
 (Ja k a0).bind fun x0=>
 (Ja k a1).bind fun x1=>
 bif x0 then (bif x1 then some 0
  else some (-1))
 else bif x1 then some 1
 else bif decide (a0<a1) then some (-1)
 else bif decide (a0>a1) then some 1
 else some 0
abbrev R1:Type:=Int→AC→Int→Int→Option (Int⊕Int)
def qWh (k:Nat)(rec:R1)(s3:Int)(s6:AC)(s7 s8:Int):Option (Int⊕Int):=
 bif decide (s8 < s7) then (bif zD s8 s6.length then (bif !(decide ((s6.getD s8.toNat 0)=s3)) then some (.inr (s6.getD s8.toNat 0))
   else rec s3 s6 s7 (zA (s8+1)))
  else none)
 else some (.inl s3)
def AU (k:Nat):Nat→R1
 |0,_,_,_,_=>none
 |n+1,s3,s6,s7,s8=>qWh k (AU k n) s3 s6 s7 s8
def I9 (k:Nat)(a0:AC):Option Int:=
 (AU k k 0 a0 (a0.length:Int) 0).bind fun z=>
 match z with
 |.inl z1=>some z1
 |.inr z2=>some z2
def AV (k:Nat)(gK cp cM iq fe gL fY VI mM pX wu tn VJ VK:Int):Option Int:=
 (E7 k cp mM).bind fun x0=>
 (E7 k fe tn).bind fun x1=>
 (I9 k [x0,x1]).bind fun x2=>
 some x2
def sr (k:Nat)(a0:List zF):Option (List zF):=
 bif zU (0+a0.length) 56 then some a0
 else none
abbrev Jd (k:Nat)(a0:List zF)(a1:Int)(a2:List zF):Option (List zF):=ins 56 a0 a1 a2
abbrev R5:Type:=(List zF)×Int×zF
abbrev R3:Type:=List zF→Int→zF→Option R5
def AY (k:Nat)(rec:R3)(s0:List zF)(s6:Int)(b0:zF):Option R5:=
 bif decide (s6 < (s0.length : Int)) then (bif zD s6 s0.length then ((AV k (s0.getD s6.toNat (0,0,0,0,0,0,0)).1 (s0.getD s6.toNat (0,0,0,0,0,0,0)).2.1 (s0.getD s6.toNat (0,0,0,0,0,0,0)).2.2.1 (s0.getD s6.toNat (0,0,0,0,0,0,0)).2.2.2.1 (s0.getD s6.toNat (0,0,0,0,0,0,0)).2.2.2.2.1 (s0.getD s6.toNat (0,0,0,0,0,0,0)).2.2.2.2.2.1 (s0.getD s6.toNat (0,0,0,0,0,0,0)).2.2.2.2.2.2 b0.1 b0.2.1 b0.2.2.1 b0.2.2.2.1 b0.2.2.2.2.1 b0.2.2.2.2.2.1 b0.2.2.2.2.2.2).bind fun x1=>
   bif decide (x1≤0) then(rec s0 (zA (s6+1)) b0)
   else some (s0,s6,b0))
  else none)
 else some (s0,s6,b0)
def AW (k:Nat):Nat→R3:=vF (fun _ _ _=>none) (AY k)
def ss (k:Nat)(a0:List zF)(a1:zF):Option ((List zF)×Int):=
 (lC k a0 a1.1).bind fun x0=>
 bif decide (x0≥0) then some (a0,6)
 else bif decide ((a0.length:Int)≥40) then some (a0,3)
 else(AW k k a0 0 a1).bind fun z=>
 (sr k z.1).bind fun x2=>
 (Jd k x2 z.2.1 [z.2.2]).bind fun x3=>
 some (x3,0)
def JH (k:Nat)(a0:wT)(a1:(Int×Int×Int×Int×Int×Int)):Option (Int×wT):=
 (yS k a1.2.1 0 (zA (a0.1-1))).bind fun x0=>
 bif !x0 then some (1,a0)
 else(yS k a1.2.2.2.1 1 3).bind fun x1=>
 bif !x1 then some (1,a0)
 else(BE k (vS a0) a0.2.2.2.2.2.1 (a1.1,a0.2.2.2.2.2.2.2.2.2.2.2.2.2.2.2.2.1,a1.2)).bind fun x2=>
 bif !(decide (x2=0)) then some (x2,a0)
 else(A6 k a0.2.2.2.2.2.2.2.2.2.2.2.2.2.1 a1.1).bind fun x3=>
 bif !(decide (x3.2=0)) then some (x3.2,a0)
 else(ss k a0.2.2.2.2.2.2.2.2.2.2.2.2.1 (a1.1,a0.2.2.2.2.2.2.2.2.2.2.2.2.2.2.2.2.1,a1.2)).bind fun x4=>
 bif !(decide (x4.2=0)) then some (x4.2,a0)
 else some (0,(mL a0 (x4.1,x3.1,a0.2.2.2.2.2.2.2.2.2.2.2.2.2.2)))
def R7 (k:Nat)(a0:wT)(a1:Int):Option (zF×Int):=
 (lC k a0.2.2.2.2.2.2.2.2.2.2.2.2.1 a1).bind fun x0=>
 bif decide (x0<0) then some ((0,0,0,0,0,0,0),4)
 else bif zD x0 a0.2.2.2.2.2.2.2.2.2.2.2.2.1.length then (bif !(decide ((a0.2.2.2.2.2.2.2.2.2.2.2.2.1.getD x0.toNat (0,0,0,0,0,0,0)).2.1=a0.2.2.2.2.2.2.2.2.2.2.2.2.2.2.2.2.1)) then some ((0,0,0,0,0,0,0),4)
  else bif zD x0 a0.2.2.2.2.2.2.2.2.2.2.2.2.1.length then some ((a0.2.2.2.2.2.2.2.2.2.2.2.2.1.getD x0.toNat (0,0,0,0,0,0,0)),0)
  else none)
 else none
def E6 (k:Nat)(a0:List zF)(a1 a2:Int):Option (List zF):=
 bif ((((decide (0 ≤ a1)) && (decide (a1 ≤ a2))) && (decide (a2 ≤ (a0.length : Int)))) && (decide (((a2.toNat : Nat) : Int) ≤ (a0.length : Int)))) && (decide ((a0.length : Int) ≤ (a0.length : Int))) then (bif decide (a1=a2) then some a0
  else bif (decide (0 ≤ a1)) && (decide (a1 ≤ (a0.length : Int))) then (bif (decide (0 ≤ a2)) && (decide (a2 ≤ (a0.length : Int))) then (bif Nat.ble (a1.toNat - 0) (0 + a2.toNat) then (let y0:List zF:=(((List.take (a1.toNat-0) a0)++(qW a0 (0+a2.toNat) (a0.length-a2.toNat)))++(List.drop ((a1.toNat-0)+(a0.length-a2.toNat)) a0))
     bif ((decide (0 ≤ ((qW y0 0 ((a1.toNat - 0) + (a0.length - a2.toNat))).length : Int))) && (decide (((qW y0 0 ((a1.toNat - 0) + (a0.length - a2.toNat))).length : Int) ≤ (a0.length : Int)))) && (decide ((a0.length : Int) ≤ (((y0.length - 0) : Nat) : Int))) then (let y1:List zF:=(((List.take (0+(qW y0 0 ((a1.toNat-0)+(a0.length-a2.toNat))).length) y0)++(List.replicate (a0.length-(qW y0 0 ((a1.toNat-0)+(a0.length-a2.toNat))).length) ((0,0,0,0,0,0,0):Int×Int×Int×Int×Int×Int×Int)))++(List.drop ((0+(qW y0 0 ((a1.toNat-0)+(a0.length-a2.toNat))).length)+(a0.length-(qW y0 0 ((a1.toNat-0)+(a0.length-a2.toNat))).length)) y0))
      some (List.take ((a1.toNat-0)+(a0.length-a2.toNat)) y1))
     else none)
    else none)
   else none)
  else none)
 else none
def mA (k:Nat)(a0:List zF)(a1:Int):Option ((List zF)×Int×Int×Int×Int×Int×Int×Int×Int):=
 (lC k a0 a1).bind fun x0=>
 bif decide (x0<0) then some (a0,0,0,0,0,0,0,0,4)
 else(sr k a0).bind fun x1=>
 (E6 k x1 x0 (zA (x0+1))).bind fun x2=>
 bif zD x0 a0.length then some (x2,(j5 (a0.getD x0.toNat (0,0,0,0,0,0,0)) 0))
 else none
def sH (k:Nat)(a0:wT)(a1:Int)(a2:AC):Option wT:=
 bif zU (a0.2.2.2.2.2.2.2.2.2.2.2.2.2.2.2.2.2.length + 1) 64 then (let y0:List qB:=(a0.2.2.2.2.2.2.2.2.2.2.2.2.2.2.2.2.2++[(a0.2.2.2.2.2.2.2.2.2.2.2.2.2.2.2.2.1,a1,(bif (Nat.blt 0 a2.length) then(a2.getD 0 0) else 0),(bif (Nat.blt 1 a2.length) then(a2.getD 1 0) else 0),(bif (Nat.blt 2 a2.length) then(a2.getD 2 0) else 0),(bif (Nat.blt 3 a2.length) then(a2.getD 3 0) else 0),(bif (Nat.blt 4 a2.length) then(a2.getD 4 0) else 0),(bif (Nat.blt 5 a2.length) then(a2.getD 5 0) else 0))])
  some (VF a0 y0))
 else none
def AZ (k:Nat)(a0:List zF)(a1 a2:Int):Option ((List zF)×Int):=
 (mA k a0 a1).bind fun x0=>
 bif !(decide (x0.2.2.2.2.2.2.2.2=0)) then some (a0,x0.2.2.2.2.2.2.2.2)
 else(ss k x0.1 (lP x0 (a2,x0.2.2.2.2.2.2.1,x0.2.2.2.2.2.2.2.1))).bind fun x1=>
 some (x1.1,x1.2)
def PB (k:Nat)(a0:List zF)(a1:Int):Option ((List zF)×Int×Int×Int×Int×Int×Int×Int×Int):=
 (lC k a0 a1).bind fun x0=>
 bif decide (x0<0) then none
 else(sr k a0).bind fun x1=>
 (E6 k x1 x0 (zA (x0+1))).bind fun x2=>
 bif zD x0 a0.length then some (x2,(j5 (a0.getD x0.toNat (0,0,0,0,0,0,0)) 0))
 else none
abbrev Sc:Type:=Int×(List zF)×zF
abbrev Sa:Type:=Int→List zF→zF→Option Sc
def A3 (k:Nat)(rec:Sa)(s9:Int)(r0:List zF)(b1:zF):Option Sc:=
 bif decide (s9 < (r0.length : Int)) then (bif zD s9 r0.length then ((AV k (r0.getD s9.toNat (0,0,0,0,0,0,0)).1 (r0.getD s9.toNat (0,0,0,0,0,0,0)).2.1 (r0.getD s9.toNat (0,0,0,0,0,0,0)).2.2.1 (r0.getD s9.toNat (0,0,0,0,0,0,0)).2.2.2.1 (r0.getD s9.toNat (0,0,0,0,0,0,0)).2.2.2.2.1 (r0.getD s9.toNat (0,0,0,0,0,0,0)).2.2.2.2.2.1 (r0.getD s9.toNat (0,0,0,0,0,0,0)).2.2.2.2.2.2 b1.1 b1.2.1 b1.2.2.1 b1.2.2.2.1 b1.2.2.2.2.1 b1.2.2.2.2.2.1 b1.2.2.2.2.2.2).bind fun x1=>
   bif decide (x1<0) then(rec (zA (s9+1)) r0 b1)
   else some (s9,r0,b1))
  else none)
 else some (s9,r0,b1)
def A2 (k:Nat):Nat→Sa:=vF (fun _ _ _=>none) (A3 k)
def A4 (k:Nat)(a0:List zF)(a1:Int):Option ((List zF)×Int):=
 (PB k a0 a1).bind fun x0=>
 bif !(decide (x0.2.2.2.2.2.2.2.2=0)) then some (a0,x0.2.2.2.2.2.2.2.2)
 else(A2 k k 0 x0.1 (Fc x0)).bind fun z=>
 (Jd k z.2.1 z.1 [z.2.2]).bind fun x2=>
 some (x2,0)
def A0 (k:Nat)(a0:List zF)(a1:Int):Option ((List zF)×Int):=
 (mA k a0 a1).bind fun x0=>
 bif !(decide (x0.2.2.2.2.2.2.2.2=0)) then some (a0,x0.2.2.2.2.2.2.2.2)
 else(ss k x0.1 (Fc x0)).bind fun x1=>
 some (x1.1,x1.2)
def vn (k:Nat)(a0:wT)(a1:zF):Option (Int×wT):=
 (R7 k a0 a1.2.1).bind fun x0=>
 bif !(decide (x0.2=0)) then some (x0.2,a0)
 else bif decide (a1.1 = 2) then ((mA k a0.2.2.2.2.2.2.2.2.2.2.2.2.1 a1.2.1).bind fun x1=>
  (sH k (mL a0 (x1.1,a0.2.2.2.2.2.2.2.2.2.2.2.2.2)) 20 [a1.2.1]).bind fun x2=>
  some (x1.2.2.2.2.2.2.2.2,x2))
 else bif decide (a1.1 = 4) then ((yS k a1.2.2.1 1 3).bind fun x3=>
  bif !x3 then some (1,a0)
  else(vm k (vS a0) a0.2.2.2.2.2.1 a1.2.2.1).bind fun x4=>
  bif !(decide (x4=0)) then some (x4,a0)
  else(AZ k a0.2.2.2.2.2.2.2.2.2.2.2.2.1 a1.2.1 a1.2.2.1).bind fun x5=>
  some (x5.2,(mL a0 (x5.1,a0.2.2.2.2.2.2.2.2.2.2.2.2.2))))
 else bif decide (a1.2.2.1 = 0) then ((A4 k a0.2.2.2.2.2.2.2.2.2.2.2.2.1 a1.2.1).bind fun x6=>
  some (x6.2,(mL a0 (x6.1,a0.2.2.2.2.2.2.2.2.2.2.2.2.2))))
 else bif decide (a1.2.2.1 = 1) then ((A0 k a0.2.2.2.2.2.2.2.2.2.2.2.2.1 a1.2.1).bind fun x7=>
  some (x7.2,(mL a0 (x7.1,a0.2.2.2.2.2.2.2.2.2.2.2.2.2))))
 else some (1,a0)
def OP (k:Nat)(a0:List zN):Option (List zN):=
 bif zU (0+a0.length) 24 then some a0
 else none
def OM (k:Nat)(a0:EQ):Option Nat:=
 bif zU (0+a0.length) 24 then some a0.length
 else none
abbrev Sd:Type:=EQ→Int→Int→EQ→Nat→Option (EQ×Nat)
def zt (k:Nat)(rec:Sd)(s8:EQ)(s9 av:Int)(m0:EQ)(n0:Nat):Option (EQ×Nat):=
 bif decide (av < s9) then (bif zD av s8.length then ((mr k (s8.getD av.toNat [])).bind fun x1=>
   bif zD av n0 then (bif Nat.beq av.toNat m0.length then(rec s8 s9 (zA (av+1)) (m0++[x1]) n0)
    else none)
   else none)
  else none)
 else some (m0,n0)
def ED (k:Nat):Nat→Sd
 |0,_,_,_,_,_=>none
 |n+1,s8,s9,av,m0,n0=>zt k (ED k n) s8 s9 av m0 n0
def EE (k:Nat)(a0:EQ):Option EQ:=
 (OM k a0).bind fun x0=>
 (ED k k a0 (a0.length:Int) 0 [] x0).bind fun z=>
 NP z.1 z.2
def dM (k:Nat)(aZ:List zN)(bA:EQ)(bz:AC)(bm:EQ):Option Lk:=
 (OP k aZ).bind fun x0=>
 (EE k bA).bind fun x1=>
 (mr k bz).bind fun x2=>
 (EE k bm).bind fun x3=>
 some (x0,x1,x2,x3)
def Sf (k:Nat)(a0:wT)(a1:Int):Option Bool:=
 (yS k a1 0 (zA (a0.1-1))).bind fun x0=>
 bif x0 then some (!(decide (a1=a0.2.2.2.2.2.2.2.2.2.2.2.2.2.2.2.2.1)))
 else some false
def vp (k:Nat)(a0:wT)(a1:zF):Option (Int×wT):=
 (dM k a0.2.2.2.2.2.2.1 a0.2.2.2.2.2.2.2.1 a0.2.2.2.2.2.2.2.2.1 a0.2.2.2.2.2.2.2.2.2.1).bind fun x0=>
 bif decide (a1.1 = 5) then ((Sf k a0 a1.2.1).bind fun x1=>
  bif !x1 then some (1,a0)
  else(yS k a1.2.2.1 (-1) 1152921504606846976).bind fun x2=>
  bif !x2 then some (1,a0)
  else bif zD a0.2.2.2.2.2.2.2.2.2.2.2.2.2.2.2.2.1 x0.2.1.length then (bif zD a1.2.1 (x0.2.1.getD a0.2.2.2.2.2.2.2.2.2.2.2.2.2.2.2.2.1.toNat []).length then (let y0:EQ:=(x0.2.1.set a0.2.2.2.2.2.2.2.2.2.2.2.2.2.2.2.2.1.toNat ((x0.2.1.getD a0.2.2.2.2.2.2.2.2.2.2.2.2.2.2.2.2.1.toNat []).set a1.2.1.toNat a1.2.2.1))
    some (0,(fu a0 (x0.1,y0,x0.2.2.1,x0.2.2.2,a0.2.2.2.2.2.2.2.2.2.2))))
   else none)
  else none)
 else bif decide (a1.1 = 6) then ((yS k a1.2.1 (-1) 1152921504606846976).bind fun x3=>
  bif !x3 then some (1,a0)
  else bif zD a0.2.2.2.2.2.2.2.2.2.2.2.2.2.2.2.2.1 x0.2.2.1.length then (let y1:AC:=(x0.2.2.1.set a0.2.2.2.2.2.2.2.2.2.2.2.2.2.2.2.2.1.toNat a1.2.1)
   some (0,(fu a0 (x0.1,x0.2.1,y1,x0.2.2.2,a0.2.2.2.2.2.2.2.2.2.2))))
  else none)
 else(yS k a1.2.1 0 1152921504606846976).bind fun x4=>
 bif !x4 then some (1,a0)
 else bif zD a0.2.2.2.2.2.2.2.2.2.2.2.2.2.2.2.2.1 x0.1.length then (let y2:List zN:=(x0.1.set a0.2.2.2.2.2.2.2.2.2.2.2.2.2.2.2.2.1.toNat ((x0.1.getD a0.2.2.2.2.2.2.2.2.2.2.2.2.2.2.2.2.1.toNat (0,0,0)).1,(x0.1.getD a0.2.2.2.2.2.2.2.2.2.2.2.2.2.2.2.2.1.toNat (0,0,0)).2.1,a1.2.1))
  some (0,(fu a0 (y2,x0.2.1,x0.2.2.1,x0.2.2.2,a0.2.2.2.2.2.2.2.2.2.2))))
 else none
def Gu (k:Nat)(a0:wT)(a1:Int):Option Bool:=
 (yS k a1 0 (zA ((a0.2.1.length:Int)-1))).bind fun x0=>
 some x0
def BG (k:Nat)(a0:EQ):Option EQ:=
 bif zU (0+a0.length) 24 then some a0
 else none
def mC (k:Nat)(a0:AC)(a1 a2:Int):Option AC:=
 (mr k a0).bind fun x0=>
 bif decide (a1 ≥ 0) then (bif decide (a1 < (x0.length : Int)) then (bif zD a1 x0.length then some (x0.set a1.toNat a2)
   else none)
  else some x0)
 else some x0
def PF (k:Nat)(a0:Int):Option Bool:=
 bif decide (a0≥0) then some (decide (a0≤10000))
 else some false
def Ff (k:Nat)(a0 a1:Int):Option wL:=
 some ((IntKind.wrap .u64 ((IntKind.wrap .u64 ((IntKind.wrap .u64 ((shr .u64 a0 32)*(shr .u64 a1 32)))+(shr .u64 (IntKind.wrap .u64 ((IntKind.wrap .u64 ((shr .u64 a0 32)*(jO .u64 a1 4294967295)))+(shr .u64 (IntKind.wrap .u64 ((jO .u64 a0 4294967295)*(jO .u64 a1 4294967295))) 32))) 32)))+(shr .u64 (IntKind.wrap .u64 ((jO .u64 (IntKind.wrap .u64 ((IntKind.wrap .u64 ((shr .u64 a0 32)*(jO .u64 a1 4294967295)))+(shr .u64 (IntKind.wrap .u64 ((jO .u64 a0 4294967295)*(jO .u64 a1 4294967295))) 32))) 4294967295)+(IntKind.wrap .u64 ((jO .u64 a0 4294967295)*(shr .u64 a1 32))))) 32))),(IntKind.wrap .u64 (a0*a1)))
def qU9 (k:Nat)(a0:Int):Option Int:=
 bif decide (a0 ≥ 4294967296) then (bif decide ((shr .u64 a0 32) ≥ 65536) then (bif decide ((shr .u64 (shr .u64 a0 32) 16)≥256) then none
   else none)
  else bif decide ((shr .u64 a0 32)≥256) then none
  else none)
 else bif decide (a0 ≥ 65536) then (bif decide ((shr .u64 a0 16)≥256) then none
  else none)
 else bif decide (a0≥256) then none
 else none
def qZp (k:Nat)(a0:Int):Option Int:=
 (qU9 k a0).bind fun x0=>
 some (zA (64-x0))
abbrev Si:Type:=Int×Int×Int×Int×Int×Int×Int×Int
abbrev Sh:Type:=Int→Int→Int→Int→Int→Int→Int→Int→Int→Option Si
def yKl (k:Nat)(rec:Sh)(s2 s8 s9 av bK bn bq aO bG:Int):Option Si:=
 bif decide (aO ≥ 4294967296) then (bif decide ((IntKind.wrap .u64 (bG+s9))≥4294967296) then some (s2,s8,s9,av,bK,bn,bq,(IntKind.wrap .u64 (aO-1)))
  else rec s2 s8 s9 av bK bn bq (IntKind.wrap .u64 (aO-1)) (IntKind.wrap .u64 (bG+s9)))
 else bif decide ((IntKind.wrap .u64 (aO * av)) > (IntKind.wrap .u64 ((IntKind.wrap .u64 (4294967296 * bG)) + bn))) then (bif decide ((IntKind.wrap .u64 (bG+s9))≥4294967296) then some (s2,s8,s9,av,bK,bn,bq,(IntKind.wrap .u64 (aO-1)))
  else rec s2 s8 s9 av bK bn bq (IntKind.wrap .u64 (aO-1)) (IntKind.wrap .u64 (bG+s9)))
 else some (s2,s8,s9,av,bK,bn,bq,aO)
def Sj (k:Nat):Nat→Sh:=vF (fun _ _ _ _ _ _ _ _ _=>none) (yKl k)
abbrev Sl:Type:=Int×Int×Int×Int×Int×Int
abbrev Sk:Type:=Int→Int→Int→Int→Int→Int→Int→Int→Int→Option Sl
def qR6 (k:Nat)(rec:Sk)(s2 s8 s9 av bq aO bG aN cS:Int):Option Sl:=
 bif decide (cS ≥ 4294967296) then (bif decide ((IntKind.wrap .u64 (bG+s9))≥4294967296) then some (s2,s8,bq,aO,aN,(IntKind.wrap .u64 (cS-1)))
  else rec s2 s8 s9 av bq aO (IntKind.wrap .u64 (bG+s9)) aN (IntKind.wrap .u64 (cS-1)))
 else bif decide ((IntKind.wrap .u64 (cS * av)) > (IntKind.wrap .u64 ((IntKind.wrap .u64 (4294967296 * bG)) + bq))) then (bif decide ((IntKind.wrap .u64 (bG+s9))≥4294967296) then some (s2,s8,bq,aO,aN,(IntKind.wrap .u64 (cS-1)))
  else rec s2 s8 s9 av bq aO (IntKind.wrap .u64 (bG+s9)) aN (IntKind.wrap .u64 (cS-1)))
 else some (s2,s8,bq,aO,aN,cS)
def Sm (k:Nat):Nat→Sk:=vF (fun _ _ _ _ _ _ _ _ _=>none) (qR6 k)
def Jj (k:Nat)(a0 a1 a2:Int):Option wL:=
 bif decide (a2=0) then none
 else bif decide (a2≤a0) then none
 else bif decide (a0 = 0) then (bif !(decide (a2 = 0)) then (bif !(decide (a2=0)) then some ((IntKind.wrap .u64 (Int.tdiv a1 a2)),(Int.tmod a1 a2))
   else none)
  else none)
 else(qZp k a2).bind fun x0=>
 bif !(decide ((IntKind.wrap .u64 (x0)) < 0)) then (bif !(decide ((IntKind.wrap .u64 (x0)) < 0)) then (bif !(decide ((IntKind.wrap .u64 (64 - (IntKind.wrap .u64 (x0)))) < 0)) then (bif !(decide ((IntKind.wrap .u64 (x0)) < 0)) then (bif !(decide ((shr .u64 (shl .u64 a2 (IntKind.wrap .u64 (x0))) 32) = 0)) then ((Sj k k (shl .u64 a2 (IntKind.wrap .u64 (x0))) (IntKind.wrap .u64 (x0)) (shr .u64 (shl .u64 a2 (IntKind.wrap .u64 (x0))) 32) (jO .u64 (shl .u64 a2 (IntKind.wrap .u64 (x0))) 4294967295) (fP .u64 (shl .u64 a0 (IntKind.wrap .u64 (x0))) (shr .u64 a1 (IntKind.wrap .u64 (64-(IntKind.wrap .u64 (x0)))))) (shr .u64 (shl .u64 a1 (IntKind.wrap .u64 (x0))) 32) (jO .u64 (shl .u64 a1 (IntKind.wrap .u64 (x0))) 4294967295) (IntKind.wrap .u64 (Int.tdiv (fP .u64 (shl .u64 a0 (IntKind.wrap .u64 (x0))) (shr .u64 a1 (IntKind.wrap .u64 (64-(IntKind.wrap .u64 (x0)))))) (shr .u64 (shl .u64 a2 (IntKind.wrap .u64 (x0))) 32))) (IntKind.wrap .u64 ((fP .u64 (shl .u64 a0 (IntKind.wrap .u64 (x0))) (shr .u64 a1 (IntKind.wrap .u64 (64-(IntKind.wrap .u64 (x0))))))-(IntKind.wrap .u64 ((IntKind.wrap .u64 (Int.tdiv (fP .u64 (shl .u64 a0 (IntKind.wrap .u64 (x0))) (shr .u64 a1 (IntKind.wrap .u64 (64-(IntKind.wrap .u64 (x0)))))) (shr .u64 (shl .u64 a2 (IntKind.wrap .u64 (x0))) 32)))*(shr .u64 (shl .u64 a2 (IntKind.wrap .u64 (x0))) 32)))))).bind fun z=>
      bif !(decide (z.2.2.1 = 0)) then ((Sm k k z.1 z.2.1 z.2.2.1 z.2.2.2.1 z.2.2.2.2.2.2.1 z.2.2.2.2.2.2.2 (IntKind.wrap .u64 ((IntKind.wrap .u64 ((IntKind.wrap .u64 ((IntKind.wrap .u64 (z.2.2.2.2.1*4294967296))+z.2.2.2.2.2.1))-(IntKind.wrap .u64 (z.2.2.2.2.2.2.2*z.1))))-(IntKind.wrap .u64 ((IntKind.wrap .u64 (Int.tdiv (IntKind.wrap .u64 ((IntKind.wrap .u64 ((IntKind.wrap .u64 (z.2.2.2.2.1*4294967296))+z.2.2.2.2.2.1))-(IntKind.wrap .u64 (z.2.2.2.2.2.2.2*z.1)))) z.2.2.1))*z.2.2.1)))) (IntKind.wrap .u64 ((IntKind.wrap .u64 ((IntKind.wrap .u64 (z.2.2.2.2.1*4294967296))+z.2.2.2.2.2.1))-(IntKind.wrap .u64 (z.2.2.2.2.2.2.2*z.1)))) (IntKind.wrap .u64 (Int.tdiv (IntKind.wrap .u64 ((IntKind.wrap .u64 ((IntKind.wrap .u64 (z.2.2.2.2.1*4294967296))+z.2.2.2.2.2.1))-(IntKind.wrap .u64 (z.2.2.2.2.2.2.2*z.1)))) z.2.2.1))).bind fun z1=>
       bif !(decide (z1.2.1<0)) then some ((IntKind.wrap .u64 ((IntKind.wrap .u64 (z1.2.2.2.1*4294967296))+z1.2.2.2.2.2)),(shr .u64 (IntKind.wrap .u64 ((IntKind.wrap .u64 ((IntKind.wrap .u64 (z1.2.2.2.2.1*4294967296))+z1.2.2.1))-(IntKind.wrap .u64 (z1.2.2.2.2.2*z1.1)))) z1.2.1))
       else none)
      else none)
     else none)
    else none)
   else none)
  else none)
 else none
def Jk (k:Nat)(a0 a1 a2:Int):Option (Int×Bool):=
 bif decide (a0<0) then some (0,false)
 else bif decide (a1<0) then some (0,false)
 else(PF k a2).bind fun x0=>
 bif !x0 then some (0,false)
 else(Ff k (IntKind.wrap .u64 (a0)) (IntKind.wrap .u64 (a1))).bind fun x1=>
 (Jj k (Int.tmod x1.1 10000) x1.2 10000).bind fun x2=>
 (Ff k x2.1 (IntKind.wrap .u64 ((zA (10000-a2))))).bind fun x3=>
 (yl k x3.2 (IntKind.wrap .u64 (Int.tdiv (IntKind.wrap .u64 (x2.2*(IntKind.wrap .u64 ((zA (10000-a2)))))) 10000)) 0).bind fun x4=>
 bif decide ((IntKind.wrap .u64 (Int.tdiv x1.1 10000)) > 0) then (bif decide ((IntKind.wrap .u64 ((zA (10000-a2))))>0) then some (0,false)
  else bif decide ((IntKind.wrap .u64 (x3.1+x4.2))>0) then some (0,false)
  else bif decide (x4.1>9223372036854775807) then some (0,false)
  else some ((zA (x4.1)),true))
 else bif decide ((IntKind.wrap .u64 (x3.1+x4.2))>0) then some (0,false)
 else bif decide (x4.1>9223372036854775807) then some (0,false)
 else some ((zA (x4.1)),true)
abbrev Sp:Type:=Int→Int→AC→Int→Int→Option wL
def yo (k:Nat)(rec:Sp)(s4 s5:Int)(s9:AC)(av bK:Int):Option wL:=
 bif decide (bK < av) then (bif zD bK s9.length then ((yl k s5 (IntKind.wrap .u64 ((s9.getD bK.toNat 0))) 0).bind fun x0=>
   rec (zA (s4+(zA ((shr .i64 (s9.getD bK.toNat 0) 63)+(zA (x0.2)))))) x0.1 s9 av (zA (bK+1)))
  else none)
 else some (s4,s5)
def yn (k:Nat):Nat→Sp
 |0,_,_,_,_,_=>none
 |n+1,s4,s5,s9,av,bK=>yo k (yn k n) s4 s5 s9 av bK
def uE (k:Nat)(a0:AC):Option (Int×Bool):=
 (yn k k 0 0 a0 (a0.length:Int) 0).bind fun z=>
 bif !(decide (z.1=(shr .i64 (zA (z.2)) 63))) then some (0,false)
 else some ((zA (z.2)),true)
abbrev Sr:Type:=AC→AC→List wL→Int→Int→AC→Option (AC⊕(Int×Bool))
def Ba (k:Nat)(rec:Sr)(s1 s2:AC)(dB:List wL)(aG dg:Int)(r0:AC):Option (AC⊕(Int×Bool)):=
 bif decide (dg < aG) then (bif zD dg dB.length then (bif zD dg s1.length then (bif zD dg s2.length then ((Jk k (s1.getD dg.toNat 0) (s2.getD dg.toNat 0) (dB.getD dg.toNat (0,0)).2).bind fun x0=>
     bif !x0.2 then some (.inr (0,false))
     else bif zU (r0.length+1) 8 then(rec s1 s2 dB aG (zA (dg+1)) (r0++[x0.1]))
     else none)
    else none)
   else none)
  else none)
 else some (.inl r0)
def A9 (k:Nat):Nat→Sr:=vF (fun _ _ _ _ _ _=>none) (Ba k)
def nQ (k:Nat)(a0:List wL)(a1 a2:AC):Option (Int×Bool):=
 bif !(decide ((a1.length:Int)=(a0.length:Int))) then some (0,false)
 else bif !(decide ((a2.length:Int)=(a0.length:Int))) then some (0,false)
 else(A9 k k a1 a2 a0 (a0.length:Int) 0 []).bind fun z=>
 match z with
 |.inl z1=>(uE k z1).bind fun x1=>
  some (x1.1,x1.2)
 |.inr z2=>some (z2.1,z2.2)
def JI (k:Nat)(a0:wT)(a1 a2:Int):Option (Int×wT):=
 (Gu k a0 a1).bind fun x0=>
 bif !x0 then some (1,a0)
 else(yS k a2 0 1099511627776).bind fun x1=>
 bif !x1 then some (1,a0)
 else(BG k a0.2.2.2.2.2.2.2.2.2.2.2.1).bind fun x2=>
 bif zD a0.2.2.2.2.2.2.2.2.2.2.2.2.2.2.2.2.1 x2.length then ((mC k (x2.getD a0.2.2.2.2.2.2.2.2.2.2.2.2.2.2.2.2.1.toNat []) a1 a2).bind fun x3=>
  bif zD a0.2.2.2.2.2.2.2.2.2.2.2.2.2.2.2.2.1 x2.length then (let y0:EQ:=(x2.set a0.2.2.2.2.2.2.2.2.2.2.2.2.2.2.2.2.1.toNat x3)
   bif zD a0.2.2.2.2.2.2.2.2.2.2.2.2.2.2.2.2.1 y0.length then ((nQ k a0.2.1 a0.2.2.2.2.2.2.2.2.2.2.1 (y0.getD a0.2.2.2.2.2.2.2.2.2.2.2.2.2.2.2.2.1.toNat [])).bind fun x4=>
    bif zD a0.2.2.2.2.2.2.2.2.2.2.2.2.2.2.2.2.1 a0.2.2.2.2.2.2.1.length then (bif !x4.2 then some (8,a0)
     else bif decide (x4.1>1152921504606846976) then some (8,a0)
     else bif decide (x4.1 < (a0.2.2.2.2.2.2.1.getD a0.2.2.2.2.2.2.2.2.2.2.2.2.2.2.2.2.1.toNat (0, 0, 0)).2.1) then (bif decide ((zA ((a0.2.2.2.2.2.2.1.getD a0.2.2.2.2.2.2.2.2.2.2.2.2.2.2.2.2.1.toNat (0,0,0)).1+x4.1))<0) then some (9,a0)
      else(dM k a0.2.2.2.2.2.2.1 a0.2.2.2.2.2.2.2.1 a0.2.2.2.2.2.2.2.2.1 a0.2.2.2.2.2.2.2.2.2.1).bind fun x5=>
      bif zD a0.2.2.2.2.2.2.2.2.2.2.2.2.2.2.2.2.1 x5.1.length then (let y1:List zN:=(x5.1.set a0.2.2.2.2.2.2.2.2.2.2.2.2.2.2.2.2.1.toNat ((x5.1.getD a0.2.2.2.2.2.2.2.2.2.2.2.2.2.2.2.2.1.toNat (0,0,0)).1,x4.1,(x5.1.getD a0.2.2.2.2.2.2.2.2.2.2.2.2.2.2.2.2.1.toNat (0,0,0)).2.2))
       some (0,(fu a0 (y1,x5.2.1,x5.2.2.1,x5.2.2.2,a0.2.2.2.2.2.2.2.2.2.2.1,y0,a0.2.2.2.2.2.2.2.2.2.2.2.2))))
      else none)
     else(dM k a0.2.2.2.2.2.2.1 a0.2.2.2.2.2.2.2.1 a0.2.2.2.2.2.2.2.2.1 a0.2.2.2.2.2.2.2.2.2.1).bind fun x6=>
     bif zD a0.2.2.2.2.2.2.2.2.2.2.2.2.2.2.2.2.1 x6.1.length then (let y2:List zN:=(x6.1.set a0.2.2.2.2.2.2.2.2.2.2.2.2.2.2.2.2.1.toNat ((x6.1.getD a0.2.2.2.2.2.2.2.2.2.2.2.2.2.2.2.2.1.toNat (0,0,0)).1,x4.1,(x6.1.getD a0.2.2.2.2.2.2.2.2.2.2.2.2.2.2.2.2.1.toNat (0,0,0)).2.2))
      some (0,(fu a0 (y2,x6.2.1,x6.2.2.1,x6.2.2.2,a0.2.2.2.2.2.2.2.2.2.2.1,y0,a0.2.2.2.2.2.2.2.2.2.2.2.2))))
     else none)
    else none)
   else none)
  else none)
 else none
def JJ (k:Nat)(a0 a1:Int):Option (Int×Bool):=
 bif decide (a1 > 0) then (bif decide (a0>(zA (9223372036854775807-a1))) then some (0,false)
  else bif decide (a1 < 0) then (bif decide (a0<(zA ((-9223372036854775808)-a1))) then some (0,false)
   else some ((zA (a0+a1)),true))
  else some ((zA (a0+a1)),true))
 else bif decide (a1 < 0) then (bif decide (a0<(zA ((-9223372036854775808)-a1))) then some (0,false)
  else some ((zA (a0+a1)),true))
 else some ((zA (a0+a1)),true)
def Ir (k:Nat)(pY pZ lS:Int):Option Bool:=
 bif decide (pY > (-4611686018427387904)) then (bif decide (pY < 4611686018427387904) then (bif decide (pZ ≥ 0) then (bif decide (pZ ≤ 2305843009213693952) then (bif decide (lS≥0) then some (decide (lS≤2305843009213693952))
     else some false)
    else some false)
   else some false)
  else some false)
 else some false
def FC (k:Nat)(a0:zN)(a1:Int):Option (zN×Int):=
 (JJ k a0.1 a1).bind fun x0=>
 bif !x0.2 then some (a0,8)
 else(Ir k x0.1 a0.2.1 a0.2.2).bind fun x1=>
 bif !x1 then some (a0,8)
 else some ((x0.1,a0.2),0)
def BJ (k:Nat)(a0:zN)(a1:Int):Option (zN×Int):=
 (FC k a0 a1).bind fun x0=>
 some (x0.1,x0.2)
def sj (k:Nat)(pY pZ lS a1:Int):Option Int:=
 some (vV false (zA (lS-a1)) 0)
def BK (k:Nat)(a0:zN)(a1 a2:Int):Option (zN×Int):=
 (FC k a0 (zA (0-a1))).bind fun x0=>
 bif decide (x0.2 = 0) then (bif decide (a2 = 1) then ((sj k a0.1 a0.2.1 a0.2.2 a1).bind fun x1=>
   some ((x0.1.1,x0.1.2.1,x1),x0.2))
  else bif decide (a2 = 2) then ((sj k a0.1 a0.2.1 a0.2.2 a1).bind fun x2=>
   some ((x0.1.1,x0.1.2.1,x2),x0.2))
  else some (x0.1,x0.2))
 else some (x0.1,x0.2)
def BL (k:Nat)(a0:zN)(a1:Int):Option Int:=
 bif decide (a1=3) then some (zA ((zA (a0.1+a0.2.1))-a0.2.2))
 else some (zA (a0.1+a0.2.1))
def Su (k:Nat)(a0:wT)(a1 a2 a3:Int):Option (Int×wT):=
 (yS k a2 0 (zA (a0.1-1))).bind fun x0=>
 bif !x0 then some (1,a0)
 else(yS k a3 1 1099511627776).bind fun x1=>
 bif !x1 then some (1,a0)
 else bif zD a2 a0.2.2.2.2.2.2.1.length then ((BJ k (a0.2.2.2.2.2.2.1.getD a2.toNat (0,0,0)) a3).bind fun x2=>
  bif decide (a1 = 11) then ((BK k (a0.2.2.2.2.2.2.1.getD a2.toNat (0,0,0)) a3 3).bind fun x3=>
   (BL k (a0.2.2.2.2.2.2.1.getD a2.toNat (0,0,0)) 3).bind fun x4=>
   bif decide (x4<a3) then some (9,a0)
   else bif decide ((zA (a0.2.2.2.2.2.2.2.2.2.2.2.2.2.2.1-a3))<0) then some (9,a0)
   else bif !(decide (x3.2=0)) then some (x3.2,a0)
   else bif decide ((zA (a0.2.2.2.2.2.2.2.2.2.2.2.2.2.2.1-a3))>1152921504606846976) then some (8,a0)
   else(dM k a0.2.2.2.2.2.2.1 a0.2.2.2.2.2.2.2.1 a0.2.2.2.2.2.2.2.2.1 a0.2.2.2.2.2.2.2.2.2.1).bind fun x5=>
   bif zD a2 x5.1.length then some (0,(fu a0 ((x5.1.set a2.toNat x3.1),x5.2.1,x5.2.2.1,x5.2.2.2,(Ll a0 ((zA (a0.2.2.2.2.2.2.2.2.2.2.2.2.2.2.1-a3)),a0.2.2.2.2.2.2.2.2.2.2.2.2.2.2.2)))))
   else none)
  else bif !(decide (x2.2=0)) then some (x2.2,a0)
  else bif decide ((zA (a0.2.2.2.2.2.2.2.2.2.2.2.2.2.2.1+a3))>1152921504606846976) then some (8,a0)
  else(dM k a0.2.2.2.2.2.2.1 a0.2.2.2.2.2.2.2.1 a0.2.2.2.2.2.2.2.2.1 a0.2.2.2.2.2.2.2.2.2.1).bind fun x6=>
  bif zD a2 x6.1.length then some (0,(fu a0 ((x6.1.set a2.toNat x2.1),x6.2.1,x6.2.2.1,x6.2.2.2,(Ll a0 ((zA (a0.2.2.2.2.2.2.2.2.2.2.2.2.2.2.1+a3)),a0.2.2.2.2.2.2.2.2.2.2.2.2.2.2.2)))))
  else none)
 else none
abbrev Sy:Type:=(il×(List qB)×AC×(List zN)×EQ×AC×EQ)⊕(Int×il×(List qB))
abbrev Sw:Type:=EQ→Int→Int→il→List qB→AC→List zN→EQ→AC→EQ→Option Sy
def qXa (k:Nat)(rec:Sw)(dR:EQ)(fy gM:Int)(b0:il)(r1:List qB)(r2:AC)(r4:List zN)(m5:EQ)(r6:AC)(m7:EQ):Option Sy:=
 bif decide (gM < fy) then (bif zD gM dR.length then ((nQ k b0.2.1 r2 (dR.getD gM.toNat [])).bind fun x4=>
   bif !x4.2 then some (.inr (8,b0,r1))
   else bif decide (x4.1>1152921504606846976) then some (.inr (8,b0,r1))
   else bif zD gM r4.length then (let y0:List zN:=(r4.set gM.toNat ((r4.getD gM.toNat (0,0,0)).1,x4.1,(r4.getD gM.toNat (0,0,0)).2.2))
    rec dR fy (zA (gM+1)) b0 r1 r2 y0 m5 r6 m7)
   else none)
  else none)
 else some (.inl (b0,r1,r2,r4,m5,r6,m7))
def Sz (k:Nat):Nat→Sw:=vF (fun _ _ _ _ _ _ _ _ _ _=>none) (qXa k)
def yMu (k:Nat)(a0:wT)(a1 a2:Int):Option (Int×wT):=
 (Gu k a0 a1).bind fun x0=>
 bif !x0 then some (1,a0)
 else(yS k a2 0 1048576).bind fun x1=>
 bif !x1 then some (1,a0)
 else(mC k a0.2.2.2.2.2.2.2.2.2.2.1 a1 a2).bind fun x2=>
 (dM k a0.2.2.2.2.2.2.1 a0.2.2.2.2.2.2.2.1 a0.2.2.2.2.2.2.2.2.1 a0.2.2.2.2.2.2.2.2.2.1).bind fun x3=>
 (Sz k k a0.2.2.2.2.2.2.2.2.2.2.2.1 (a0.2.2.2.2.2.2.2.2.2.2.2.1.length:Int) 0 (ig a0) a0.2.2.2.2.2.2.2.2.2.2.2.2.2.2.2.2.2 x2 x3.1 x3.2.1 x3.2.2.1 x3.2.2.2).bind fun z=>
 match z with
 |.inl z1=>some (0,(fu z1.1 (yS7 z1 (z1.2.2.1,(P6 z1.1 z1.2.1)))))
 |.inr z2=>some (z2.1,(vB z2.2.1 z2.2.2))
def JR (k:Nat)(a0:wT)(a1:zF):Option (Int×wT):=
 bif decide (a1.1 = 1) then ((JH k a0 a1.2).bind fun x0=>
  some (x0.1,x0.2))
 else bif decide (a1.1 = 2) then ((vn k a0 a1).bind fun x1=>
  some (x1.1,x1.2))
 else bif decide (a1.1 = 3) then ((vn k a0 a1).bind fun x2=>
  some (x2.1,x2.2))
 else bif decide (a1.1 = 4) then ((vn k a0 a1).bind fun x3=>
  some (x3.1,x3.2))
 else bif decide (a1.1 = 5) then ((vp k a0 a1).bind fun x4=>
  some (x4.1,x4.2))
 else bif decide (a1.1 = 6) then ((vp k a0 a1).bind fun x5=>
  some (x5.1,x5.2))
 else bif decide (a1.1 = 7) then ((vp k a0 a1).bind fun x6=>
  some (x6.1,x6.2))
 else bif decide (a1.1 = 8) then ((JI k a0 a1.2.1 a1.2.2.1).bind fun x7=>
  some (x7.1,x7.2))
 else bif decide (a1.1 = 10) then ((Su k a0 a1.1 a1.2.1 a1.2.2.1).bind fun x8=>
  some (x8.1,x8.2))
 else bif decide (a1.1 = 11) then ((Su k a0 a1.1 a1.2.1 a1.2.2.1).bind fun x9=>
  some (x9.1,x9.2))
 else bif decide (a1.1 = 12) then ((yMu k a0 a1.2.1 a1.2.2.1).bind fun dA=>
  some (dA.1,dA.2))
 else some (0,a0)
def BC (k:Nat)(Ln:Int)(Lp:List wL)(Lq CD CE a1:Int):Option Bool:=
 some (decide (a1=CD))
def mD (k:Nat)(a0 a1:Int)(a2:AC):Option qB:=
 some (a0,a1,(bif (Nat.blt 0 a2.length) then(a2.getD 0 0) else 0),(bif (Nat.blt 1 a2.length) then(a2.getD 1 0) else 0),(bif (Nat.blt 2 a2.length) then(a2.getD 2 0) else 0),(bif (Nat.blt 3 a2.length) then(a2.getD 3 0) else 0),(bif (Nat.blt 4 a2.length) then(a2.getD 4 0) else 0),(bif (Nat.blt 5 a2.length) then(a2.getD 5 0) else 0))
abbrev SB:Type:=Int×(List zN)×EQ×AC×EQ×AC×EQ×(List zF)×AC×Int×Bool×Int×Int×Bool×(List qB)
abbrev SA:Type:=List zF→Int→Int→Int→List zN→EQ→AC→EQ→AC→EQ→List zF→AC→Int→Bool→Int→Int→Bool→List qB→Option SB
def Bx (k:Nat)(rec:SA)(av:List zF)(bK bV aa:Int)(ae:List zN)(ag:EQ)(ab:AC)(aW:EQ)(bb:AC)(bc:EQ)(cH:List zF)(cI:AC)(cJ:Int)(bH:Bool)(au bj:Int)(aL:Bool)(r2:List qB):Option SB:=
 bif decide (bV < bK) then (bif zD bV av.length then ((mD k (av.getD bV.toNat (0,0,0,0,0,0,0)).2.1 22 [(av.getD bV.toNat (0,0,0,0,0,0,0)).1]).bind fun x0=>
   bif zU (r2.length+1) 64 then(rec av bK (zA (bV+1)) aa ae ag ab aW bb bc cH cI cJ bH au bj aL (r2++[x0]))
   else none)
  else none)
 else some (aa,ae,ag,ab,aW,bb,bc,cH,cI,cJ,bH,au,bj,aL,r2)
def Bw (k:Nat):Nat→SA
 |0,_,_,_,_,_,_,_,_,_,_,_,_,_,_,_,_,_,_=>none
 |n+1,av,bK,bV,aa,ae,ag,ab,aW,bb,bc,cH,cI,cJ,bH,au,bj,aL,r2=>Bx k (Bw k n) av bK bV aa ae ag ab aW bb bc cH cI cJ bH au bj aL r2
abbrev SD:Type:=Int×(List zN)×EQ×AC×EQ×AC×EQ×(List zF)×AC×Int×Bool×Int×Int×Bool×(List qB)
abbrev SC:Type:=List zN→Int→Int→Int→List zN→EQ→AC→EQ→AC→EQ→List zF→AC→Int→Bool→Int→Int→Bool→List qB→Option SD
def Bz (k:Nat)(rec:SC)(ir:List zN)(dh iY aa:Int)(ae:List zN)(ag:EQ)(ab:AC)(aW:EQ)(bb:AC)(bc:EQ)(cH:List zF)(cI:AC)(cJ:Int)(bH:Bool)(au bj:Int)(aL:Bool)(r2:List qB):Option SD:=
 bif decide (iY < dh) then (bif zD iY ir.length then ((mD k iY 23 [(ir.getD iY.toNat (0,0,0)).1]).bind fun x1=>
   bif zU (r2.length+1) 64 then(rec ir dh (zA (iY+1)) aa ae ag ab aW bb bc cH cI cJ bH au bj aL (r2++[x1]))
   else none)
  else none)
 else some (aa,ae,ag,ab,aW,bb,bc,cH,cI,cJ,bH,au,bj,aL,r2)
def By (k:Nat):Nat→SC
 |0,_,_,_,_,_,_,_,_,_,_,_,_,_,_,_,_,_,_=>none
 |n+1,ir,dh,iY,aa,ae,ag,ab,aW,bb,bc,cH,cI,cJ,bH,au,bj,aL,r2=>Bz k (By k n) ir dh iY aa ae ag ab aW bb bc cH cI cJ bH au bj aL r2
def JE (k:Nat)(Lr:Int)(VL:List zN)(VM:EQ)(VN:AC)(VO:EQ)(VP:AC)(VQ:EQ)(GH:List zF)(VR:AC)(VT:Int)(VU:Bool):Option VD:=
 (Bw k k GH (GH.length:Int) 0 Lr VL VM VN VO VP VQ GH VR VT VU 0 0 false []).bind fun z=>
 (By k k z.2.1 (z.2.1.length:Int) 0 z.1 z.2.1 z.2.2.1 z.2.2.2.1 z.2.2.2.2.1 z.2.2.2.2.2.1 z.2.2.2.2.2.2.1 z.2.2.2.2.2.2.2.1 z.2.2.2.2.2.2.2.2.1 z.2.2.2.2.2.2.2.2.2.1 z.2.2.2.2.2.2.2.2.2.2.1 z.2.2.2.2.2.2.2.2.2.2.2.1 z.2.2.2.2.2.2.2.2.2.2.2.2.1 z.2.2.2.2.2.2.2.2.2.2.2.2.2.1 z.2.2.2.2.2.2.2.2.2.2.2.2.2.2).bind fun z1=>
 some (Cw z1 ([],z1.2.2.2.2.2.2.2.2.1,z1.2.2.2.2.2.2.2.2.2.1,true,z1.2.2.2.2.2.2.2.2.2.2.2.2.2.2))
def P2 (k:Nat)(gK cp cM iq fe gL fY a1:Int):Option Bool:=
 some (decide (a1>fY))
def JF (k:Nat)(Ln:Int)(Lp:List wL)(Lq CD CE a1:Int):Option Bool:=
 bif decide (a1 > 0) then (bif decide (a1 < CD) then (bif !(decide (CE=0)) then some (decide ((Int.tmod a1 CE)=0))
   else none)
  else some false)
 else some false
def Pl (k:Nat)(gK cp cM iq fe gL fY a1:Int):Option Bool:=
 bif decide (a1≥gL) then some (decide (a1≤fY))
 else some false
def Pk (k:Nat)(gK cp cM iq fe gL fY a1:Int):Option Bool:=
 (Pl k gK cp cM iq fe gL fY a1).bind fun x0=>
 some x0
abbrev SH:Type:=List zF
abbrev SF:Type:=List zF→Int→Int→Int→List zF→Option SH
def AL (k:Nat)(rec:SF)(s8:List zF)(s9 av aa:Int)(r1:List zF):Option SH:=
 bif decide (av < s9) then (bif zD av s8.length then ((Pk k (s8.getD av.toNat (0,0,0,0,0,0,0)).1 (s8.getD av.toNat (0,0,0,0,0,0,0)).2.1 (s8.getD av.toNat (0,0,0,0,0,0,0)).2.2.1 (s8.getD av.toNat (0,0,0,0,0,0,0)).2.2.2.1 (s8.getD av.toNat (0,0,0,0,0,0,0)).2.2.2.2.1 (s8.getD av.toNat (0,0,0,0,0,0,0)).2.2.2.2.2.1 (s8.getD av.toNat (0,0,0,0,0,0,0)).2.2.2.2.2.2 aa).bind fun x0=>
   bif x0 then (bif zU (r1.length + 1) 56 then (let y0:List zF:=(r1++[(s8.getD av.toNat (0,0,0,0,0,0,0))])
     rec s8 s9 (zA (av+1)) aa y0)
    else none)
   else rec s8 s9 (zA (av+1)) aa r1)
  else none)
 else some r1
def E3 (k:Nat):Nat→SF
 |0,_,_,_,_,_=>none
 |n+1,s8,s9,av,aa,r1=>AL k (E3 k n) s8 s9 av aa r1
def Pj (k:Nat)(a0:List zF)(cf:Int):Option (List zF):=
 (E3 k k a0 (a0.length:Int) 0 cf []).bind fun z=>
 some z
def AK (k:Nat)(a0:List zF)(a1:Int):Option (List zF):=
 (Pj k a0 a1).bind fun x0=>
 some x0
def Po (k:Nat)(gK cp cM iq fe gL fY VI mM pX wu tn VJ VK:Int):Option Bool:=
 bif decide (cp=mM) then some (!(decide (fe=3)))
 else some false
abbrev SI:Type:=List zF→Int→Int→Int→Int→Int→Int→Int→Int→Int→Option (Unit⊕Int)
def AN (k:Nat)(rec:SI)(s0:List zF)(s7 s8 aa ae ag ab aW bb bc:Int):Option (Unit⊕Int):=
 bif decide (s8 < s7) then (bif zD s8 s0.length then ((Po k (s0.getD s8.toNat (0,0,0,0,0,0,0)).1 (s0.getD s8.toNat (0,0,0,0,0,0,0)).2.1 (s0.getD s8.toNat (0,0,0,0,0,0,0)).2.2.1 (s0.getD s8.toNat (0,0,0,0,0,0,0)).2.2.2.1 (s0.getD s8.toNat (0,0,0,0,0,0,0)).2.2.2.2.1 (s0.getD s8.toNat (0,0,0,0,0,0,0)).2.2.2.2.2.1 (s0.getD s8.toNat (0,0,0,0,0,0,0)).2.2.2.2.2.2 aa ae ag ab aW bb bc).bind fun x0=>
   bif x0 then some (.inr s8)
   else rec s0 s7 (zA (s8+1)) aa ae ag ab aW bb bc)
  else none)
 else some (.inl ())
def AM (k:Nat):Nat→SI
 |0,_,_,_,_,_,_,_,_,_,_=>none
 |n+1,s0,s7,s8,aa,ae,ag,ab,aW,bb,bc=>AN k (AM k n) s0 s7 s8 aa ae ag ab aW bb bc
def Pp (k:Nat)(a0:List zF)(VV VW VX VY VZ V0 V1:Int):Option Int:=
 (AM k k a0 (a0.length:Int) 0 VV VW VX VY VZ V0 V1).bind fun z=>
 match z with
 |.inl z1=>some (-1)
 |.inr z2=>some z2
def I7 (k:Nat)(a0:List zF)(VV VW VX VY VZ V0 V1:Int):Option Bool:=
 (Pp k a0 VV VW VX VY VZ V0 V1).bind fun x0=>
 some (decide (x0≥0))
def Pr (k:Nat)(gK cp cM iq fe gL fY:Int)(a1:List (Int×Bool))(a2:List zF):Option (Bool×(List (Int×Bool))):=
 bif !(Option.getD (List.lookup cp a1) false) then some (true,((cp,true)::a1))
 else bif decide (fe = 3) then ((I7 k a2 gK cp cM iq fe gL fY).bind fun x0=>
  some ((!x0),((cp,true)::a1)))
 else some (false,((cp,true)::a1))
abbrev SO:Type:=(List (Int×Bool))×(List zF)×(List zF)
abbrev SM:Type:=List zF→Int→Int→List (Int×Bool)→List zF→List zF→Option SO
def AP (k:Nat)(rec:SM)(s8:List zF)(s9 av:Int)(p1:List (Int×Bool))(bE r3:List zF):Option SO:=
 bif decide (av < s9) then (bif zD av s8.length then ((Pr k (s8.getD av.toNat (0,0,0,0,0,0,0)).1 (s8.getD av.toNat (0,0,0,0,0,0,0)).2.1 (s8.getD av.toNat (0,0,0,0,0,0,0)).2.2.1 (s8.getD av.toNat (0,0,0,0,0,0,0)).2.2.2.1 (s8.getD av.toNat (0,0,0,0,0,0,0)).2.2.2.2.1 (s8.getD av.toNat (0,0,0,0,0,0,0)).2.2.2.2.2.1 (s8.getD av.toNat (0,0,0,0,0,0,0)).2.2.2.2.2.2 p1 bE).bind fun x0=>
   bif x0.1 then (bif zU (r3.length + 1) 56 then (let y0:List zF:=(r3++[(s8.getD av.toNat (0,0,0,0,0,0,0))])
     rec s8 s9 (zA (av+1)) x0.2 bE y0)
    else none)
   else rec s8 s9 (zA (av+1)) x0.2 bE r3)
  else none)
 else some (p1,bE,r3)
def AO (k:Nat):Nat→SM
 |0,_,_,_,_,_,_=>none
 |n+1,s8,s9,av,p1,bE,r3=>AP k (AO k n) s8 s9 av p1 bE r3
def Pq (k:Nat)(a0:List zF)(cf:List (Int×Bool))(V2:List zF):Option ((List zF)×(List (Int×Bool))):=
 (AO k k a0 (a0.length:Int) 0 cf V2 []).bind fun z=>
 some (z.2.2,z.1)
def E5 (k:Nat)(a0:List zF)(a1:Int):Option (List zF):=
 (AK k a0 a1).bind fun x0=>
 (Pq k x0 [] x0).bind fun x1=>
 some x1.1
def zu (k:Nat)(aZ:List zN)(bA:EQ)(bz:AC)(bm:EQ)(VI mM pX wu tn VJ VK:Int):Option Bool:=
 bif decide (mM ≥ 0) then (bif decide (mM < (aZ.length : Int)) then (bif decide (pX ≥ 0) then (bif decide (pX < (aZ.length : Int)) then (bif !(decide (mM = pX)) then (bif decide (wu ≥ 1) then (bif decide (wu ≤ 1099511627776) then (bif decide (tn≥1) then some (decide (tn≤3))
        else some false)
       else some false)
      else some false)
     else some false)
    else some false)
   else some false)
  else some false)
 else some false
def Pf (k:Nat)(gK cp cM iq fe gL fY:Int)(iZ:List zN)(wv:EQ)(wx:AC)(tp:EQ):Option Bool:=
 (zu k iZ wv wx tp gK cp cM iq fe gL fY).bind fun x0=>
 some (!x0)
abbrev SQ:Type:=List zF→Int→Int→List zN→EQ→AC→EQ→Option (Unit⊕Int)
def AJ (k:Nat)(rec:SQ)(s0:List zF)(s7 s8:Int)(aa:List zN)(ae:EQ)(ag:AC)(ab:EQ):Option (Unit⊕Int):=
 bif decide (s8 < s7) then (bif zD s8 s0.length then ((Pf k (s0.getD s8.toNat (0,0,0,0,0,0,0)).1 (s0.getD s8.toNat (0,0,0,0,0,0,0)).2.1 (s0.getD s8.toNat (0,0,0,0,0,0,0)).2.2.1 (s0.getD s8.toNat (0,0,0,0,0,0,0)).2.2.2.1 (s0.getD s8.toNat (0,0,0,0,0,0,0)).2.2.2.2.1 (s0.getD s8.toNat (0,0,0,0,0,0,0)).2.2.2.2.2.1 (s0.getD s8.toNat (0,0,0,0,0,0,0)).2.2.2.2.2.2 aa ae ag ab).bind fun x0=>
   bif x0 then some (.inr s8)
   else rec s0 s7 (zA (s8+1)) aa ae ag ab)
  else none)
 else some (.inl ())
def E1 (k:Nat):Nat→SQ
 |0,_,_,_,_,_,_,_=>none
 |n+1,s0,s7,s8,aa,ae,ag,ab=>AJ k (E1 k n) s0 s7 s8 aa ae ag ab
def Pg (k:Nat)(a0:List zF)(mN:List zN)(mO:EQ)(mP:AC)(mQ:EQ):Option Int:=
 (E1 k k a0 (a0.length:Int) 0 mN mO mP mQ).bind fun z=>
 match z with
 |.inl z1=>some (-1)
 |.inr z2=>some z2
def I6 (k:Nat)(a0:List zF)(mN:List zN)(mO:EQ)(mP:AC)(mQ:EQ):Option Bool:=
 (Pg k a0 mN mO mP mQ).bind fun x0=>
 some (decide (x0≥0))
abbrev SX:Type:=AC×AC×EQ
abbrev SU:Type:=List zF→Int→Int→AC→AC→EQ→Option SX
def Az (k:Nat)(rec:SU)(aO:List zF)(bG aN:Int)(r2 r3:AC)(m4:EQ):Option SX:=
 bif decide (aN < bG) then (bif zD aN aO.length then (bif zD (aO.getD aN.toNat (0, 0, 0, 0, 0, 0, 0)).2.1 r2.length then (bif zD (aO.getD aN.toNat (0, 0, 0, 0, 0, 0, 0)).2.1 r2.length then (let y0:AC:=(r2.set (aO.getD aN.toNat (0,0,0,0,0,0,0)).2.1.toNat (zA ((r2.getD (aO.getD aN.toNat (0,0,0,0,0,0,0)).2.1.toNat 0)-(aO.getD aN.toNat (0,0,0,0,0,0,0)).2.2.2.1)))
     bif zD (aO.getD aN.toNat (0, 0, 0, 0, 0, 0, 0)).2.2.1 y0.length then (bif zD (aO.getD aN.toNat (0, 0, 0, 0, 0, 0, 0)).2.2.1 y0.length then (let y1:AC:=(y0.set (aO.getD aN.toNat (0,0,0,0,0,0,0)).2.2.1.toNat (zA ((y0.getD (aO.getD aN.toNat (0,0,0,0,0,0,0)).2.2.1.toNat 0)+(aO.getD aN.toNat (0,0,0,0,0,0,0)).2.2.2.1)))
       bif zD (aO.getD aN.toNat (0, 0, 0, 0, 0, 0, 0)).2.1 m4.length then (bif zD (aO.getD aN.toNat (0, 0, 0, 0, 0, 0, 0)).2.2.1 (m4.getD (aO.getD aN.toNat (0, 0, 0, 0, 0, 0, 0)).2.1.toNat []).length then (bif zD (aO.getD aN.toNat (0, 0, 0, 0, 0, 0, 0)).2.2.1 (m4.getD (aO.getD aN.toNat (0, 0, 0, 0, 0, 0, 0)).2.1.toNat []).length then (let y2:EQ:=(m4.set (aO.getD aN.toNat (0,0,0,0,0,0,0)).2.1.toNat ((m4.getD (aO.getD aN.toNat (0,0,0,0,0,0,0)).2.1.toNat []).set (aO.getD aN.toNat (0,0,0,0,0,0,0)).2.2.1.toNat (zA (((m4.getD (aO.getD aN.toNat (0,0,0,0,0,0,0)).2.1.toNat []).getD (aO.getD aN.toNat (0,0,0,0,0,0,0)).2.2.1.toNat 0)+(aO.getD aN.toNat (0,0,0,0,0,0,0)).2.2.2.1))))
          bif zD (aO.getD aN.toNat (0, 0, 0, 0, 0, 0, 0)).2.2.1 y2.length then (bif zD (aO.getD aN.toNat (0, 0, 0, 0, 0, 0, 0)).2.1 (y2.getD (aO.getD aN.toNat (0, 0, 0, 0, 0, 0, 0)).2.2.1.toNat []).length then (bif zD (aO.getD aN.toNat (0, 0, 0, 0, 0, 0, 0)).2.1 (y2.getD (aO.getD aN.toNat (0, 0, 0, 0, 0, 0, 0)).2.2.1.toNat []).length then (let y3:EQ:=(y2.set (aO.getD aN.toNat (0,0,0,0,0,0,0)).2.2.1.toNat ((y2.getD (aO.getD aN.toNat (0,0,0,0,0,0,0)).2.2.1.toNat []).set (aO.getD aN.toNat (0,0,0,0,0,0,0)).2.1.toNat (zA (((y2.getD (aO.getD aN.toNat (0,0,0,0,0,0,0)).2.2.1.toNat []).getD (aO.getD aN.toNat (0,0,0,0,0,0,0)).2.1.toNat 0)-(aO.getD aN.toNat (0,0,0,0,0,0,0)).2.2.2.1))))
             bif !(decide ((aO.getD aN.toNat (0, 0, 0, 0, 0, 0, 0)).2.2.2.2.1 = 3)) then (bif zD (aO.getD aN.toNat (0, 0, 0, 0, 0, 0, 0)).2.1 r3.length then (bif zD (aO.getD aN.toNat (0, 0, 0, 0, 0, 0, 0)).2.1 r3.length then (let y4:AC:=(r3.set (aO.getD aN.toNat (0,0,0,0,0,0,0)).2.1.toNat (zA ((r3.getD (aO.getD aN.toNat (0,0,0,0,0,0,0)).2.1.toNat 0)+(aO.getD aN.toNat (0,0,0,0,0,0,0)).2.2.2.1)))
                rec aO bG (zA (aN+1)) y1 y4 y3)
               else none)
              else none)
             else rec aO bG (zA (aN+1)) y1 r3 y3)
            else none)
           else none)
          else none)
         else none)
        else none)
       else none)
      else none)
     else none)
    else none)
   else none)
  else none)
 else some (r2,r3,m4)
def EW (k:Nat):Nat→SU
 |0,_,_,_,_,_,_=>none
 |n+1,aO,bG,aN,r2,r3,m4=>Az k (EW k n) aO bG aN r2 r3 m4
def I1 (k:Nat)(a0:Int)(a1:List zF):Option (AC×AC×EQ):=
 (uN k a0 0).bind fun x0=>
 (uN k a0 0).bind fun x1=>
 (Ax k a0 0).bind fun x2=>
 (EW k k a1 (a1.length:Int) 0 x0 x1 x2).bind fun z=>
 some (z.1,z.2.1,z.2.2)
def O8 (k:Nat)(gK cp cM iq fe gL fY a1:Int):Option Bool:=
 some (decide (cp=a1))
abbrev SY:Type:=List zF→Int→Int→Int→Option (Unit⊕Int)
def AA (k:Nat)(rec:SY)(s0:List zF)(s7 s8 aa:Int):Option (Unit⊕Int):=
 bif decide (s8 < s7) then (bif zD s8 s0.length then ((O8 k (s0.getD s8.toNat (0,0,0,0,0,0,0)).1 (s0.getD s8.toNat (0,0,0,0,0,0,0)).2.1 (s0.getD s8.toNat (0,0,0,0,0,0,0)).2.2.1 (s0.getD s8.toNat (0,0,0,0,0,0,0)).2.2.2.1 (s0.getD s8.toNat (0,0,0,0,0,0,0)).2.2.2.2.1 (s0.getD s8.toNat (0,0,0,0,0,0,0)).2.2.2.2.2.1 (s0.getD s8.toNat (0,0,0,0,0,0,0)).2.2.2.2.2.2 aa).bind fun x0=>
   bif x0 then some (.inr s8)
   else rec s0 s7 (zA (s8+1)) aa)
  else none)
 else some (.inl ())
def EX (k:Nat):Nat→SY
 |0,_,_,_,_=>none
 |n+1,s0,s7,s8,aa=>AA k (EX k n) s0 s7 s8 aa
def O9 (k:Nat)(a0:List zF)(cf:Int):Option Int:=
 (EX k k a0 (a0.length:Int) 0 cf).bind fun z=>
 match z with
 |.inl z1=>some (-1)
 |.inr z2=>some z2
def I2 (k:Nat)(a0:List zF)(cf:Int):Option Bool:=
 (O9 k a0 cf).bind fun x0=>
 some (decide (x0≥0))
def Av (k:Nat)(rec:Int→AC→Int→Int→Option Int)(s5:Int)(bV:AC)(bn bq:Int):Option Int:=
 bif decide (bq < bn) then (bif zD bq bV.length then(rec (zA (s5+(bV.getD bq.toNat 0))) bV bn (zA (bq+1)))
  else none)
 else some s5
def Au (k:Nat):Nat→Int→AC→Int→Int→Option Int
 |0,_,_,_,_=>none
 |n+1,s5,bV,bn,bq=>Av k (Au k n) s5 bV bn bq
def IX (k:Nat)(aZ:List zN)(bA:EQ)(bz:AC)(bm:EQ)(a1:Int):Option Int:=
 bif zD a1 bm.length then ((Au k k 0 (bm.getD a1.toNat []) ((bm.getD a1.toNat []).length:Int) 0).bind fun z=>
  some z)
 else none
def AE (k:Nat)(a0 a1:Int):Option Bool:=
 bif !(decide (a1=(-1))) then some (decide (a0>a1))
 else some false
def Pb (k:Nat)(gK cp cM iq fe gL fY a1 vNe vNf vNg:Int)(V3 kl:AC)(cT:EQ)(a4:Int)(vNh:List zN)(CF:EQ)(vNj:AC)(CG:EQ):Option Bool:=
 bif !(decide (cp=a1)) then some false
 else bif zD a1 kl.length then ((sj k vNe vNf vNg (kl.getD a1.toNat 0)).bind fun x0=>
  bif decide (fe = 3) then (bif decide (a4<x0) then some true
   else bif zD a1 CG.length then (bif zD cM (CG.getD a1.toNat []).length then (bif zD a1 cT.length then (bif zD cM (cT.getD a1.toNat []).length then (bif zD a1 CF.length then (bif zD cM (CF.getD a1.toNat []).length then ((AE k (zA (((CG.getD a1.toNat []).getD cM.toNat 0)+((cT.getD a1.toNat []).getD cM.toNat 0))) ((CF.getD a1.toNat []).getD cM.toNat 0)).bind fun x1=>
         some x1)
        else none)
       else none)
      else none)
     else none)
    else none)
   else none)
  else bif zD a1 CG.length then (bif zD cM (CG.getD a1.toNat []).length then (bif zD a1 cT.length then (bif zD cM (cT.getD a1.toNat []).length then (bif zD a1 CF.length then (bif zD cM (CF.getD a1.toNat []).length then ((AE k (zA (((CG.getD a1.toNat []).getD cM.toNat 0)+((cT.getD a1.toNat []).getD cM.toNat 0))) ((CF.getD a1.toNat []).getD cM.toNat 0)).bind fun x2=>
        some x2)
       else none)
      else none)
     else none)
    else none)
   else none)
  else none)
 else none
abbrev S3:Type:=List zF→Int→Int→Int→Int→Int→Int→AC→AC→EQ→Int→List zN→EQ→AC→EQ→Option (Unit⊕Int)
def AF (k:Nat)(rec:S3)(s0:List zF)(s7 s8 aa au aD aE:Int)(bE qa:AC)(qb:EQ)(bL:Int)(fz:List zN)(qc:EQ)(qd:AC)(qe:EQ):Option (Unit⊕Int):=
 bif decide (s8 < s7) then (bif zD s8 s0.length then ((Pb k (s0.getD s8.toNat (0,0,0,0,0,0,0)).1 (s0.getD s8.toNat (0,0,0,0,0,0,0)).2.1 (s0.getD s8.toNat (0,0,0,0,0,0,0)).2.2.1 (s0.getD s8.toNat (0,0,0,0,0,0,0)).2.2.2.1 (s0.getD s8.toNat (0,0,0,0,0,0,0)).2.2.2.2.1 (s0.getD s8.toNat (0,0,0,0,0,0,0)).2.2.2.2.2.1 (s0.getD s8.toNat (0,0,0,0,0,0,0)).2.2.2.2.2.2 aa au aD aE bE qa qb bL fz qc qd qe).bind fun x0=>
   bif x0 then some (.inr s8)
   else rec s0 s7 (zA (s8+1)) aa au aD aE bE qa qb bL fz qc qd qe)
  else none)
 else some (.inl ())
def EZ (k:Nat):Nat→S3
 |0,_,_,_,_,_,_,_,_,_,_,_,_,_,_,_=>none
 |n+1,s0,s7,s8,aa,au,aD,aE,bE,qa,qb,bL,fz,qc,qd,qe=>AF k (EZ k n) s0 s7 s8 aa au aD aE bE qa qb bL fz qc qd qe
def Pc (k:Nat)(a0:List zF)(cf V4 V5 V6:Int)(dC cU:AC)(dD:EQ)(wy:Int)(V7:List zN)(V8:EQ)(V9:AC)(Wa:EQ):Option Int:=
 (EZ k k a0 (a0.length:Int) 0 cf V4 V5 V6 dC cU dD wy V7 V8 V9 Wa).bind fun z=>
 match z with
 |.inl z1=>some (-1)
 |.inr z2=>some z2
def I3 (k:Nat)(a0:List zF)(cf V4 V5 V6:Int)(dC cU:AC)(dD:EQ)(wy:Int)(V7:List zN)(V8:EQ)(V9:AC)(Wa:EQ):Option Bool:=
 (Pc k a0 cf V4 V5 V6 dC cU dD wy V7 V8 V9 Wa).bind fun x0=>
 some (decide (x0≥0))
abbrev S8:Type:=(List zF)×Int×AC×AC×EQ×(List zN)×EQ×AC×EQ×Int×Int×Int×Int×Int
abbrev S6:Type:=List zF→Int→AC→Int→Int→AC→AC→EQ→List zN→EQ→AC→EQ→Int→Int→Int→Int→Int→Option S8
def AG (k:Nat)(rec:S6)(s3:List zF)(bK:Int)(im:AC)(dR fy:Int)(aa ae:AC)(ag:EQ)(au:List zN)(aD:EQ)(aE:AC)(aJ:EQ)(bE bL cg cq fz:Int):Option S8:=
 bif decide (fy < dR) then (bif zD fy im.length then(rec s3 (zA (bK+(im.getD fy.toNat 0))) im dR (zA (fy+1)) aa ae ag au aD aE aJ bE bL cg cq fz)
  else none)
 else some (s3,bK,aa,ae,ag,au,aD,aE,aJ,bE,bL,cg,cq,fz)
def uQ (k:Nat):Nat→S6
 |0,_,_,_,_,_,_,_,_,_,_,_,_,_,_,_,_,_=>none
 |n+1,s3,bK,im,dR,fy,aa,ae,ag,au,aD,aE,aJ,bE,bL,cg,cq,fz=>AG k (uQ k n) s3 bK im dR fy aa ae ag au aD aE aJ bE bL cg cq fz
def I5 (k:Nat)(fB qg:AC)(fD:EQ)(iZ:List zN)(wv:EQ)(wx:AC)(tp:EQ)(a2:Int)(a3:List zF):Option Bool:=
 bif zD a2 iZ.length then (bif zD a2 fB.length then (bif decide ((zA ((zA ((iZ.getD a2.toNat (0,0,0)).1+(iZ.getD a2.toNat (0,0,0)).2.1))+(fB.getD a2.toNat 0)))<0) then some true
   else(IX k iZ wv wx tp a2).bind fun x0=>
   bif zD a2 fD.length then ((uQ k k a3 x0 (fD.getD a2.toNat []) ((fD.getD a2.toNat []).length:Int) 0 fB qg fD iZ wv wx tp a2 (iZ.getD a2.toNat (0,0,0)).1 (iZ.getD a2.toNat (0,0,0)).2.1 (iZ.getD a2.toNat (0,0,0)).2.2 (zA ((zA ((iZ.getD a2.toNat (0,0,0)).1+(iZ.getD a2.toNat (0,0,0)).2.1))+(fB.getD a2.toNat 0)))).bind fun z=>
    bif zD z.2.2.2.2.2.2.2.2.2.1 z.2.2.2.2.2.2.2.1.length then ((AE k z.2.1 (z.2.2.2.2.2.2.2.1.getD z.2.2.2.2.2.2.2.2.2.1.toNat 0)).bind fun x1=>
     bif x1 then some true
     else(I3 k z.1 z.2.2.2.2.2.2.2.2.2.1 z.2.2.2.2.2.2.2.2.2.2.1 z.2.2.2.2.2.2.2.2.2.2.2.1 z.2.2.2.2.2.2.2.2.2.2.2.2.1 z.2.2.1 z.2.2.2.1 z.2.2.2.2.1 z.2.2.2.2.2.2.2.2.2.2.2.2.2 z.2.2.2.2.2.1 z.2.2.2.2.2.2.1 z.2.2.2.2.2.2.2.1 z.2.2.2.2.2.2.2.2.1).bind fun x2=>
     some x2)
    else none)
   else none)
  else none)
 else none
abbrev S9:Type:=List zF→Int→Int→List zN→EQ→AC→EQ→AC→AC→EQ→AC→Option AC
def AI (k:Nat)(rec:S9)(s1:List zF)(bG aN:Int)(aa:List zN)(ae:EQ)(ag:AC)(ab:EQ)(r2 r3:AC)(m4:EQ)(r5:AC):Option AC:=
 bif decide (aN < bG) then ((I2 k s1 aN).bind fun x1=>
  bif x1 then ((I5 k r2 r3 m4 aa ae ag ab aN s1).bind fun x2=>
   bif x2 then (bif zU (r5.length+1) 8 then(rec s1 bG (zA (aN+1)) aa ae ag ab r2 r3 m4 (r5++[aN]))
    else none)
   else rec s1 bG (zA (aN+1)) aa ae ag ab r2 r3 m4 r5)
  else rec s1 bG (zA (aN+1)) aa ae ag ab r2 r3 m4 r5)
 else some r5
def AH (k:Nat):Nat→S9
 |0,_,_,_,_,_,_,_,_,_,_,_=>none
 |n+1,s1,bG,aN,aa,ae,ag,ab,r2,r3,m4,r5=>AI k (AH k n) s1 bG aN aa ae ag ab r2 r3 m4 r5
def uR (k:Nat)(aZ:List zN)(bA:EQ)(bz:AC)(bm:EQ)(a1:List zF):Option AC:=
 (I1 k (aZ.length:Int) a1).bind fun x0=>
 (AH k k a1 (aZ.length:Int) 0 aZ bA bz bm x0.1 x0.2.1 x0.2.2 []).bind fun z=>
 some z
def uS (k:Nat)(aZ:List zN)(bA:EQ)(bz:AC)(bm:EQ)(a1:List zF):Option Bool:=
 bif decide ((a1.length : Int) ≤ 64) then ((I6 k a1 aZ bA bz bm).bind fun x0=>
  bif !x0 then ((uR k aZ bA bz bm a1).bind fun x1=>
   some (decide ((x1.length:Int)=0)))
  else some false)
 else some false
def OR (k:Nat)(gK cp cM iq fe gL fY:Int)(iZ:List zN)(wv:EQ)(wx:AC)(tp:EQ):Option Bool:=
 (zu k iZ wv wx tp gK cp cM iq fe gL fY).bind fun x0=>
 some (!x0)
abbrev Tb:Type:=List zF→Int→Int→List zN→EQ→AC→EQ→Option (Unit⊕Int)
def zw (k:Nat)(rec:Tb)(s0:List zF)(s7 s8:Int)(aa:List zN)(ae:EQ)(ag:AC)(ab:EQ):Option (Unit⊕Int):=
 bif decide (s8 < s7) then (bif zD s8 s0.length then ((OR k (s0.getD s8.toNat (0,0,0,0,0,0,0)).1 (s0.getD s8.toNat (0,0,0,0,0,0,0)).2.1 (s0.getD s8.toNat (0,0,0,0,0,0,0)).2.2.1 (s0.getD s8.toNat (0,0,0,0,0,0,0)).2.2.2.1 (s0.getD s8.toNat (0,0,0,0,0,0,0)).2.2.2.2.1 (s0.getD s8.toNat (0,0,0,0,0,0,0)).2.2.2.2.2.1 (s0.getD s8.toNat (0,0,0,0,0,0,0)).2.2.2.2.2.2 aa ae ag ab).bind fun x0=>
   bif x0 then some (.inr s8)
   else rec s0 s7 (zA (s8+1)) aa ae ag ab)
  else none)
 else some (.inl ())
def EI (k:Nat):Nat→Tb
 |0,_,_,_,_,_,_,_=>none
 |n+1,s0,s7,s8,aa,ae,ag,ab=>zw k (EI k n) s0 s7 s8 aa ae ag ab
def OT (k:Nat)(a0:List zF)(mN:List zN)(mO:EQ)(mP:AC)(mQ:EQ):Option Int:=
 (EI k k a0 (a0.length:Int) 0 mN mO mP mQ).bind fun z=>
 match z with
 |.inl z1=>some (-1)
 |.inr z2=>some z2
def II (k:Nat)(a0:List zF)(mN:List zN)(mO:EQ)(mP:AC)(mQ:EQ):Option Bool:=
 (OT k a0 mN mO mP mQ).bind fun x0=>
 some (decide (x0≥0))
def OE (k:Nat)(pY pZ lS:Int):Option Bool:=
 (Ir k pY pZ lS).bind fun x0=>
 some (!x0)
abbrev Td:Type:=List zN→Int→Int→Option (Unit⊕Int)
def zk (k:Nat)(rec:Td)(s0:List zN)(s7 s8:Int):Option (Unit⊕Int):=
 bif decide (s8 < s7) then (bif zD s8 s0.length then ((OE k (s0.getD s8.toNat (0,0,0)).1 (s0.getD s8.toNat (0,0,0)).2.1 (s0.getD s8.toNat (0,0,0)).2.2).bind fun x0=>
   bif x0 then some (.inr s8)
   else rec s0 s7 (zA (s8+1)))
  else none)
 else some (.inl ())
def Eu (k:Nat):Nat→Td
 |0,_,_,_=>none
 |n+1,s0,s7,s8=>zk k (Eu k n) s0 s7 s8
def OF (k:Nat)(a0:List zN):Option Int:=
 (Eu k k a0 (a0.length:Int) 0).bind fun z=>
 match z with
 |.inl z1=>some (-1)
 |.inr z2=>some z2
def Iy (k:Nat)(a0:List zN):Option Bool:=
 (OF k a0).bind fun x0=>
 some (decide (x0≥0))
def OA (k:Nat)(a0:Int):Option Bool:=
 bif decide (a0≥(-1)) then some (decide (a0≤2305843009213693952))
 else some false
def OG (k:Nat)(a0:Int):Option Bool:=
 (OA k a0).bind fun x0=>
 some (!x0)
abbrev Tf:Type:=AC→Int→Int→Option (Unit⊕Int)
def zl (k:Nat)(rec:Tf)(s0:AC)(s7 s8:Int):Option (Unit⊕Int):=
 bif decide (s8 < s7) then (bif zD s8 s0.length then ((OG k (s0.getD s8.toNat 0)).bind fun x0=>
   bif x0 then some (.inr s8)
   else rec s0 s7 (zA (s8+1)))
  else none)
 else some (.inl ())
def Ev (k:Nat):Nat→Tf
 |0,_,_,_=>none
 |n+1,s0,s7,s8=>zl k (Ev k n) s0 s7 s8
def OH (k:Nat)(a0:AC):Option Int:=
 (Ev k k a0 (a0.length:Int) 0).bind fun z=>
 match z with
 |.inl z1=>some (-1)
 |.inr z2=>some z2
def Iz (k:Nat)(a0:AC):Option Bool:=
 (OH k a0).bind fun x0=>
 some (decide (x0≥0))
def Ey (k:Nat)(a0:AC)(a1:Int):Option Bool:=
 bif decide ((a0.length : Int) = a1) then ((Iz k a0).bind fun x0=>
  some (!x0))
 else some false
abbrev Ti:Type:=Int→EQ→Int→Int→Option (Unit⊕Bool)
def zn (k:Nat)(rec:Ti)(s1:Int)(bn:EQ)(bq aO:Int):Option (Unit⊕Bool):=
 bif decide (aO < bq) then (bif zD aO bn.length then ((Ey k (bn.getD aO.toNat []) s1).bind fun x0=>
   bif !x0 then some (.inr false)
   else rec s1 bn bq (zA (aO+1)))
  else none)
 else some (.inl ())
def Ez (k:Nat):Nat→Ti
 |0,_,_,_,_=>none
 |n+1,s1,bn,bq,aO=>zn k (Ez k n) s1 bn bq aO
def IC (k:Nat)(a0:EQ)(a1:Int):Option Bool:=
 bif !(decide ((a0.length:Int)=a1)) then some false
 else(Ez k k a1 a0 (a0.length:Int) 0).bind fun z=>
 match z with
 |.inl z1=>some true
 |.inr z2=>some z2
def Iu (k:Nat)(a0:Int):Option Bool:=
 bif decide (a0>(-72057594037927936)) then some (decide (a0<72057594037927936))
 else some false
def OI (k:Nat)(a0:Int):Option Bool:=
 (Iu k a0).bind fun x0=>
 some (!x0)
abbrev Tl:Type:=AC→Int→Int→Option (Unit⊕Int)
def zm (k:Nat)(rec:Tl)(s0:AC)(s7 s8:Int):Option (Unit⊕Int):=
 bif decide (s8 < s7) then (bif zD s8 s0.length then ((OI k (s0.getD s8.toNat 0)).bind fun x0=>
   bif x0 then some (.inr s8)
   else rec s0 s7 (zA (s8+1)))
  else none)
 else some (.inl ())
def Ew (k:Nat):Nat→Tl
 |0,_,_,_=>none
 |n+1,s0,s7,s8=>zm k (Ew k n) s0 s7 s8
def OJ (k:Nat)(a0:AC):Option Int:=
 (Ew k k a0 (a0.length:Int) 0).bind fun z=>
 match z with
 |.inl z1=>some (-1)
 |.inr z2=>some z2
def IA (k:Nat)(a0:AC):Option Bool:=
 (OJ k a0).bind fun x0=>
 some (decide (x0≥0))
def IB (k:Nat)(a0:AC)(a1:Int):Option Bool:=
 bif decide ((a0.length : Int) = a1) then ((IA k a0).bind fun x0=>
  some (!x0))
 else some false
abbrev Tn:Type:=Int→EQ→Int→Int→Option (Unit⊕Bool)
def zo (k:Nat)(rec:Tn)(s1:Int)(bn:EQ)(bq aO:Int):Option (Unit⊕Bool):=
 bif decide (aO < bq) then (bif zD aO bn.length then ((IB k (bn.getD aO.toNat []) s1).bind fun x0=>
   bif !x0 then some (.inr false)
   else rec s1 bn bq (zA (aO+1)))
  else none)
 else some (.inl ())
def EA (k:Nat):Nat→Tn
 |0,_,_,_,_=>none
 |n+1,s1,bn,bq,aO=>zo k (EA k n) s1 bn bq aO
def ID (k:Nat)(a0:EQ)(a1:Int):Option Bool:=
 bif !(decide ((a0.length:Int)=a1)) then some false
 else(EA k k a1 a0 (a0.length:Int) 0).bind fun z=>
 match z with
 |.inl z1=>some true
 |.inr z2=>some z2
abbrev Ts:Type:=(EQ×EQ×Int×Int)⊕Bool
abbrev Tp:Type:=EQ→Int→EQ→Int→Int→AC→Int→Int→Option Ts
def zq (k:Nat)(rec:Tp)(s0:EQ)(s3:Int)(s7:EQ)(s8 s9:Int)(bq:AC)(aO bG:Int):Option Ts:=
 bif decide (bG < aO) then (bif zD bG bq.length then (bif zD bG s0.length then (bif zD s3 (s0.getD bG.toNat []).length then (bif !(decide (((s0.getD bG.toNat []).getD s3.toNat 0)=(zA (0-(bq.getD bG.toNat 0))))) then some (.inr false)
     else rec s0 s3 s7 s8 s9 bq aO (zA (bG+1)))
    else none)
   else none)
  else none)
 else some (.inl (s0,s7,s8,s9))
def zp (k:Nat):Nat→Tp
 |0,_,_,_,_,_,_,_,_=>none
 |n+1,s0,s3,s7,s8,s9,bq,aO,bG=>zq k (zp k n) s0 s3 s7 s8 s9 bq aO bG
abbrev Tt:Type:=EQ→EQ→Int→Int→Option (Unit⊕Bool)
def zr (k:Nat)(rec:Tt)(s0 s7:EQ)(s8 s9:Int):Option (Unit⊕Bool):=
 bif decide (s9 < s8) then (bif zD s9 s7.length then ((zp k k s0 s9 s7 s8 s9 (s7.getD s9.toNat []) ((s7.getD s9.toNat []).length:Int) 0).bind fun z=>
   match z with
   |.inl z1=>rec z1.1 z1.2.1 z1.2.2.1 (zA (z1.2.2.2+1))
   |.inr z2=>some (.inr z2))
  else none)
 else some (.inl ())
def EB (k:Nat):Nat→Tt
 |0,_,_,_,_=>none
 |n+1,s0,s7,s8,s9=>zr k (EB k n) s0 s7 s8 s9
def IE (k:Nat)(a0:EQ):Option Bool:=
 (EB k k a0 a0 (a0.length:Int) 0).bind fun z3=>
 match z3 with
 |.inl z4=>some true
 |.inr z5=>some z5
def uM (k:Nat)(aZ:List zN)(bA:EQ)(bz:AC)(bm:EQ):Option Bool:=
 bif decide ((aZ.length:Int)<1) then some false
 else bif decide ((aZ.length:Int)>6) then some false
 else(Iy k aZ).bind fun x0=>
 bif x0 then some false
 else(IC k bA (aZ.length:Int)).bind fun x1=>
 bif x1 then ((Ey k bz (aZ.length:Int)).bind fun x2=>
  bif x2 then ((ID k bm (aZ.length:Int)).bind fun x3=>
   bif x3 then ((IE k bm).bind fun x4=>
    some x4)
   else some false)
  else some false)
 else some false
abbrev Tz:Type:=(List zN)×EQ×AC×EQ×(List zN)×EQ×AC×EQ
abbrev Tw:Type:=List zF→Int→Int→List zN→EQ→AC→EQ→List zN→EQ→AC→EQ→Option Tz
def z8 (k:Nat)(rec:Tw)(aV:List zF)(dB aG:Int)(aa:List zN)(ae:EQ)(ag:AC)(ab:EQ)(r3:List zN)(m4:EQ)(r5:AC)(m6:EQ):Option Tz:=
 bif decide (aG < dB) then (bif zD aG aV.length then (bif zD (aV.getD aG.toNat (0, 0, 0, 0, 0, 0, 0)).2.1 r3.length then (bif zD (aV.getD aG.toNat (0, 0, 0, 0, 0, 0, 0)).2.2.1 r3.length then (let y0:List zN:=(r3.set (aV.getD aG.toNat (0,0,0,0,0,0,0)).2.1.toNat ((zA ((r3.getD (aV.getD aG.toNat (0,0,0,0,0,0,0)).2.1.toNat (0,0,0)).1-(aV.getD aG.toNat (0,0,0,0,0,0,0)).2.2.2.1)),(r3.getD (aV.getD aG.toNat (0,0,0,0,0,0,0)).2.1.toNat (0,0,0)).2))
     let y1:List zN:=(y0.set (aV.getD aG.toNat (0,0,0,0,0,0,0)).2.2.1.toNat ((zA ((y0.getD (aV.getD aG.toNat (0,0,0,0,0,0,0)).2.2.1.toNat (0,0,0)).1+(aV.getD aG.toNat (0,0,0,0,0,0,0)).2.2.2.1)),(y0.getD (aV.getD aG.toNat (0,0,0,0,0,0,0)).2.2.1.toNat (0,0,0)).2))
     bif !(decide ((aV.getD aG.toNat (0, 0, 0, 0, 0, 0, 0)).2.2.2.2.1 = 3)) then ((sj k (y1.getD (aV.getD aG.toNat (0,0,0,0,0,0,0)).2.1.toNat (0,0,0)).1 (y1.getD (aV.getD aG.toNat (0,0,0,0,0,0,0)).2.1.toNat (0,0,0)).2.1 (y1.getD (aV.getD aG.toNat (0,0,0,0,0,0,0)).2.1.toNat (0,0,0)).2.2 (aV.getD aG.toNat (0,0,0,0,0,0,0)).2.2.2.1).bind fun x2=>
      let y2:List zN:=(y1.set (aV.getD aG.toNat (0,0,0,0,0,0,0)).2.1.toNat ((y1.getD (aV.getD aG.toNat (0,0,0,0,0,0,0)).2.1.toNat (0,0,0)).1,(y1.getD (aV.getD aG.toNat (0,0,0,0,0,0,0)).2.1.toNat (0,0,0)).2.1,x2))
      bif zD (aV.getD aG.toNat (0, 0, 0, 0, 0, 0, 0)).2.1 m6.length then (bif zD (aV.getD aG.toNat (0, 0, 0, 0, 0, 0, 0)).2.2.1 (m6.getD (aV.getD aG.toNat (0, 0, 0, 0, 0, 0, 0)).2.1.toNat []).length then (bif zD (aV.getD aG.toNat (0, 0, 0, 0, 0, 0, 0)).2.2.1 (m6.getD (aV.getD aG.toNat (0, 0, 0, 0, 0, 0, 0)).2.1.toNat []).length then (let y3:EQ:=(m6.set (aV.getD aG.toNat (0,0,0,0,0,0,0)).2.1.toNat ((m6.getD (aV.getD aG.toNat (0,0,0,0,0,0,0)).2.1.toNat []).set (aV.getD aG.toNat (0,0,0,0,0,0,0)).2.2.1.toNat (zA (((m6.getD (aV.getD aG.toNat (0,0,0,0,0,0,0)).2.1.toNat []).getD (aV.getD aG.toNat (0,0,0,0,0,0,0)).2.2.1.toNat 0)+(aV.getD aG.toNat (0,0,0,0,0,0,0)).2.2.2.1))))
         bif zD (aV.getD aG.toNat (0, 0, 0, 0, 0, 0, 0)).2.2.1 y3.length then (bif zD (aV.getD aG.toNat (0, 0, 0, 0, 0, 0, 0)).2.1 (y3.getD (aV.getD aG.toNat (0, 0, 0, 0, 0, 0, 0)).2.2.1.toNat []).length then (bif zD (aV.getD aG.toNat (0, 0, 0, 0, 0, 0, 0)).2.1 (y3.getD (aV.getD aG.toNat (0, 0, 0, 0, 0, 0, 0)).2.2.1.toNat []).length then (let y4:EQ:=(y3.set (aV.getD aG.toNat (0,0,0,0,0,0,0)).2.2.1.toNat ((y3.getD (aV.getD aG.toNat (0,0,0,0,0,0,0)).2.2.1.toNat []).set (aV.getD aG.toNat (0,0,0,0,0,0,0)).2.1.toNat (zA (((y3.getD (aV.getD aG.toNat (0,0,0,0,0,0,0)).2.2.1.toNat []).getD (aV.getD aG.toNat (0,0,0,0,0,0,0)).2.1.toNat 0)-(aV.getD aG.toNat (0,0,0,0,0,0,0)).2.2.2.1))))
            rec aV dB (zA (aG+1)) aa ae ag ab y2 m4 r5 y4)
           else none)
          else none)
         else none)
        else none)
       else none)
      else none)
     else bif zD (aV.getD aG.toNat (0, 0, 0, 0, 0, 0, 0)).2.1 m6.length then (bif zD (aV.getD aG.toNat (0, 0, 0, 0, 0, 0, 0)).2.2.1 (m6.getD (aV.getD aG.toNat (0, 0, 0, 0, 0, 0, 0)).2.1.toNat []).length then (bif zD (aV.getD aG.toNat (0, 0, 0, 0, 0, 0, 0)).2.2.1 (m6.getD (aV.getD aG.toNat (0, 0, 0, 0, 0, 0, 0)).2.1.toNat []).length then (let y5:EQ:=(m6.set (aV.getD aG.toNat (0,0,0,0,0,0,0)).2.1.toNat ((m6.getD (aV.getD aG.toNat (0,0,0,0,0,0,0)).2.1.toNat []).set (aV.getD aG.toNat (0,0,0,0,0,0,0)).2.2.1.toNat (zA (((m6.getD (aV.getD aG.toNat (0,0,0,0,0,0,0)).2.1.toNat []).getD (aV.getD aG.toNat (0,0,0,0,0,0,0)).2.2.1.toNat 0)+(aV.getD aG.toNat (0,0,0,0,0,0,0)).2.2.2.1))))
        bif zD (aV.getD aG.toNat (0, 0, 0, 0, 0, 0, 0)).2.2.1 y5.length then (bif zD (aV.getD aG.toNat (0, 0, 0, 0, 0, 0, 0)).2.1 (y5.getD (aV.getD aG.toNat (0, 0, 0, 0, 0, 0, 0)).2.2.1.toNat []).length then (bif zD (aV.getD aG.toNat (0, 0, 0, 0, 0, 0, 0)).2.1 (y5.getD (aV.getD aG.toNat (0, 0, 0, 0, 0, 0, 0)).2.2.1.toNat []).length then (let y6:EQ:=(y5.set (aV.getD aG.toNat (0,0,0,0,0,0,0)).2.2.1.toNat ((y5.getD (aV.getD aG.toNat (0,0,0,0,0,0,0)).2.2.1.toNat []).set (aV.getD aG.toNat (0,0,0,0,0,0,0)).2.1.toNat (zA (((y5.getD (aV.getD aG.toNat (0,0,0,0,0,0,0)).2.2.1.toNat []).getD (aV.getD aG.toNat (0,0,0,0,0,0,0)).2.1.toNat 0)-(aV.getD aG.toNat (0,0,0,0,0,0,0)).2.2.2.1))))
           rec aV dB (zA (aG+1)) aa ae ag ab y1 m4 r5 y6)
          else none)
         else none)
        else none)
       else none)
      else none)
     else none)
    else none)
   else none)
  else none)
 else some (aa,ae,ag,ab,r3,m4,r5,m6)
def zz (k:Nat):Nat→Tw
 |0,_,_,_,_,_,_,_,_,_,_,_=>none
 |n+1,aV,dB,aG,aa,ae,ag,ab,r3,m4,r5,m6=>z8 k (zz k n) aV dB aG aa ae ag ab r3 m4 r5 m6
def mw (k:Nat)(aZ:List zN)(bA:EQ)(bz:AC)(bm:EQ)(a1:List zF):Option ((List zN)×EQ×AC×EQ×Int):=
 bif decide ((a1.length:Int)>64) then some (aZ,bA,bz,bm,1)
 else(II k a1 aZ bA bz bm).bind fun x0=>
 bif x0 then some (aZ,bA,bz,bm,1)
 else(dM k aZ bA bz bm).bind fun x1=>
 (zz k k a1 (a1.length:Int) 0 aZ bA bz bm x1.1 x1.2.1 x1.2.2.1 x1.2.2.2).bind fun z=>
 (uM k z.2.2.2.2.1 z.2.2.2.2.2.1 z.2.2.2.2.2.2.1 z.2.2.2.2.2.2.2).bind fun x3=>
 bif !x3 then some (jN z 8)
 else some (qW2 z 0)
abbrev TC:Type:=((List zN)×EQ×AC×EQ×Int×Int×Int×Int×Int×Int×Int)⊕(Bool×Int×Int×Int×Int×Int×Int×Int×(List zN)×EQ×AC×EQ)
abbrev TA:Type:=Int→Int→List zN→EQ→AC→EQ→Int→Int→Int→Int→Int→Int→Int→List zF→Option TC
def Bc (k:Nat)(rec:TA)(bG aN:Int)(aa:List zN)(ae:EQ)(ag:AC)(ab:EQ)(au aD aE aJ aP aQ aR:Int)(r3:List zF):Option TC:=
 bif decide (aN < bG) then (bif zD aN r3.length then ((uS k aa ae ag ab [(r3.getD aN.toNat (0,0,0,0,0,0,0))]).bind fun x1=>
   bif !x1 then(rec bG (zA (aN+1)) aa ae ag ab au aD aE aJ aP aQ aR r3)
   else(mw k aa ae ag ab [(r3.getD aN.toNat (0,0,0,0,0,0,0))]).bind fun x2=>
   bif decide (x2.2.2.2.2=0) then some (.inr (true,(j5 (r3.getD aN.toNat (0,0,0,0,0,0,0)) (jK x2))))
   else rec bG (zA (aN+1)) aa ae ag ab au aD aE aJ aP aQ aR r3)
  else none)
 else some (.inl (aa,ae,ag,ab,au,aD,aE,aJ,aP,aQ,aR))
def Fi (k:Nat):Nat→TA
 |0,_,_,_,_,_,_,_,_,_,_,_,_,_,_=>none
 |n+1,bG,aN,aa,ae,ag,ab,au,aD,aE,aJ,aP,aQ,aR,r3=>Bc k (Fi k n) bG aN aa ae ag ab au aD aE aJ aP aQ aR r3
def Jo (k:Nat)(aZ:List zN)(bA:EQ)(bz:AC)(bm:EQ)(a1:List zF)(a2:Int):Option (Int×Int×Int×Int×Int×Int×Int×(List zN)×EQ×AC×EQ×Bool):=
 (E5 k a1 a2).bind fun x0=>
 (Fi k k (x0.length:Int) 0 aZ bA bz bm 0 0 0 0 0 0 0 x0).bind fun z=>
 match z with
 |.inl z1=>some (0,0,0,0,0,0,0,(jN z1 false))
 |.inr z2=>some (vK2 z2 z2.1)
abbrev TG:Type:=(List zF)×(List zN)×EQ×AC×EQ×(List zF)
abbrev TE:Type:=Int→List zF→List zN→EQ→AC→EQ→List zF→Option TG
def Bd (k:Nat)(rec:TE)(s2:Int)(s7:List zF)(aa:List zN)(ae:EQ)(ag:AC)(ab:EQ)(r1:List zF):Option TG:=
 (Jo k aa ae ag ab s7 s2).bind fun x0=>
 bif !x0.2.2.2.2.2.2.2.2.2.2.2 then some (s7,aa,ae,ag,ab,r1)
 else(mA k s7 x0.1).bind fun x1=>
 bif zU (r1.length + 1) 56 then (let y0:List zF:=(r1++[(dO x0)])
  rec s2 x1.1 x0.2.2.2.2.2.2.2.1 x0.2.2.2.2.2.2.2.2.1 x0.2.2.2.2.2.2.2.2.2.1 x0.2.2.2.2.2.2.2.2.2.2.1 y0)
 else none
def Fj (k:Nat):Nat→TE
 |0,_,_,_,_,_,_,_=>none
 |n+1,s2,s7,aa,ae,ag,ab,r1=>Bd k (Fj k n) s2 s7 aa ae ag ab r1
def Jq (k:Nat)(aZ:List zN)(bA:EQ)(bz:AC)(bm:EQ)(a1:List zF)(a2:Int):Option GG:=
 (Fj k k a2 a1 aZ bA bz bm []).bind fun z=>
 some (lP z (z.1,z.2.2.2.2.2))
abbrev TJ:Type:=(Int×Int×(List zN)×EQ×AC×EQ×Int×Int×Int×Int×Int×Int×Int×Int×Int×Int×Int×Int×Int×Int×(List zF))⊕qQ9
abbrev TH:Type:=Int→Int→Int→Int→List zN→EQ→AC→EQ→Int→Int→Int→Int→Int→Int→Int→Int→Int→Int→Int→Int→Int→Int→List zF→Int→Int→Int→Int→Int→Int→Int→Option TJ
def Be (k:Nat)(rec:TH)(bF bW dB aG:Int)(aa:List zN)(ae:EQ)(ag:AC)(ab:EQ)(au aD aE aJ aP aQ aR bQ bR bj aL bM bN bO:Int)(r2:List zF)(bL cg cq eu ew ey ez:Int):Option TJ:=
 bif decide (aG < dB) then (bif zD aG r2.length then (bif !(decide ((r2.getD aG.toNat (0,0,0,0,0,0,0)).2.1=cq)) then(rec bF bW dB (zA (aG+1)) aa ae ag ab au aD aE aJ aP aQ aR bQ bR bj aL bM bN bO r2 bL cg cq eu ew ey ez)
   else bif !(decide ((r2.getD aG.toNat (0,0,0,0,0,0,0)).2.2.1=cg)) then(rec bF bW dB (zA (aG+1)) aa ae ag ab au aD aE aJ aP aQ aR bQ bR bj aL bM bN bO r2 bL cg cq eu ew ey ez)
   else bif decide (cg≥(r2.getD aG.toNat (0,0,0,0,0,0,0)).2.1) then(rec bF bW dB (zA (aG+1)) aa ae ag ab au aD aE aJ aP aQ aR bQ bR bj aL bM bN bO r2 bL cg cq eu ew ey ez)
   else(uS k aa ae ag ab [(bL,cg,cq,eu,ew,ey,ez),(r2.getD aG.toNat (0,0,0,0,0,0,0))]).bind fun x1=>
   bif !x1 then(rec bF bW dB (zA (aG+1)) aa ae ag ab au aD aE aJ aP aQ aR bQ bR bj aL bM bN bO r2 bL cg cq eu ew ey ez)
   else(mw k aa ae ag ab [(bL,cg,cq,eu,ew,ey,ez),(r2.getD aG.toNat (0,0,0,0,0,0,0))]).bind fun x2=>
   bif decide (x2.2.2.2.2=0) then some (.inr (true,bL,cg,cq,eu,ew,ey,ez,(j5 (r2.getD aG.toNat (0,0,0,0,0,0,0)) (jK x2))))
   else rec bF bW dB (zA (aG+1)) aa ae ag ab au aD aE aJ aP aQ aR bQ bR bj aL bM bN bO r2 bL cg cq eu ew ey ez)
  else none)
 else some (.inl (bF,bW,aa,ae,ag,ab,au,aD,aE,aJ,aP,aQ,aR,bQ,bR,bj,aL,bM,bN,bO,r2))
def Fm (k:Nat):Nat→TH
 |0,_,_,_,_,_,_,_,_,_,_,_,_,_,_,_,_,_,_,_,_,_,_,_,_,_,_,_,_,_,_=>none
 |n+1,bF,bW,dB,aG,aa,ae,ag,ab,au,aD,aE,aJ,aP,aQ,aR,bQ,bR,bj,aL,bM,bN,bO,r2,bL,cg,cq,eu,ew,ey,ez=>Be k (Fm k n) bF bW dB aG aa ae ag ab au aD aE aJ aP aQ aR bQ bR bj aL bM bN bO r2 bL cg cq eu ew ey ez
abbrev TN:Type:=(Int×Int×Int×Int×Int×Int×Int×Int×Int×Int×Int×Int×Int×Int)⊕qQ9
abbrev TL:Type:=Int→Int→List zN→EQ→AC→EQ→Int→Int→Int→Int→Int→Int→Int→Int→Int→Int→Int→Int→Int→Int→List zF→Option TN
def Bf (k:Nat)(rec:TL)(bF bW:Int)(aa:List zN)(ae:EQ)(ag:AC)(ab:EQ)(au aD aE aJ aP aQ aR bQ bR bj aL bM bN bO:Int)(r2:List zF):Option TN:=
 bif decide (bW < bF) then (bif zD bW r2.length then ((Fm k k bF bW (r2.length:Int) 0 aa ae ag ab au aD aE aJ aP aQ aR bQ bR bj aL bM bN bO r2 (r2.getD bW.toNat (0,0,0,0,0,0,0)).1 (r2.getD bW.toNat (0,0,0,0,0,0,0)).2.1 (r2.getD bW.toNat (0,0,0,0,0,0,0)).2.2.1 (r2.getD bW.toNat (0,0,0,0,0,0,0)).2.2.2.1 (r2.getD bW.toNat (0,0,0,0,0,0,0)).2.2.2.2.1 (r2.getD bW.toNat (0,0,0,0,0,0,0)).2.2.2.2.2.1 (r2.getD bW.toNat (0,0,0,0,0,0,0)).2.2.2.2.2.2).bind fun z=>
   match z with
   |.inl z1=>rec z1.1 (zA (z1.2.1+1)) z1.2.2.1 z1.2.2.2.1 z1.2.2.2.2.1 z1.2.2.2.2.2.1 z1.2.2.2.2.2.2.1 z1.2.2.2.2.2.2.2.1 z1.2.2.2.2.2.2.2.2.1 z1.2.2.2.2.2.2.2.2.2.1 z1.2.2.2.2.2.2.2.2.2.2.1 z1.2.2.2.2.2.2.2.2.2.2.2.1 z1.2.2.2.2.2.2.2.2.2.2.2.2.1 z1.2.2.2.2.2.2.2.2.2.2.2.2.2.1 z1.2.2.2.2.2.2.2.2.2.2.2.2.2.2.1 z1.2.2.2.2.2.2.2.2.2.2.2.2.2.2.2.1 z1.2.2.2.2.2.2.2.2.2.2.2.2.2.2.2.2.1 z1.2.2.2.2.2.2.2.2.2.2.2.2.2.2.2.2.2.1 z1.2.2.2.2.2.2.2.2.2.2.2.2.2.2.2.2.2.2.1 z1.2.2.2.2.2.2.2.2.2.2.2.2.2.2.2.2.2.2.2.1 z1.2.2.2.2.2.2.2.2.2.2.2.2.2.2.2.2.2.2.2.2
   |.inr z2=>some (.inr (z2.1,z2.2.1,z2.2.2.1,z2.2.2.2.1,z2.2.2.2.2.1,z2.2.2.2.2.2.1,z2.2.2.2.2.2.2.1,z2.2.2.2.2.2.2.2.1,z2.2.2.2.2.2.2.2.2.1,z2.2.2.2.2.2.2.2.2.2.1,z2.2.2.2.2.2.2.2.2.2.2.1,z2.2.2.2.2.2.2.2.2.2.2.2.1,z2.2.2.2.2.2.2.2.2.2.2.2.2.1,z2.2.2.2.2.2.2.2.2.2.2.2.2.2.1,z2.2.2.2.2.2.2.2.2.2.2.2.2.2.2.1,z2.2.2.2.2.2.2.2.2.2.2.2.2.2.2.2.1,z2.2.2.2.2.2.2.2.2.2.2.2.2.2.2.2.2.1,z2.2.2.2.2.2.2.2.2.2.2.2.2.2.2.2.2.2.1,z2.2.2.2.2.2.2.2.2.2.2.2.2.2.2.2.2.2.2)))
  else none)
 else some (.inl (au,aD,aE,aJ,aP,aQ,aR,bQ,bR,bj,aL,bM,bN,bO))
def Fo (k:Nat):Nat→TL
 |0,_,_,_,_,_,_,_,_,_,_,_,_,_,_,_,_,_,_,_,_,_=>none
 |n+1,bF,bW,aa,ae,ag,ab,au,aD,aE,aJ,aP,aQ,aR,bQ,bR,bj,aL,bM,bN,bO,r2=>Bf k (Fo k n) bF bW aa ae ag ab au aD aE aJ aP aQ aR bQ bR bj aL bM bN bO r2
def Js (k:Nat)(aZ:List zN)(bA:EQ)(bz:AC)(bm:EQ)(a1:List zF)(a2:Int):Option (Int×Int×Int×Int×Int×Int×Int×Int×Int×Int×Int×Int×Int×Int×(List zN)×EQ×AC×EQ×Bool):=
 (E5 k a1 a2).bind fun x0=>
 (Fo k k (x0.length:Int) 0 aZ bA bz bm 0 0 0 0 0 0 0 0 0 0 0 0 0 0 x0).bind fun z3=>
 match z3 with
 |.inl z4=>some (0,0,0,0,0,0,0,0,0,0,0,0,0,0,[],[],[],[],false)
 |.inr z5=>some (TK z5 z5.1)
abbrev TV:Type:=Int×(List zF)×(List zN)×EQ×AC×EQ×(List zF)
abbrev TT:Type:=Int→List zF→Int→Int→List zN→EQ→AC→EQ→List zF→List zF→Option TV
def sA (k:Nat)(rec:TT)(s2:Int)(s7:List zF)(wq om:Int)(aa:List zN)(ae:EQ)(ag:AC)(ab:EQ)(r1 r2:List zF):Option TV:=
 bif decide (om < wq) then (bif zD om r2.length then ((mA k s7 (r2.getD om.toNat (0,0,0,0,0,0,0)).1).bind fun x1=>
   bif zU (r1.length + 1) 56 then (let y0:List zF:=(r1++[(r2.getD om.toNat (0,0,0,0,0,0,0))])
    rec s2 x1.1 wq (zA (om+1)) aa ae ag ab y0 r2)
   else none)
  else none)
 else some (s2,s7,aa,ae,ag,ab,r1)
def sw (k:Nat):Nat→TT
 |0,_,_,_,_,_,_,_,_,_,_=>none
 |n+1,s2,s7,wq,om,aa,ae,ag,ab,r1,r2=>sA k (sw k n) s2 s7 wq om aa ae ag ab r1 r2
abbrev TY:Type:=(List zF)×(List zN)×EQ×AC×EQ×(List zF)
abbrev TW:Type:=Int→List zF→List zN→EQ→AC→EQ→List zF→Option TY
def Bg (k:Nat)(rec:TW)(s2:Int)(s7:List zF)(aa:List zN)(ae:EQ)(ag:AC)(ab:EQ)(r1:List zF):Option TY:=
 (Js k aa ae ag ab s7 s2).bind fun x0=>
 bif !x0.2.2.2.2.2.2.2.2.2.2.2.2.2.2.2.2.2.2 then some (s7,aa,ae,ag,ab,r1)
 else(sw k k s2 s7 2 0 x0.2.2.2.2.2.2.2.2.2.2.2.2.2.2.1 x0.2.2.2.2.2.2.2.2.2.2.2.2.2.2.2.1 x0.2.2.2.2.2.2.2.2.2.2.2.2.2.2.2.2.1 x0.2.2.2.2.2.2.2.2.2.2.2.2.2.2.2.2.2.1 r1 [(dO x0),(vDj x0)]).bind fun z=>
 rec z.1 z.2.1 z.2.2.1 z.2.2.2.1 z.2.2.2.2.1 z.2.2.2.2.2.1 z.2.2.2.2.2.2
def Fp (k:Nat):Nat→TW
 |0,_,_,_,_,_,_,_=>none
 |n+1,s2,s7,aa,ae,ag,ab,r1=>Bg k (Fp k n) s2 s7 aa ae ag ab r1
def Jt (k:Nat)(aZ:List zN)(bA:EQ)(bz:AC)(bm:EQ)(a1:List zF)(a2:Int):Option GG:=
 (Fp k k a2 a1 aZ bA bz bm []).bind fun z1=>
 some (lP z1 (z1.1,z1.2.2.2.2.2))
abbrev T2:Type:=(List zF)×(List zN)×EQ×AC×EQ×(List zF)
abbrev T0:Type:=Int→List zF→List zN→EQ→AC→EQ→List zF→Option T2
def Jz (k:Nat)(rec:T0)(s2:Int)(s7:List zF)(aa:List zN)(ae:EQ)(ag:AC)(ab:EQ)(r1:List zF):Option T2:=
 (Jq k aa ae ag ab s7 s2).bind fun x0=>
 (Jt k x0.1 x0.2.1 x0.2.2.1 x0.2.2.2.1 x0.2.2.2.2.1 s2).bind fun x1=>
 bif zU (r1.length + x0.2.2.2.2.2.length) 56 then (bif zU ((r1 ++ x0.2.2.2.2.2).length + x1.2.2.2.2.2.length) 56 then (let y0:List zF:=((r1++x0.2.2.2.2.2)++x1.2.2.2.2.2)
   bif decide ((x1.2.2.2.2.2.length:Int)=0) then some (x1.2.2.2.2.1,(jN x1 y0))
   else rec s2 x1.2.2.2.2.1 x1.1 x1.2.1 x1.2.2.1 x1.2.2.2.1 y0)
  else none)
 else none
def Fv (k:Nat):Nat→T0
 |0,_,_,_,_,_,_,_=>none
 |n+1,s2,s7,aa,ae,ag,ab,r1=>Jz k (Fv k n) s2 s7 aa ae ag ab r1
def Fw (k:Nat)(aZ:List zN)(bA:EQ)(bz:AC)(bm:EQ)(a1:List zF)(a2:Int):Option GG:=
 (Fv k k a2 a1 aZ bA bz bm []).bind fun z=>
 some (lP z (z.1,z.2.2.2.2.2))
def PW (k:Nat)(a0:AC):Option AC:=
 bif zU (0+a0.length) 8 then some a0
 else none
def PY (k:Nat)(gK cp cM iq fe gL fY:Int)(a1:AC):Option (Bool×AC):=
 bif decide (cp<0) then some (false,a1)
 else bif decide (cp≥(a1.length:Int)) then some (false,a1)
 else bif zD cp a1.length then (bif decide ((a1.getD cp.toNat 0)<1) then some (false,a1)
  else bif zD cp a1.length then (bif zD cp a1.length then some (true,(a1.set cp.toNat (zA ((a1.getD cp.toNat 0)-1))))
   else none)
  else none)
 else none
abbrev T5:Type:=AC×(List zF)
abbrev T3:Type:=List zF→Int→Int→AC→List zF→Option T5
def Bl (k:Nat)(rec:T3)(s8:List zF)(s9 av:Int)(r1:AC)(r2:List zF):Option T5:=
 bif decide (av < s9) then (bif zD av s8.length then ((PY k (s8.getD av.toNat (0,0,0,0,0,0,0)).1 (s8.getD av.toNat (0,0,0,0,0,0,0)).2.1 (s8.getD av.toNat (0,0,0,0,0,0,0)).2.2.1 (s8.getD av.toNat (0,0,0,0,0,0,0)).2.2.2.1 (s8.getD av.toNat (0,0,0,0,0,0,0)).2.2.2.2.1 (s8.getD av.toNat (0,0,0,0,0,0,0)).2.2.2.2.2.1 (s8.getD av.toNat (0,0,0,0,0,0,0)).2.2.2.2.2.2 r1).bind fun x0=>
   bif x0.1 then (bif zU (r2.length + 1) 56 then (let y0:List zF:=(r2++[(s8.getD av.toNat (0,0,0,0,0,0,0))])
     rec s8 s9 (zA (av+1)) x0.2 y0)
    else none)
   else rec s8 s9 (zA (av+1)) x0.2 r2)
  else none)
 else some (r1,r2)
def Bk (k:Nat):Nat→T3
 |0,_,_,_,_,_=>none
 |n+1,s8,s9,av,r1,r2=>Bl k (Bk k n) s8 s9 av r1 r2
def PX (k:Nat)(a0:List zF)(cf:AC):Option ((List zF)×AC):=
 (Bk k k a0 (a0.length:Int) 0 cf []).bind fun z=>
 some (z.2,z.1)
def Bj (k:Nat)(a0:List zF)(a1:AC):Option (List zF):=
 (PW k a1).bind fun x0=>
 (PX k a0 x0).bind fun x1=>
 some x1.1
abbrev T7:Type:=Int×(List zN)×EQ×AC×EQ×AC×(List zF)
abbrev T6:Type:=Int→Int→Int→List zN→EQ→AC→EQ→AC→List zF→Option T7
def Bn (k:Nat)(rec:T6)(s7 cS bF:Int)(aa:List zN)(ae:EQ)(ag:AC)(ab:EQ)(r1:AC)(r2:List zF):Option T7:=
 bif decide (bF < cS) then ((Fs k r2 bF).bind fun x1=>
  bif zU (r1.length+1) 8 then(rec s7 cS (zA (bF+1)) aa ae ag ab (r1++[(x1.length:Int)]) r2)
  else none)
 else some (s7,aa,ae,ag,ab,r1,r2)
def vd (k:Nat):Nat→T6
 |0,_,_,_,_,_,_,_,_,_=>none
 |n+1,s7,cS,bF,aa,ae,ag,ab,r1,r2=>Bn k (vd k n) s7 cS bF aa ae ag ab r1 r2
abbrev Ua:Type:=Int×(List zN)×EQ×AC×EQ×AC×(List zF)
abbrev T8:Type:=Int→Int→Int→List zN→EQ→AC→EQ→AC→List zF→AC→Option Ua
def Bp (k:Nat)(rec:T8)(s7 Ls kQ:Int)(aa:List zN)(ae:EQ)(ag:AC)(ab:EQ)(r1:AC)(r2:List zF)(r3:AC):Option Ua:=
 bif decide (kQ < Ls) then (bif zD kQ r3.length then (bif zD (r3.getD kQ.toNat 0) r1.length then (bif zD (r3.getD kQ.toNat 0) r1.length then (let y0:AC:=(r1.set (r3.getD kQ.toNat 0).toNat (zA ((r1.getD (r3.getD kQ.toNat 0).toNat 0)-1)))
     rec s7 Ls (zA (kQ+1)) aa ae ag ab y0 r2 r3)
    else none)
   else none)
  else none)
 else some (s7,aa,ae,ag,ab,r1,r2)
def Bo (k:Nat):Nat→T8
 |0,_,_,_,_,_,_,_,_,_,_=>none
 |n+1,s7,Ls,kQ,aa,ae,ag,ab,r1,r2,r3=>Bp k (Bo k n) s7 Ls kQ aa ae ag ab r1 r2 r3
abbrev Ub:Type:=Int→List zN→EQ→AC→EQ→AC→List zF→Option (Int×AC)
def Bq (k:Nat)(rec:Ub)(s7:Int)(aa:List zN)(ae:EQ)(ag:AC)(ab:EQ)(r1:AC)(r2:List zF):Option (Int×AC):=
 (Bj k r2 r1).bind fun x2=>
 (uR k aa ae ag ab x2).bind fun x3=>
 bif decide ((x3.length:Int)=0) then some ((zA (s7+1)),r1)
 else(Bo k k (zA (s7+1)) (x3.length:Int) 0 aa ae ag ab r1 r2 x3).bind fun z1=>
 rec z1.1 z1.2.1 z1.2.2.1 z1.2.2.2.1 z1.2.2.2.2.1 z1.2.2.2.2.2.1 z1.2.2.2.2.2.2
def Fu (k:Nat):Nat→Ub
 |0,_,_,_,_,_,_,_=>none
 |n+1,s7,aa,ae,ag,ab,r1,r2=>Bq k (Fu k n) s7 aa ae ag ab r1 r2
def Jx (k:Nat)(aZ:List zN)(bA:EQ)(bz:AC)(bm:EQ)(a1:List zF)(a2:Int):Option (AC×Int):=
 (AK k a1 a2).bind fun x0=>
 (vd k k 0 (aZ.length:Int) 0 aZ bA bz bm [] x0).bind fun z=>
 (Fu k k z.1 z.2.1 z.2.2.1 z.2.2.2.1 z.2.2.2.2.1 z.2.2.2.2.2.1 z.2.2.2.2.2.2).bind fun z2=>
 some (z2.2,z2.1)
abbrev Ue:Type:=(List zF)×(List zN)×EQ×AC×EQ×(List zF)
abbrev Uc:Type:=List zF→Int→Int→List zN→EQ→AC→EQ→List zF→Option Ue
def Br (k:Nat)(rec:Uc)(s7:List zF)(im dR:Int)(aa:List zN)(ae:EQ)(ag:AC)(ab:EQ)(r1:List zF):Option Ue:=
 bif decide (dR < im) then (bif zD dR r1.length then ((mA k s7 (r1.getD dR.toNat (0,0,0,0,0,0,0)).1).bind fun x4=>
   rec x4.1 im (zA (dR+1)) aa ae ag ab r1)
  else none)
 else some (s7,aa,ae,ag,ab,r1)
def vf (k:Nat):Nat→Uc
 |0,_,_,_,_,_,_,_,_=>none
 |n+1,s7,im,dR,aa,ae,ag,ab,r1=>Br k (vf k n) s7 im dR aa ae ag ab r1
def Bt (k:Nat)(aZ:List zN)(bA:EQ)(bz:AC)(bm:EQ)(a1:List zF)(a2:Int):Option GG:=
 (Jx k aZ bA bz bm a1 a2).bind fun x0=>
 (AK k a1 a2).bind fun x1=>
 (Bj k x1 x0.1).bind fun x2=>
 (mw k aZ bA bz bm x2).bind fun x3=>
 bif !(decide (x3.2.2.2.2=0)) then some (aZ,bA,bz,bm,a1,[])
 else(vf k k a1 (x2.length:Int) 0 x3.1 x3.2.1 x3.2.2.1 x3.2.2.2.1 x2).bind fun z=>
 some (lP z (z.1,z.2.2.2.2.2))
def vg (k:Nat)(aZ:List zN)(bA:EQ)(bz:AC)(bm:EQ)(a1:List zF)(a2:Int)(a3:Bool):Option GG:=
 (Fw k aZ bA bz bm a1 a2).bind fun x0=>
 bif !a3 then some (x0.1,x0.2.1,x0.2.2.1,x0.2.2.2.1,x0.2.2.2.2.1,x0.2.2.2.2.2)
 else(Bt k x0.1 x0.2.1 x0.2.2.1 x0.2.2.2.1 x0.2.2.2.2.1 a2).bind fun x1=>
 bif decide ((x1.2.2.2.2.2.length:Int)=0) then some (pU x1 x0.2.2.2.2.2)
 else(Fw k x1.1 x1.2.1 x1.2.2.1 x1.2.2.2.1 x1.2.2.2.2.1 a2).bind fun x2=>
 bif zU (x0.2.2.2.2.2.length + x1.2.2.2.2.2.length) 56 then (bif zU ((x0.2.2.2.2.2 ++ x1.2.2.2.2.2).length + x2.2.2.2.2.2.length) 56 then (let y0:List zF:=((x0.2.2.2.2.2++x1.2.2.2.2.2)++x2.2.2.2.2.2)
   some (pU x2 y0))
  else none)
 else none
abbrev Uh:Type:=(List zF)×Int×Int×(List qB)
abbrev Uf:Type:=List zF→Int→Int→Int→Int→List qB→Int→Int→Int→Int→Int→Int→Int→AC→Option Uh
def sD (k:Nat)(rec:Uf)(s8:List zF)(s9 av bF bW:Int)(r0:List qB)(au aD aE aJ aP aQ aR:Int)(r2:AC):Option Uh:=
 bif decide (bW < bF) then (bif zD bW r2.length then ((mD k (r2.getD bW.toNat 0) 18 [au,aD,aE,aJ]).bind fun x0=>
   bif zU (r0.length+1) 64 then(rec s8 s9 av bF (zA (bW+1)) (r0++[x0]) au aD aE aJ aP aQ aR r2)
   else none)
  else none)
 else some (s8,s9,av,r0)
def sC (k:Nat):Nat→Uf
 |0,_,_,_,_,_,_,_,_,_,_,_,_,_,_=>none
 |n+1,s8,s9,av,bF,bW,r0,au,aD,aE,aJ,aP,aQ,aR,r2=>sD k (sC k n) s8 s9 av bF bW r0 au aD aE aJ aP aQ aR r2
abbrev Uk:Type:=List qB
abbrev Ui:Type:=List zF→Int→Int→List qB→Option Uk
def Bu (k:Nat)(rec:Ui)(s8:List zF)(s9 av:Int)(r0:List qB):Option Uk:=
 bif decide (av < s9) then (bif zD av s8.length then ((sC k k s8 s9 av 2 0 r0 (s8.getD av.toNat (0,0,0,0,0,0,0)).1 (s8.getD av.toNat (0,0,0,0,0,0,0)).2.1 (s8.getD av.toNat (0,0,0,0,0,0,0)).2.2.1 (s8.getD av.toNat (0,0,0,0,0,0,0)).2.2.2.1 (s8.getD av.toNat (0,0,0,0,0,0,0)).2.2.2.2.1 (s8.getD av.toNat (0,0,0,0,0,0,0)).2.2.2.2.2.1 (s8.getD av.toNat (0,0,0,0,0,0,0)).2.2.2.2.2.2 [(s8.getD av.toNat (0,0,0,0,0,0,0)).2.1,(s8.getD av.toNat (0,0,0,0,0,0,0)).2.2.1]).bind fun z=>
   rec z.1 z.2.1 (zA (z.2.2.1+1)) z.2.2.2)
  else none)
 else some r0
def Fy (k:Nat):Nat→Ui
 |0,_,_,_,_=>none
 |n+1,s8,s9,av,r0=>Bu k (Fy k n) s8 s9 av r0
def JC (k:Nat)(a0:List zF):Option (List qB):=
 (Fy k k a0 (a0.length:Int) 0 []).bind fun z1=>
 some z1
def pI (k:Nat)(Lr:Int)(VL:List zN)(VM:EQ)(VN:AC)(VO:EQ)(VP:AC)(VQ:EQ)(GH:List zF)(VR:AC)(VT:Int)(VU a1:Bool):Option VD:=
 (vg k VL VM VN VO GH Lr a1).bind fun x0=>
 (JC k x0.2.2.2.2.2).bind fun x1=>
 some (Lr,(jN x0 (VP,VQ,x0.2.2.2.2.1,VR,VT,VU,x1)))
abbrev Uq:Type:=Int×(List wL)×Int×Int×Int×Int×(List zN)×EQ×AC×EQ×AC×EQ×(List zF)×AC×Int×Bool×Int×Int×Bool×(List qB)×(List zF)
abbrev Un:Type:=List zF→Int→Int→Int→List wL→Int→Int→Int→Int→List zN→EQ→AC→EQ→AC→EQ→List zF→AC→Int→Bool→Int→Int→Bool→List qB→List zF→Option Uq
def BB (k:Nat)(rec:Un)(dg:List zF)(ir dh aa:Int)(ae:List wL)(ag ab aW au:Int)(aD:List zN)(aE:EQ)(aJ:AC)(aP:EQ)(aQ:AC)(aR:EQ)(bQ:List zF)(bR:AC)(bj:Int)(aL:Bool)(bE mR:Int)(gO:Bool)(r3:List qB)(r4:List zF):Option Uq:=
 bif decide (dh < ir) then (bif zD dh dg.length then ((P2 k (dg.getD dh.toNat (0,0,0,0,0,0,0)).1 (dg.getD dh.toNat (0,0,0,0,0,0,0)).2.1 (dg.getD dh.toNat (0,0,0,0,0,0,0)).2.2.1 (dg.getD dh.toNat (0,0,0,0,0,0,0)).2.2.2.1 (dg.getD dh.toNat (0,0,0,0,0,0,0)).2.2.2.2.1 (dg.getD dh.toNat (0,0,0,0,0,0,0)).2.2.2.2.2.1 (dg.getD dh.toNat (0,0,0,0,0,0,0)).2.2.2.2.2.2 au).bind fun x2=>
   bif x2 then ((mD k (dg.getD dh.toNat (0,0,0,0,0,0,0)).2.1 21 [(dg.getD dh.toNat (0,0,0,0,0,0,0)).1]).bind fun x3=>
    bif zU (r3.length+1) 64 then(rec dg ir (zA (dh+1)) aa ae ag ab aW au aD aE aJ aP aQ aR bQ bR bj aL bE mR gO (r3++[x3]) r4)
    else none)
   else bif zU (r4.length + 1) 56 then (let y0:List zF:=(r4++[(dg.getD dh.toNat (0,0,0,0,0,0,0))])
    rec dg ir (zA (dh+1)) aa ae ag ab aW au aD aE aJ aP aQ aR bQ bR bj aL bE mR gO r3 y0)
   else none)
  else none)
 else some (aa,ae,ag,ab,aW,au,aD,aE,aJ,aP,aQ,aR,bQ,bR,bj,aL,bE,mR,gO,r3,r4)
def BA (k:Nat):Nat→Un
 |0,_,_,_,_,_,_,_,_,_,_,_,_,_,_,_,_,_,_,_,_,_,_,_,_=>none
 |n+1,dg,ir,dh,aa,ae,ag,ab,aW,au,aD,aE,aJ,aP,aQ,aR,bQ,bR,bj,aL,bE,mR,gO,r3,r4=>BB k (BA k n) dg ir dh aa ae ag ab aW au aD aE aJ aP aQ aR bQ bR bj aL bE mR gO r3 r4
def vl (k:Nat)(Ln:Int)(Lp:List wL)(Lq CD CE Lt:Int)(Wb:List zN)(Wc:EQ)(Wd:AC)(We:EQ)(Wg:AC)(Wh:EQ)(GI:List zF)(Wi:AC)(Wj:Int)(Lu:Bool):Option VD:=
 bif Lu then some (Lt,Wb,Wc,Wd,We,Wg,Wh,GI,Wi,Wj,Lu,[])
 else(BC k Ln Lp Lq CD CE (zA (Lt+1))).bind fun x0=>
 bif x0 then ((JE k (zA (Lt+1)) Wb Wc Wd We Wg Wh GI Wi Wj Lu).bind fun x1=>
  some (x1.1,x1.2.1,x1.2.2.1,x1.2.2.2.1,x1.2.2.2.2.1,x1.2.2.2.2.2.1,x1.2.2.2.2.2.2.1,x1.2.2.2.2.2.2.2.1,x1.2.2.2.2.2.2.2.2.1,x1.2.2.2.2.2.2.2.2.2.1,x1.2.2.2.2.2.2.2.2.2.2.1,x1.2.2.2.2.2.2.2.2.2.2.2))
 else(BA k k GI (GI.length:Int) 0 Ln Lp Lq CD CE (zA (Lt+1)) Wb Wc Wd We Wg Wh GI Wi Wj Lu 0 0 false [] []).bind fun z=>
 (JF k z.1 z.2.1 z.2.2.1 z.2.2.2.1 z.2.2.2.2.1 z.2.2.2.2.2.1).bind fun x4=>
 (pI k z.2.2.2.2.2.1 z.2.2.2.2.2.2.1 z.2.2.2.2.2.2.2.1 z.2.2.2.2.2.2.2.2.1 z.2.2.2.2.2.2.2.2.2.1 z.2.2.2.2.2.2.2.2.2.2.1 z.2.2.2.2.2.2.2.2.2.2.2.1 z.2.2.2.2.2.2.2.2.2.2.2.2.2.2.2.2.2.2.2.2 z.2.2.2.2.2.2.2.2.2.2.2.2.2.1 z.2.2.2.2.2.2.2.2.2.2.2.2.2.2.1 z.2.2.2.2.2.2.2.2.2.2.2.2.2.2.2.1 x4).bind fun x5=>
 bif zU (z.2.2.2.2.2.2.2.2.2.2.2.2.2.2.2.2.2.2.2.1.length + x5.2.2.2.2.2.2.2.2.2.2.2.length) 64 then (let y1:List qB:=(z.2.2.2.2.2.2.2.2.2.2.2.2.2.2.2.2.2.2.2.1++x5.2.2.2.2.2.2.2.2.2.2.2)
  some (ta x5 y1))
 else none
def qVv (k:Nat)(a0:il)(a1:(Int×Int×Int×Int×Int×Int)):Option (Int×wT):=
 (yS k a1.2.1 0 (zA (a0.1-1))).bind fun x0=>
 bif !x0 then some (1,(vB a0 []))
 else(yS k a1.2.2.2.1 1 3).bind fun x1=>
 bif !x1 then some (1,(vB a0 []))
 else(BE k (vS a0) a0.2.2.2.2.2.1 (a1.1,a0.2.2.2.2.2.2.2.2.2.2.2.2.2.2.2.2,a1.2)).bind fun x2=>
 bif !(decide (x2=0)) then some (x2,(vB a0 []))
 else(A6 k a0.2.2.2.2.2.2.2.2.2.2.2.2.2.1 a1.1).bind fun x3=>
 bif !(decide (x3.2=0)) then some (x3.2,(vB a0 []))
 else(ss k a0.2.2.2.2.2.2.2.2.2.2.2.2.1 (a1.1,a0.2.2.2.2.2.2.2.2.2.2.2.2.2.2.2.2,a1.2)).bind fun x4=>
 bif !(decide (x4.2=0)) then some (x4.2,(vB a0 []))
 else some (0,(mL a0 (x4.1,x3.1,a0.2.2.2.2.2.2.2.2.2.2.2.2.2.2.1,a0.2.2.2.2.2.2.2.2.2.2.2.2.2.2.2.1,a0.2.2.2.2.2.2.2.2.2.2.2.2.2.2.2.2,[])))
def K1 (k:Nat)(a0:il)(a1:zF):Option (Int×wT):=
 (R7 k (vB a0 []) a1.2.1).bind fun x0=>
 bif !(decide (x0.2=0)) then some (x0.2,(vB a0 []))
 else bif decide (a1.1 = 2) then ((mA k a0.2.2.2.2.2.2.2.2.2.2.2.2.1 a1.2.1).bind fun x1=>
  (JU k (mL a0 (x1.1,a0.2.2.2.2.2.2.2.2.2.2.2.2.2)) 20 [a1.2.1]).bind fun x2=>
  some (x1.2.2.2.2.2.2.2.2,x2))
 else bif decide (a1.1 = 4) then ((yS k a1.2.2.1 1 3).bind fun x3=>
  bif !x3 then some (1,(vB a0 []))
  else(vm k (vS a0) a0.2.2.2.2.2.1 a1.2.2.1).bind fun x4=>
  bif !(decide (x4=0)) then some (x4,(vB a0 []))
  else(AZ k a0.2.2.2.2.2.2.2.2.2.2.2.2.1 a1.2.1 a1.2.2.1).bind fun x5=>
  some (x5.2,(mL a0 (x5.1,(VG a0 [])))))
 else bif decide (a1.2.2.1 = 0) then ((A4 k a0.2.2.2.2.2.2.2.2.2.2.2.2.1 a1.2.1).bind fun x6=>
  some (x6.2,(mL a0 (x6.1,(VG a0 [])))))
 else bif decide (a1.2.2.1 = 1) then ((A0 k a0.2.2.2.2.2.2.2.2.2.2.2.2.1 a1.2.1).bind fun x7=>
  some (x7.2,(mL a0 (x7.1,(VG a0 [])))))
 else some (1,(vB a0 []))
def K2 (k:Nat)(a0:il)(a1:zF):Option (Int×wT):=
 (dM k a0.2.2.2.2.2.2.1 a0.2.2.2.2.2.2.2.1 a0.2.2.2.2.2.2.2.2.1 a0.2.2.2.2.2.2.2.2.2.1).bind fun x0=>
 bif decide (a1.1 = 5) then ((Sf k (vB a0 []) a1.2.1).bind fun x1=>
  bif !x1 then some (1,(vB a0 []))
  else(yS k a1.2.2.1 (-1) 1152921504606846976).bind fun x2=>
  bif !x2 then some (1,(vB a0 []))
  else bif zD a0.2.2.2.2.2.2.2.2.2.2.2.2.2.2.2.2 x0.2.1.length then (bif zD a1.2.1 (x0.2.1.getD a0.2.2.2.2.2.2.2.2.2.2.2.2.2.2.2.2.toNat []).length then (let y0:EQ:=(x0.2.1.set a0.2.2.2.2.2.2.2.2.2.2.2.2.2.2.2.2.toNat ((x0.2.1.getD a0.2.2.2.2.2.2.2.2.2.2.2.2.2.2.2.2.toNat []).set a1.2.1.toNat a1.2.2.1))
    some (0,(fu a0 (x0.1,y0,x0.2.2.1,x0.2.2.2,(VH a0 [])))))
   else none)
  else none)
 else bif decide (a1.1 = 6) then ((yS k a1.2.1 (-1) 1152921504606846976).bind fun x3=>
  bif !x3 then some (1,(vB a0 []))
  else bif zD a0.2.2.2.2.2.2.2.2.2.2.2.2.2.2.2.2 x0.2.2.1.length then (let y1:AC:=(x0.2.2.1.set a0.2.2.2.2.2.2.2.2.2.2.2.2.2.2.2.2.toNat a1.2.1)
   some (0,(fu a0 (x0.1,x0.2.1,y1,x0.2.2.2,(VH a0 [])))))
  else none)
 else(yS k a1.2.1 0 1152921504606846976).bind fun x4=>
 bif !x4 then some (1,(vB a0 []))
 else bif zD a0.2.2.2.2.2.2.2.2.2.2.2.2.2.2.2.2 x0.1.length then (let y2:List zN:=(x0.1.set a0.2.2.2.2.2.2.2.2.2.2.2.2.2.2.2.2.toNat ((x0.1.getD a0.2.2.2.2.2.2.2.2.2.2.2.2.2.2.2.2.toNat (0,0,0)).1,(x0.1.getD a0.2.2.2.2.2.2.2.2.2.2.2.2.2.2.2.2.toNat (0,0,0)).2.1,a1.2.1))
  some (0,(fu a0 (y2,x0.2.1,x0.2.2.1,x0.2.2.2,(VH a0 [])))))
 else none
def yC8 (k:Nat)(a0:il)(a1 a2:Int):Option (Int×wT):=
 (Gu k (vB a0 []) a1).bind fun x0=>
 bif !x0 then some (1,(vB a0 []))
 else(yS k a2 0 1099511627776).bind fun x1=>
 bif !x1 then some (1,(vB a0 []))
 else(BG k a0.2.2.2.2.2.2.2.2.2.2.2.1).bind fun x2=>
 bif zD a0.2.2.2.2.2.2.2.2.2.2.2.2.2.2.2.2 x2.length then ((mC k (x2.getD a0.2.2.2.2.2.2.2.2.2.2.2.2.2.2.2.2.toNat []) a1 a2).bind fun x3=>
  bif zD a0.2.2.2.2.2.2.2.2.2.2.2.2.2.2.2.2 x2.length then (let y0:EQ:=(x2.set a0.2.2.2.2.2.2.2.2.2.2.2.2.2.2.2.2.toNat x3)
   bif zD a0.2.2.2.2.2.2.2.2.2.2.2.2.2.2.2.2 y0.length then ((nQ k a0.2.1 a0.2.2.2.2.2.2.2.2.2.2.1 (y0.getD a0.2.2.2.2.2.2.2.2.2.2.2.2.2.2.2.2.toNat [])).bind fun x4=>
    bif zD a0.2.2.2.2.2.2.2.2.2.2.2.2.2.2.2.2 a0.2.2.2.2.2.2.1.length then (bif !x4.2 then some (8,(vB a0 []))
     else bif decide (x4.1>1152921504606846976) then some (8,(vB a0 []))
     else bif decide (x4.1 < (a0.2.2.2.2.2.2.1.getD a0.2.2.2.2.2.2.2.2.2.2.2.2.2.2.2.2.toNat (0, 0, 0)).2.1) then (bif decide ((zA ((a0.2.2.2.2.2.2.1.getD a0.2.2.2.2.2.2.2.2.2.2.2.2.2.2.2.2.toNat (0,0,0)).1+x4.1))<0) then some (9,(vB a0 []))
      else(dM k a0.2.2.2.2.2.2.1 a0.2.2.2.2.2.2.2.1 a0.2.2.2.2.2.2.2.2.1 a0.2.2.2.2.2.2.2.2.2.1).bind fun x5=>
      bif zD a0.2.2.2.2.2.2.2.2.2.2.2.2.2.2.2.2 x5.1.length then (let y1:List zN:=(x5.1.set a0.2.2.2.2.2.2.2.2.2.2.2.2.2.2.2.2.toNat ((x5.1.getD a0.2.2.2.2.2.2.2.2.2.2.2.2.2.2.2.2.toNat (0,0,0)).1,x4.1,(x5.1.getD a0.2.2.2.2.2.2.2.2.2.2.2.2.2.2.2.2.toNat (0,0,0)).2.2))
       some (0,(fu a0 (y1,x5.2.1,x5.2.2.1,x5.2.2.2,a0.2.2.2.2.2.2.2.2.2.2.1,y0,(qTv a0 [])))))
      else none)
     else(dM k a0.2.2.2.2.2.2.1 a0.2.2.2.2.2.2.2.1 a0.2.2.2.2.2.2.2.2.1 a0.2.2.2.2.2.2.2.2.2.1).bind fun x6=>
     bif zD a0.2.2.2.2.2.2.2.2.2.2.2.2.2.2.2.2 x6.1.length then (let y2:List zN:=(x6.1.set a0.2.2.2.2.2.2.2.2.2.2.2.2.2.2.2.2.toNat ((x6.1.getD a0.2.2.2.2.2.2.2.2.2.2.2.2.2.2.2.2.toNat (0,0,0)).1,x4.1,(x6.1.getD a0.2.2.2.2.2.2.2.2.2.2.2.2.2.2.2.2.toNat (0,0,0)).2.2))
      some (0,(fu a0 (y2,x6.2.1,x6.2.2.1,x6.2.2.2,a0.2.2.2.2.2.2.2.2.2.2.1,y0,(qTv a0 [])))))
     else none)
    else none)
   else none)
  else none)
 else none
def BI (k:Nat)(a0:il)(a1 a2 a3:Int):Option (Int×wT):=
 (yS k a2 0 (zA (a0.1-1))).bind fun x0=>
 bif !x0 then some (1,(vB a0 []))
 else(yS k a3 1 1099511627776).bind fun x1=>
 bif !x1 then some (1,(vB a0 []))
 else bif zD a2 a0.2.2.2.2.2.2.1.length then ((BJ k (a0.2.2.2.2.2.2.1.getD a2.toNat (0,0,0)) a3).bind fun x2=>
  bif decide (a1 = 11) then ((BK k (a0.2.2.2.2.2.2.1.getD a2.toNat (0,0,0)) a3 3).bind fun x3=>
   (BL k (a0.2.2.2.2.2.2.1.getD a2.toNat (0,0,0)) 3).bind fun x4=>
   bif decide (x4<a3) then some (9,(vB a0 []))
   else bif decide ((zA (a0.2.2.2.2.2.2.2.2.2.2.2.2.2.2.1-a3))<0) then some (9,(vB a0 []))
   else bif !(decide (x3.2=0)) then some (x3.2,(vB a0 []))
   else bif decide ((zA (a0.2.2.2.2.2.2.2.2.2.2.2.2.2.2.1-a3))>1152921504606846976) then some (8,(vB a0 []))
   else(dM k a0.2.2.2.2.2.2.1 a0.2.2.2.2.2.2.2.1 a0.2.2.2.2.2.2.2.2.1 a0.2.2.2.2.2.2.2.2.2.1).bind fun x5=>
   bif zD a2 x5.1.length then some (0,(fu a0 ((x5.1.set a2.toNat x3.1),x5.2.1,x5.2.2.1,x5.2.2.2,(Ll a0 ((zA (a0.2.2.2.2.2.2.2.2.2.2.2.2.2.2.1-a3)),a0.2.2.2.2.2.2.2.2.2.2.2.2.2.2.2.1,a0.2.2.2.2.2.2.2.2.2.2.2.2.2.2.2.2,[])))))
   else none)
  else bif !(decide (x2.2=0)) then some (x2.2,(vB a0 []))
  else bif decide ((zA (a0.2.2.2.2.2.2.2.2.2.2.2.2.2.2.1+a3))>1152921504606846976) then some (8,(vB a0 []))
  else(dM k a0.2.2.2.2.2.2.1 a0.2.2.2.2.2.2.2.1 a0.2.2.2.2.2.2.2.2.1 a0.2.2.2.2.2.2.2.2.2.1).bind fun x6=>
  bif zD a2 x6.1.length then some (0,(fu a0 ((x6.1.set a2.toNat x2.1),x6.2.1,x6.2.2.1,x6.2.2.2,(Ll a0 ((zA (a0.2.2.2.2.2.2.2.2.2.2.2.2.2.2.1+a3)),a0.2.2.2.2.2.2.2.2.2.2.2.2.2.2.2.1,a0.2.2.2.2.2.2.2.2.2.2.2.2.2.2.2.2,[])))))
  else none)
 else none
abbrev Uu:Type:=(il×AC×(List zN)×EQ×AC×EQ)⊕(Int×il)
abbrev Us:Type:=EQ→Int→Int→il→AC→List zN→EQ→AC→EQ→Option Uu
def BN (k:Nat)(rec:Us)(dR:EQ)(fy gM:Int)(b0:il)(r1:AC)(r3:List zN)(m4:EQ)(r5:AC)(m6:EQ):Option Uu:=
 bif decide (gM < fy) then (bif zD gM dR.length then ((nQ k b0.2.1 r1 (dR.getD gM.toNat [])).bind fun x4=>
   bif !x4.2 then some (.inr (8,b0))
   else bif decide (x4.1>1152921504606846976) then some (.inr (8,b0))
   else bif zD gM r3.length then (let y0:List zN:=(r3.set gM.toNat ((r3.getD gM.toNat (0,0,0)).1,x4.1,(r3.getD gM.toNat (0,0,0)).2.2))
    rec dR fy (zA (gM+1)) b0 r1 y0 m4 r5 m6)
   else none)
  else none)
 else some (.inl (b0,r1,r3,m4,r5,m6))
def pM (k:Nat):Nat→Us:=vF (fun _ _ _ _ _ _ _ _ _=>none) (BN k)
def JP (k:Nat)(a0:il)(a1 a2:Int):Option (Int×wT):=
 (Gu k (vB a0 []) a1).bind fun x0=>
 bif !x0 then some (1,(vB a0 []))
 else(yS k a2 0 1048576).bind fun x1=>
 bif !x1 then some (1,(vB a0 []))
 else(mC k a0.2.2.2.2.2.2.2.2.2.2.1 a1 a2).bind fun x2=>
 (dM k a0.2.2.2.2.2.2.1 a0.2.2.2.2.2.2.2.1 a0.2.2.2.2.2.2.2.2.1 a0.2.2.2.2.2.2.2.2.2.1).bind fun x3=>
 (pM k k a0.2.2.2.2.2.2.2.2.2.2.2.1 (a0.2.2.2.2.2.2.2.2.2.2.2.1.length:Int) 0 a0 x2 x3.1 x3.2.1 x3.2.2.1 x3.2.2.2).bind fun z=>
 match z with
 |.inl z1=>some (0,(fu z1.1 (qU2 z1 (z1.2.1,(P6 z1.1 [])))))
 |.inr z2=>some (wZ z2 [])
def JS (k:Nat)(a0:il)(a1:zF):Option (Int×wT):=
 bif decide (a1.1 = 1) then ((qVv k a0 a1.2).bind fun x0=>
  some (x0.1,x0.2))
 else bif decide (a1.1 = 2) then ((K1 k a0 a1).bind fun x1=>
  some (x1.1,x1.2))
 else bif decide (a1.1 = 3) then ((K1 k a0 a1).bind fun x2=>
  some (x2.1,x2.2))
 else bif decide (a1.1 = 4) then ((K1 k a0 a1).bind fun x3=>
  some (x3.1,x3.2))
 else bif decide (a1.1 = 5) then ((K2 k a0 a1).bind fun x4=>
  some (x4.1,x4.2))
 else bif decide (a1.1 = 6) then ((K2 k a0 a1).bind fun x5=>
  some (x5.1,x5.2))
 else bif decide (a1.1 = 7) then ((K2 k a0 a1).bind fun x6=>
  some (x6.1,x6.2))
 else bif decide (a1.1 = 8) then ((yC8 k a0 a1.2.1 a1.2.2.1).bind fun x7=>
  some (x7.1,x7.2))
 else bif decide (a1.1 = 10) then ((BI k a0 a1.1 a1.2.1 a1.2.2.1).bind fun x8=>
  some (x8.1,x8.2))
 else bif decide (a1.1 = 11) then ((BI k a0 a1.1 a1.2.1 a1.2.2.1).bind fun x9=>
  some (x9.1,x9.2))
 else bif decide (a1.1 = 12) then ((JP k a0 a1.2.1 a1.2.2.1).bind fun dA=>
  some (dA.1,dA.2))
 else some (0,(vB a0 []))
def dv (k:Nat)(a0:vZ)(a1:wK)(a2:qB):Option (wK×(List qB)×Int):=
 (BH k a0 a1 a2).bind fun x0=>
 bif !(decide (x0=0)) then some (a1,[],x0)
 else bif decide (a2.2.1 = 9) then ((FO k a1 a2.1).bind fun x1=>
  some (a1,x1,0))
 else bif !(decide (a2.1 = (-1))) then ((JU k (ek a0 (vK a1 a2.1)) 15 []).bind fun x2=>
  (JR k x2 a2.2).bind fun x3=>
  bif !(decide (x3.1=0)) then some (a1,[],x3.1)
  else bif decide (a2.2.1 = 14) then ((vl k a0.1 a0.2.1 a0.2.2.1 a0.2.2.2.1 a0.2.2.2.2 a1.1 a1.2.1 a1.2.2.1 a1.2.2.2.1 a1.2.2.2.2.1 a1.2.2.2.2.2.1 a1.2.2.2.2.2.2.1 a1.2.2.2.2.2.2.2.1 a1.2.2.2.2.2.2.2.2.1 a1.2.2.2.2.2.2.2.2.2.1 a1.2.2.2.2.2.2.2.2.2.2).bind fun x4=>
   some ((wB x4),x4.2.2.2.2.2.2.2.2.2.2.2,0))
  else(pI k x3.2.2.2.2.2.2.1 x3.2.2.2.2.2.2.2.1 x3.2.2.2.2.2.2.2.2.1 x3.2.2.2.2.2.2.2.2.2.1 x3.2.2.2.2.2.2.2.2.2.2.1 x3.2.2.2.2.2.2.2.2.2.2.2.1 x3.2.2.2.2.2.2.2.2.2.2.2.2.1 x3.2.2.2.2.2.2.2.2.2.2.2.2.2.1 x3.2.2.2.2.2.2.2.2.2.2.2.2.2.2.1 x3.2.2.2.2.2.2.2.2.2.2.2.2.2.2.2.1 x3.2.2.2.2.2.2.2.2.2.2.2.2.2.2.2.2.1 (decide (a2.2.1=13))).bind fun x5=>
  bif zU (x3.2.2.2.2.2.2.2.2.2.2.2.2.2.2.2.2.2.2.length + x5.2.2.2.2.2.2.2.2.2.2.2.length) 64 then (let y0:List qB:=(x3.2.2.2.2.2.2.2.2.2.2.2.2.2.2.2.2.2.2++x5.2.2.2.2.2.2.2.2.2.2.2)
   bif decide (a2.2.1 = 1) then ((lC k x5.2.2.2.2.2.2.2.1 a2.2.2.1).bind fun x6=>
    bif decide (x6 ≥ 0) then ((sH k (JT x3 y0) 19 [a2.2.2.1]).bind fun x7=>
     some ((wB x5),x7.2.2.2.2.2.2.2.2.2.2.2.2.2.2.2.2.2,0))
    else some ((wB x5),y0,0))
   else some ((wB x5),y0,0))
  else none)
 else(JS k (ek a0 (vK a1 a2.1)) a2.2).bind fun x8=>
 bif !(decide (x8.1=0)) then some (a1,[],x8.1)
 else bif decide (a2.2.1 = 14) then ((vl k a0.1 a0.2.1 a0.2.2.1 a0.2.2.2.1 a0.2.2.2.2 a1.1 a1.2.1 a1.2.2.1 a1.2.2.2.1 a1.2.2.2.2.1 a1.2.2.2.2.2.1 a1.2.2.2.2.2.2.1 a1.2.2.2.2.2.2.2.1 a1.2.2.2.2.2.2.2.2.1 a1.2.2.2.2.2.2.2.2.2.1 a1.2.2.2.2.2.2.2.2.2.2).bind fun x9=>
  some ((wB x9),x9.2.2.2.2.2.2.2.2.2.2.2,0))
 else(pI k x8.2.2.2.2.2.2.1 x8.2.2.2.2.2.2.2.1 x8.2.2.2.2.2.2.2.2.1 x8.2.2.2.2.2.2.2.2.2.1 x8.2.2.2.2.2.2.2.2.2.2.1 x8.2.2.2.2.2.2.2.2.2.2.2.1 x8.2.2.2.2.2.2.2.2.2.2.2.2.1 x8.2.2.2.2.2.2.2.2.2.2.2.2.2.1 x8.2.2.2.2.2.2.2.2.2.2.2.2.2.2.1 x8.2.2.2.2.2.2.2.2.2.2.2.2.2.2.2.1 x8.2.2.2.2.2.2.2.2.2.2.2.2.2.2.2.2.1 (decide (a2.2.1=13))).bind fun dA=>
 bif zU (x8.2.2.2.2.2.2.2.2.2.2.2.2.2.2.2.2.2.2.length + dA.2.2.2.2.2.2.2.2.2.2.2.length) 64 then (let y1:List qB:=(x8.2.2.2.2.2.2.2.2.2.2.2.2.2.2.2.2.2.2++dA.2.2.2.2.2.2.2.2.2.2.2)
  bif decide (a2.2.1 = 1) then ((lC k dA.2.2.2.2.2.2.2.1 a2.2.2.1).bind fun gP=>
   bif decide (gP ≥ 0) then ((sH k (JT x8 y1) 19 [a2.2.2.1]).bind fun mS=>
    some ((wB dA),mS.2.2.2.2.2.2.2.2.2.2.2.2.2.2.2.2.2,0))
   else some ((wB dA),y1,0))
  else some ((wB dA),y1,0))
 else none
def pP (k:Nat)(aT:dQ)(cz:vC)(a1:AC):Option (Int×dQ×vC):=
 (F1 k cz (zA (1-aT.1)) (zA (aT.2.1+1)) a1).bind fun x0=>
 bif decide (x0.1=0) then some (x0.1,((zA (1-aT.1)),(zA (aT.2.1+1)),0,false),x0.2)
 else some (x0.1,aT,x0.2)
def Qj (k:Nat)(a0:Int):Option Bool:=
 (yS k a0 0 1048576).bind fun x0=>
 some (!x0)
abbrev Uy:Type:=AC→Int→Int→Option (Unit⊕Int)
def BS (k:Nat)(rec:Uy)(s0:AC)(s7 s8:Int):Option (Unit⊕Int):=
 bif decide (s8 < s7) then (bif zD s8 s0.length then ((Qj k (s0.getD s8.toNat 0)).bind fun x0=>
   bif x0 then some (.inr s8)
   else rec s0 s7 (zA (s8+1)))
  else none)
 else some (.inl ())
def vv (k:Nat):Nat→Uy
 |0,_,_,_=>none
 |n+1,s0,s7,s8=>BS k (vv k n) s0 s7 s8
def Qk (k:Nat)(a0:AC):Option Int:=
 (vv k k a0 (a0.length:Int) 0).bind fun z=>
 match z with
 |.inl z1=>some (-1)
 |.inr z2=>some z2
def FX (k:Nat)(a0:AC):Option Bool:=
 (Qk k a0).bind fun x0=>
 some (decide (x0≥0))
def Ql (k:Nat)(a0:Int):Option Bool:=
 some (decide (a0>1099511627776))
abbrev UA:Type:=AC→Int→Int→Option (Unit⊕Int)
def BU (k:Nat)(rec:UA)(s0:AC)(s7 s8:Int):Option (Unit⊕Int):=
 bif decide (s8 < s7) then (bif zD s8 s0.length then ((Ql k (s0.getD s8.toNat 0)).bind fun x0=>
   bif x0 then some (.inr s8)
   else rec s0 s7 (zA (s8+1)))
  else none)
 else some (.inl ())
def vw (k:Nat):Nat→UA
 |0,_,_,_=>none
 |n+1,s0,s7,s8=>BU k (vw k n) s0 s7 s8
def Qm (k:Nat)(a0:AC):Option Int:=
 (vw k k a0 (a0.length:Int) 0).bind fun z=>
 match z with
 |.inl z1=>some (-1)
 |.inr z2=>some z2
def JZ (k:Nat)(a0:AC):Option Bool:=
 (Qm k a0).bind fun x0=>
 some (decide (x0≥0))
abbrev UC:Type:=EQ→Int→Int→vZ→wK→Option (Unit⊕Bool)
def BV (k:Nat)(rec:UC)(ir:EQ)(dh iY:Int)(b0:vZ)(b1:wK):Option (Unit⊕Bool):=
 bif decide (iY < dh) then (bif zD iY ir.length then ((nQ k b0.2.1 b1.2.2.2.2.2.1 (ir.getD iY.toNat [])).bind fun x1=>
   bif !x1.2 then some (.inr false)
   else bif decide (x1.1>1152921504606846976) then some (.inr false)
   else bif zD iY b1.2.1.length then (bif !(decide (x1.1=(b1.2.1.getD iY.toNat (0,0,0)).2.1)) then some (.inr false)
    else(JZ k (ir.getD iY.toNat [])).bind fun x2=>
    bif x2 then some (.inr false)
    else rec ir dh (zA (iY+1)) b0 b1)
   else none)
  else none)
 else some (.inl ())
def sJ (k:Nat):Nat→UC:=vF (fun _ _ _ _ _=>none) (BV k)
def FY (k:Nat)(a0:vZ)(a1:wK):Option Bool:=
 bif !(decide ((a1.2.2.2.2.2.1.length:Int)=(a0.2.1.length:Int))) then some false
 else bif !(decide ((a1.2.2.2.2.2.2.1.length:Int)=a0.1)) then some false
 else(FX k a1.2.2.2.2.2.1).bind fun x0=>
 bif x0 then some false
 else(sJ k k a1.2.2.2.2.2.2.1 (a1.2.2.2.2.2.2.1.length:Int) 0 a0 a1).bind fun z=>
 match z with
 |.inl z1=>some true
 |.inr z2=>some z2
abbrev UE:Type:=List zF→Int→Option (Unit⊕Bool)
def JW (k:Nat)(rec:UE)(s0:List zF)(s5:Int):Option (Unit⊕Bool):=
 bif decide (s5 > 0) then (bif zD s5 s0.length then (bif zD (zA (s5 - 1)) s0.length then ((AV k (s0.getD s5.toNat (0,0,0,0,0,0,0)).1 (s0.getD s5.toNat (0,0,0,0,0,0,0)).2.1 (s0.getD s5.toNat (0,0,0,0,0,0,0)).2.2.1 (s0.getD s5.toNat (0,0,0,0,0,0,0)).2.2.2.1 (s0.getD s5.toNat (0,0,0,0,0,0,0)).2.2.2.2.1 (s0.getD s5.toNat (0,0,0,0,0,0,0)).2.2.2.2.2.1 (s0.getD s5.toNat (0,0,0,0,0,0,0)).2.2.2.2.2.2 (s0.getD (zA (s5-1)).toNat (0,0,0,0,0,0,0)).1 (s0.getD (zA (s5-1)).toNat (0,0,0,0,0,0,0)).2.1 (s0.getD (zA (s5-1)).toNat (0,0,0,0,0,0,0)).2.2.1 (s0.getD (zA (s5-1)).toNat (0,0,0,0,0,0,0)).2.2.2.1 (s0.getD (zA (s5-1)).toNat (0,0,0,0,0,0,0)).2.2.2.2.1 (s0.getD (zA (s5-1)).toNat (0,0,0,0,0,0,0)).2.2.2.2.2.1 (s0.getD (zA (s5-1)).toNat (0,0,0,0,0,0,0)).2.2.2.2.2.2).bind fun x0=>
    bif decide (x0<0) then some (.inr false)
    else rec s0 (zA (s5-1)))
   else none)
  else none)
 else some (.inl ())
def FR (k:Nat):Nat→UE:=vF (fun _ _=>none) (JW k)
def JV (k:Nat)(a0:List zF):Option Bool:=
 (FR k k a0 (zA ((a0.length:Int)-1))).bind fun z=>
 match z with
 |.inl z1=>some true
 |.inr z2=>some z2
abbrev UI:Type:=(List zF)⊕Bool
abbrev UG:Type:=List zF→List zF→Int→Int→Option UI
def BP (k:Nat)(rec:UG)(s0 s5:List zF)(s6 s7:Int):Option UI:=
 bif decide (s7 < s6) then (bif zD s7 s5.length then ((lC k s0 (s5.getD s7.toNat (0,0,0,0,0,0,0)).1).bind fun x0=>
   bif !(decide (x0=s7)) then some (.inr false)
   else rec s0 s5 s6 (zA (s7+1)))
  else none)
 else some (.inl s0)
def vt (k:Nat):Nat→UG
 |0,_,_,_,_=>none
 |n+1,s0,s5,s6,s7=>BP k (vt k n) s0 s5 s6 s7
def FQ (k:Nat)(a0:List zF):Option Bool:=
 (vt k k a0 a0 (a0.length:Int) 0).bind fun z=>
 match z with
 | .inl z1 => bif decide ((z1.length : Int) ≤ 40) then ((JV k z1).bind fun x1=>
   some x1)
  else some false
 |.inr z2=>some z2
abbrev UJ:Type:=AC→Int→AC→Int→Int→Option (AC⊕Bool)
def BQ (k:Nat)(rec:UJ)(s0:AC)(s3:Int)(s6:AC)(s7 s8:Int):Option (AC⊕Bool):=
 bif decide (s8 < s7) then (bif zD s8 s6.length then (bif decide ((s6.getD s8.toNat 0)≤s3) then some (.inr false)
   else rec s0 (s6.getD s8.toNat 0) s6 s7 (zA (s8+1)))
  else none)
 else some (.inl s0)
def FU (k:Nat):Nat→UJ:=vF (fun _ _ _ _ _=>none) (BQ k)
def FT (k:Nat)(a0:AC):Option Bool:=
 (FU k k a0 0 a0 (a0.length:Int) 0).bind fun z=>
 match z with
 |.inl z1=>some (decide ((z1.length:Int)≤200))
 |.inr z2=>some z2
def Ji (k:Nat)(a0:AC)(a1:Int):Option Bool:=
 (A5 k a0 a1).bind fun x0=>
 some x0.2
def JY (k:Nat)(a0:zF)(a1:wK):Option Bool:=
 (zu k a1.2.1 a1.2.2.1 a1.2.2.2.1 a1.2.2.2.2.1 a0.1 a0.2.1 a0.2.2.1 a0.2.2.2.1 a0.2.2.2.2.1 a0.2.2.2.2.2.1 a0.2.2.2.2.2.2).bind fun x0=>
 bif !x0 then some true
 else bif decide (a0.2.2.2.2.2.1<0) then some true
 else(yS k a0.2.2.2.2.2.2 a0.2.2.2.2.2.1 1048576).bind fun x1=>
 bif !x1 then some true
 else(Ji k a1.2.2.2.2.2.2.2.2.1 a0.1).bind fun x2=>
 some (!x2)
abbrev UL:Type:=List zF→Int→Int→Int→List zN→EQ→AC→EQ→AC→EQ→List zF→AC→Int→Bool→Option (Unit⊕Int)
def BR (k:Nat)(rec:UL)(s0:List zF)(s7 s8 aa:Int)(ae:List zN)(ag:EQ)(ab:AC)(aW:EQ)(bb:AC)(bc:EQ)(cH:List zF)(cI:AC)(cJ:Int)(bH:Bool):Option (Unit⊕Int):=
 bif decide (s8 < s7) then (bif zD s8 s0.length then ((JY k (s0.getD s8.toNat (0,0,0,0,0,0,0)) (aa,ae,ag,ab,aW,bb,bc,cH,cI,cJ,bH)).bind fun x0=>
   bif x0 then some (.inr s8)
   else rec s0 s7 (zA (s8+1)) aa ae ag ab aW bb bc cH cI cJ bH)
  else none)
 else some (.inl ())
def vu (k:Nat):Nat→UL
 |0,_,_,_,_,_,_,_,_,_,_,_,_,_,_=>none
 |n+1,s0,s7,s8,aa,ae,ag,ab,aW,bb,bc,cH,cI,cJ,bH=>BR k (vu k n) s0 s7 s8 aa ae ag ab aW bb bc cH cI cJ bH
def Qi (k:Nat)(a0:List zF)(Wk:Int)(Wl:List zN)(Wm:EQ)(Wn:AC)(Wo:EQ)(Wp:AC)(Wq:EQ)(Wr:List zF)(Ws:AC)(Wt:Int)(Wu:Bool):Option Int:=
 (vu k k a0 (a0.length:Int) 0 Wk Wl Wm Wn Wo Wp Wq Wr Ws Wt Wu).bind fun z=>
 match z with
 |.inl z1=>some (-1)
 |.inr z2=>some z2
def JX (k:Nat)(a0:List zF)(Wk:Int)(Wl:List zN)(Wm:EQ)(Wn:AC)(Wo:EQ)(Wp:AC)(Wq:EQ)(Wr:List zF)(Ws:AC)(Wt:Int)(Wu:Bool):Option Bool:=
 (Qi k a0 Wk Wl Wm Wn Wo Wp Wq Wr Ws Wt Wu).bind fun x0=>
 some (decide (x0≥0))
def FV (k:Nat)(a0:wK):Option Bool:=
 (FQ k a0.2.2.2.2.2.2.2.1).bind fun x0=>
 bif x0 then ((FT k a0.2.2.2.2.2.2.2.2.1).bind fun x1=>
  bif x1 then ((JX k a0.2.2.2.2.2.2.2.1 a0.1 a0.2.1 a0.2.2.1 a0.2.2.2.1 a0.2.2.2.2.1 a0.2.2.2.2.2.1 a0.2.2.2.2.2.2.1 a0.2.2.2.2.2.2.2.1 a0.2.2.2.2.2.2.2.2.1 a0.2.2.2.2.2.2.2.2.2.1 a0.2.2.2.2.2.2.2.2.2.2).bind fun x2=>
   some (!x2))
  else some false)
 else some false
abbrev UP:Type:=vZ×wK×AC
abbrev UN:Type:=List zN→Int→Int→vZ→wK→AC→Option UP
def BY (k:Nat)(rec:UN)(kQ:List zN)(s45 Lv:Int)(b0:vZ)(b1:wK)(r2:AC):Option UP:=
 bif decide (Lv < s45) then (bif zD Lv kQ.length then (bif zU (r2.length+1) 8 then(rec kQ s45 (zA (Lv+1)) b0 b1 (r2++[(kQ.getD Lv.toNat (0,0,0)).1]))
   else none)
  else none)
 else some (b0,b1,r2)
def BX (k:Nat):Nat→UN:=vF (fun _ _ _ _ _ _=>none) (BY k)
def BW (k:Nat)(a0:vZ)(a1:wK):Option Bool:=
 (yS k a1.1 0 a0.2.2.2.1).bind fun x0=>
 bif !x0 then some false
 else(uM k a1.2.1 a1.2.2.1 a1.2.2.2.1 a1.2.2.2.2.1).bind fun x1=>
 bif !x1 then some false
 else bif !(decide ((a1.2.1.length:Int)=a0.1)) then some false
 else(FY k a0 a1).bind fun x2=>
 bif !x2 then some false
 else(FV k a1).bind fun x3=>
 bif !x3 then some false
 else(BX k k a1.2.1 (a1.2.1.length:Int) 0 a0 a1 []).bind fun z=>
 (uE k z.2.2).bind fun x4=>
 bif !x4.2 then some false
 else bif !(decide (x4.1=z.2.1.2.2.2.2.2.2.2.2.2.1)) then some false
 else(yS k x4.1 0 1152921504606846976).bind fun x5=>
 bif !x5 then some false
 else(BC k z.1.1 z.1.2.1 z.1.2.2.1 z.1.2.2.2.1 z.1.2.2.2.2 z.2.1.1).bind fun x6=>
 bif mY z.2.1.2.2.2.2.2.2.2.2.2.2 x6 then (bif !z.2.1.2.2.2.2.2.2.2.2.2.2 then some true
  else some (decide ((z.2.1.2.2.2.2.2.2.2.1.length:Int)=0)))
 else some false
abbrev US:Type:=Int×Bool×tm×AC×AC×vZ×dQ×wK
abbrev UQ:Type:=Int→Bool→EQ→Int→Int→tm→AC→AC→vZ→dQ→wK→Option US
def B7 (k:Nat)(rec:UQ)(s2:Int)(bV:Bool)(Lw:EQ)(wz mT:Int)(b0:tm)(r1 r2:AC)(b3:vZ)(b4:dQ)(b5:wK):Option US:=
 bif decide (mT < wz) then (bif zD mT Lw.length then ((pL k (Lw.getD mT.toNat [])).bind fun x8=>
   bif decide (x8.2 = 0) then ((dv k b3 b5 x8.1).bind fun x9=>
    rec s2 bV Lw wz (zA (mT+1)) b0 r1 r2 b3 b4 x9.1)
   else rec s2 bV Lw wz (zA (mT+1)) b0 r1 r2 b3 b4 b5)
  else none)
 else some (s2,bV,b0,r1,r2,b3,b4,b5)
def v8 (k:Nat):Nat→UQ:=vF (fun _ _ _ _ _ _ _ _ _ _ _=>none) (B7 k)
def iO (k:Nat)(a0:vZ)(a1:vC)(a2:Int):Option ((Int×vC×lR×dQ)⊕(Int×vC)):=
 (lK k a0).bind fun x0=>
 bif !x0 then some (.inr (1,a1))
 else bif decide (a2<1) then some (.inr (1,a1))
 else bif decide (a2>1000) then some (.inr (1,a1))
 else(F5 k a1).bind fun x1=>
 (iV k a0).bind fun x2=>
 (fq k x2).bind fun x3=>
 (J3 k a1 x3).bind fun x4=>
 match x4 with
 |.inl x5=>bif !(decide (x5.2.2.1=0)) then some (.inr (x5.2.2.1,x5.2.2.2.1))
  else(B6 k x5.1).bind fun x6=>
  bif !x6.2 then ((iV k a0).bind fun x7=>
   (v8 k k a2 x1.2.2.2.2 x5.2.1 (x5.2.1.length:Int) 0 (x5.2.2.2.1.1,x5.2.2.2.1.2.2.1,x5.2.2.2.1.2.2.2.2) x5.2.2.2.1.2.1 x5.2.2.2.1.2.2.2.1 a0 x5.2.2.2.2 x7).bind fun z=>
   bif z.2.1 then ((fq k z.2.2.2.2.2.2.2).bind fun dA=>
    (pP k z.2.2.2.2.2.2.1 (z.2.2.1.1,z.2.2.2.1,z.2.2.1.2.1,z.2.2.2.2.1,z.2.2.1.2.2) dA).bind fun gP=>
    bif !(decide (gP.1=0)) then some (.inr (gP.1,gP.2.2))
    else some (.inl (0,gP.2.2,(ek z.2.2.2.2.2.1 (CB z (z.1,false))),gP.2.1)))
   else some (.inl (0,(z.2.2.1.1,z.2.2.2.1,z.2.2.1.2.1,z.2.2.2.2.1,z.2.2.1.2.2),(ek z.2.2.2.2.2.1 (CB z (z.1,false))),z.2.2.2.2.2.2.1)))
  else(BW k a0 x6.1).bind fun mS=>
  bif !mS then ((iV k a0).bind fun mU=>
   (v8 k k a2 x1.2.2.2.2 x5.2.1 (x5.2.1.length:Int) 0 (x5.2.2.2.1.1,x5.2.2.2.1.2.2.1,x5.2.2.2.1.2.2.2.2) x5.2.2.2.1.2.1 x5.2.2.2.1.2.2.2.1 a0 x5.2.2.2.2 mU).bind fun z1=>
   bif z1.2.1 then ((fq k z1.2.2.2.2.2.2.2).bind fun tq=>
    (pP k z1.2.2.2.2.2.2.1 (z1.2.2.1.1,z1.2.2.2.1,z1.2.2.1.2.1,z1.2.2.2.2.1,z1.2.2.1.2.2) tq).bind fun qh=>
    bif !(decide (qh.1=0)) then some (.inr (qh.1,qh.2.2))
    else some (.inl (0,qh.2.2,(ek z1.2.2.2.2.2.1 (CB z1 (z1.1,false))),qh.2.1)))
   else some (.inl (0,(z1.2.2.1.1,z1.2.2.2.1,z1.2.2.1.2.1,z1.2.2.2.2.1,z1.2.2.1.2.2),(ek z1.2.2.2.2.2.1 (CB z1 (z1.1,false))),z1.2.2.2.2.2.2.1)))
  else(v8 k k a2 x1.2.2.2.2 x5.2.1 (x5.2.1.length:Int) 0 (x5.2.2.2.1.1,x5.2.2.2.1.2.2.1,x5.2.2.2.1.2.2.2.2) x5.2.2.2.1.2.1 x5.2.2.2.1.2.2.2.1 a0 x5.2.2.2.2 x6.1).bind fun z2=>
  bif z2.2.1 then ((fq k z2.2.2.2.2.2.2.2).bind fun CH=>
   (pP k z2.2.2.2.2.2.2.1 (z2.2.2.1.1,z2.2.2.2.1,z2.2.2.1.2.1,z2.2.2.2.2.1,z2.2.2.1.2.2) CH).bind fun mV=>
   bif !(decide (mV.1=0)) then some (.inr (mV.1,mV.2.2))
   else some (.inl (0,mV.2.2,(ek z2.2.2.2.2.2.1 (CB z2 (z2.1,false))),mV.2.1)))
  else some (.inl (0,(z2.2.2.1.1,z2.2.2.2.1,z2.2.2.1.2.1,z2.2.2.2.2.1,z2.2.2.1.2.2),(ek z2.2.2.2.2.2.1 (CB z2 (z2.1,false))),z2.2.2.2.2.2.2.1))
 |.inr CI=>bif !(decide (CI.2.2.1=0)) then some (.inr (CI.2.2.1,CI.2.2.2))
  else(B6 k CI.1).bind fun Lx=>
  bif !Lx.2 then ((iV k a0).bind fun tt=>
   none)
  else(BW k a0 Lx.1).bind fun w6=>
  bif !w6 then ((iV k a0).bind fun x22=>
   none)
  else none
def sO (k:Nat)(aT:lR)(cz:dQ)(ja:vC):Option (Bool×lR×dQ×vC):=
 some (aT.2.2.2.2.2.2.2.2.2.2.2.2.2.2.2.2.2,aT,cz,ja)
def Gz (k:Nat)(a0 a1:Int):Option (List qB):=
 some [(a0,16,a1,0,0,0,0,0)]
def P4 (k:Nat)(a0:zF):Option AC:=
 (kN k a0).bind fun x0=>
 bif !x0 then some []
 else(sb k a0.1).bind fun x1=>
 bif (decide (0 ≤ x1)) && (decide (x1 ≤ 6)) then ((sf k (qW [a0.2.1,a0.2.2.1,a0.2.2.2.1,a0.2.2.2.2.1,a0.2.2.2.2.2.1,a0.2.2.2.2.2.2] 0 (x1.toNat-0))).bind fun x2=>
  bif zU (1+x2.length) 1 then some ([(IntKind.wrap .u8 (a0.1))]++x2)
  else none)
 else none
def JL (k:Nat)(a0:qB):Option AC:=
 (P4 k a0.2).bind fun x0=>
 bif decide ((x0.length:Int)=0) then some []
 else(sf k [a0.1]).bind fun x1=>
 bif zU (x1.length+x0.length) 1 then some (x1++x0)
 else none
def F3 (k:Nat)(aT:dQ)(cz:vC)(a1:AC):Option (Int×dQ×vC):=
 (En k a1).bind fun x0=>
 bif !x0.2 then some (10,aT,cz)
 else bif aT.2.2.2 then some (10,aT,cz)
 else(sK k cz aT.1 x0.1).bind fun x1=>
 bif decide (x1.1=3) then some (10,aT,x1.2)
 else bif decide (x1.1 = 0) then ((pO k x1.2).bind fun x2=>
  bif decide (x2.1=0) then some (x2.1,(aT.1,aT.2.1,(zA (aT.2.2.1+1)),aT.2.2.2),x2.2)
  else some (x2.1,aT,x2.2))
 else bif decide (x1.1=0) then some (x1.1,(aT.1,aT.2.1,(zA (aT.2.2.1+1)),aT.2.2.2),x1.2)
 else some (x1.1,aT,x1.2)
def J8 (k:Nat)(aT:lR)(cz:dQ)(ja:vC)(a1:AC):Option (Int×lR×dQ×vC):=
 (F3 k cz ja a1).bind fun x0=>
 bif !(decide (x0.1=10)) then some (x0.1,aT,x0.2.1,x0.2.2)
 else(fq k (pQ aT)).bind fun x1=>
 (pP k x0.2.1 x0.2.2 x1).bind fun x2=>
 bif !(decide (x2.1=0)) then some (x2.1,aT,x2.2.1,x2.2.2)
 else(F3 k x2.2.1 x2.2.2 a1).bind fun x3=>
 some (x3.1,aT,x3.2.1,x3.2.2)
def J9 (k:Nat)(aT:dQ)(cz:vC):Option (Int×dQ×vC):=
 some (aT.2.2.1,aT,cz)
def Ca (k:Nat)(aT:lR)(cz:dQ)(ja:vC)(a1:Int)(a2:AC):Option ((List qB)×lR×dQ×vC):=
 (sO k aT cz ja).bind fun x0=>
 bif x0.1 then some ([],x0.2.1,x0.2.2.1,x0.2.2.2)
 else(lr k a2).bind fun x1=>
 bif !(decide (x1.2 = 0)) then ((Gz k a1 x1.2).bind fun x2=>
  some (x2,x0.2.1,x0.2.2.1,x0.2.2.2))
 else(dv k (vS x0.2.1) (pQ x0.2.1) (a1,x1.1)).bind fun x3=>
 bif !(decide (x3.2.2 = 0)) then ((Gz k a1 x3.2.2).bind fun x4=>
  some (x4,x0.2.1,x0.2.2.1,x0.2.2.2))
 else bif decide (x1.1.1=9) then some (x3.2.1,x0.2.1,x0.2.2.1,x0.2.2.2)
 else(JL k (a1,x1.1)).bind fun x5=>
 (J8 k x0.2.1 x0.2.2.1 x0.2.2.2 x5).bind fun x6=>
 bif decide (x6.1 = 0) then ((J9 k x6.2.2.1 x6.2.2.2).bind fun x7=>
  bif decide (x7.1 ≥ x6.2.1.2.2.2.2.2.2.2.2.2.2.2.2.2.2.2.2.1) then ((fq k x3.1).bind fun x8=>
   (pP k x7.2.1 x7.2.2 x8).bind fun x9=>
   bif decide (x9.1=11) then some (x3.2.1,(pU x6.2.1 (vK x3.1 (x6.2.1.2.2.2.2.2.2.2.2.2.2.2.2.2.2.2.2.1,true))),x9.2.1,x9.2.2)
   else some (x3.2.1,(pU x6.2.1 (vK x3.1 x6.2.1.2.2.2.2.2.2.2.2.2.2.2.2.2.2.2.2)),x9.2.1,x9.2.2))
  else some (x3.2.1,(pU x6.2.1 (vK x3.1 x6.2.1.2.2.2.2.2.2.2.2.2.2.2.2.2.2.2.2)),x7.2.1,x7.2.2))
 else bif decide (x6.1 = 10) then ((Gz k a1 10).bind fun dA=>
  some (dA,x6.2.1,x6.2.2.1,x6.2.2.2))
 else some ([],(VF x6.2.1 true),x6.2.2.1,x6.2.2.2)
def Kb (k:Nat)(a0:qB):Option Bool:=
 some (decide (a0.2.1=16))
abbrev UY:Type:=List qB→Int→Int→Option (Unit⊕Int)
def sP (k:Nat)(rec:UY)(s0:List qB)(s7 s8:Int):Option (Unit⊕Int):=
 bif decide (s8 < s7) then (bif zD s8 s0.length then ((Kb k (s0.getD s8.toNat (0,0,0,0,0,0,0,0))).bind fun x0=>
   bif x0 then some (.inr s8)
   else rec s0 s7 (zA (s8+1)))
  else none)
 else some (.inl ())
def F9 (k:Nat):Nat→UY:=vF (fun _ _ _=>none) (sP k)
def QE (k:Nat)(a0:List qB):Option Int:=
 (F9 k k a0 (a0.length:Int) 0).bind fun z=>
 match z with
 |.inl z1=>some (-1)
 |.inr z2=>some z2
def QD (k:Nat)(a0:List qB):Option Bool:=
 (QE k a0).bind fun x0=>
 some (decide (x0≥0))
def wb (k:Nat)(a0:List qB):Option Bool:=
 (QD k a0).bind fun x0=>
 some x0
def Kf (k:Nat)(a0:vC)(a1:wL):Option vC:=
 some (pU a0 (a1.1,a1.2,true,a0.2.2.2.2.2.2.2.2))
def za (k:Nat)(a0:vC):Option vC:=
 bif (decide (0 ≤ a0.2.2.1)) && (decide (a0.2.2.1 ≤ (a0.2.1.length : Int))) then (bif (decide (0≤a0.2.2.2.2.1))&&(decide (a0.2.2.2.2.1≤(a0.2.2.2.1.length:Int))) then some (a0.1,(List.take (a0.2.2.1.toNat-0) a0.2.1),a0.2.2.1,(List.take (a0.2.2.2.2.1.toNat-0) a0.2.2.2.1),a0.2.2.2.2.1,a0.2.2.2.2.2.1,a0.2.2.2.2.2.2.1,false,false,0)
  else none)
 else none
def GA (k:Nat):Option Bool:=
 some true
def yD7 (k:Nat)(a1:Int)(a2:AC):Option (List qB):=
 (GA k).bind fun x0=>
 bif x0 then some []
 else(lr k a2).bind fun x1=>
 bif !(decide (x1.2 = 0)) then ((Gz k a1 x1.2).bind fun x2=>
  some x2)
 else none
def U1 (k:Nat):Option wK:=
 some (0,[],[],[],[],[],[],[],[],0,false)
def Kg (k:Nat)(aT:lR)(cz:dQ)(ja:vC):Option (wK×lR×dQ×vC):=
 some ((pQ aT),aT,cz,ja)
def qS6 (k:Nat)(a1:Int):Option AC:=
 some []
def Ld (k:Nat)(a1:Int):Option (Int×AC×EQ):=
 (qS6 k a1).bind fun x0=>
 (Ep k x0).bind fun x1=>
 bif decide ((x1.1.length:Int)=0) then some (0,[],[])
 else bif zD 0 x1.1.length then (bif decide (((x1.1.getD 0 []).length:Int)<8) then some (0,[],[])
  else bif zD 0 x1.1.length then (bif decide (8 ≤ ((x1.1.getD 0 []).length : Int)) then ((mn k (List.take 8 (x1.1.getD 0 []))).bind fun x2=>
    bif zD 0 x2.1.length then (bif decide ((x2.1.getD 0 0)<1) then some (0,[],[])
     else bif zD 0 x2.1.length then (bif decide ((x2.1.getD 0 0)>4611686018427387904) then some (0,[],[])
      else bif zD 0 x2.1.length then (bif zD 0 x1.1.length then (bif decide (8 ≤ ((x1.1.getD 0 []).length : Int)) then (bif decide (1≤(x1.1.length:Int)) then some ((x2.1.getD 0 0),(List.drop 8 (x1.1.getD 0 [])),(qW x1.1 1 (x1.1.length-1)))
         else none)
        else none)
       else none)
      else none)
     else none)
    else none)
   else none)
  else none)
 else none
def qV9 (k:Nat):Option (Int×Int×AC×EQ×Bool):=
 (Ld k 0).bind fun x0=>
 bif decide (x0.1 > 0) then ((Ld k 1).bind fun x1=>
  bif decide (x1.1>x0.1) then some (x1.1,1,x1.2.1,x1.2.2,true)
  else some (x0.1,0,x0.2.1,x0.2.2,true))
 else(Ld k 1).bind fun x2=>
 bif decide (x2.1>0) then some (x2.1,1,x2.2.1,x2.2.2,true)
 else some (0,0,[],[],false)
def yK6 (k:Nat)(a1:AC):Option (AC×EQ×Int):=
 some ([],[],11)
def Le (k:Nat)(a1:AC):Option Int:=
 some 11
abbrev U4:Type:=Int×Bool×vZ×wK
abbrev U2:Type:=Int→Bool→Int→Int→vZ→wK→EQ→Option U4
def qVi (k:Nat)(rec:U2)(s2:Int)(bV:Bool)(wz mT:Int)(b0:vZ)(b1:wK)(r2:EQ):Option U4:=
 bif decide (mT < wz) then (bif zD mT r2.length then ((pL k (r2.getD mT.toNat [])).bind fun x7=>
   bif decide (x7.2 = 0) then ((dv k b0 b1 x7.1).bind fun x8=>
    rec s2 bV wz (zA (mT+1)) b0 x8.1 r2)
   else rec s2 bV wz (zA (mT+1)) b0 b1 r2)
  else none)
 else some (s2,bV,b0,b1)
def GB (k:Nat):Nat→U2:=vF (fun _ _ _ _ _ _ _=>none) (qVi k)
def yDc (k:Nat)(a0:vZ)(a2:Int):Option Int:=
 (lK k a0).bind fun x0=>
 bif !x0 then some 1
 else bif decide (a2<1) then some 1
 else bif decide (a2>1000) then some 1
 else(qV9 k).bind fun x1=>
 (iV k a0).bind fun x2=>
 (fq k x2).bind fun x3=>
 (yK6 k x3).bind fun x4=>
 bif !(decide (x4.2.2=0)) then some x4.2.2
 else(B6 k x4.1).bind fun x5=>
 bif !x5.2 then ((iV k a0).bind fun x6=>
  (GB k k a2 x1.2.2.2.2 (x4.2.1.length:Int) 0 a0 x6 x4.2.1).bind fun z=>
  bif z.2.1 then ((fq k z.2.2.2).bind fun x9=>
   (Le k x9).bind fun dA=>
   bif !(decide (dA=0)) then some dA
   else none)
  else none)
 else(BW k a0 x5.1).bind fun gP=>
 bif !gP then ((iV k a0).bind fun mS=>
  (GB k k a2 x1.2.2.2.2 (x4.2.1.length:Int) 0 a0 mS x4.2.1).bind fun z1=>
  bif z1.2.1 then ((fq k z1.2.2.2).bind fun mU=>
   (Le k mU).bind fun tq=>
   bif !(decide (tq=0)) then some tq
   else none)
  else none)
 else(GB k k a2 x1.2.2.2.2 (x4.2.1.length:Int) 0 a0 x5.1 x4.2.1).bind fun z2=>
 bif z2.2.1 then ((fq k z2.2.2.2).bind fun qh=>
  (Le k qh).bind fun CH=>
  bif !(decide (CH=0)) then some CH
  else none)
 else none
abbrev Lg:Type:=(lQ×lQ×(List (List qB))×(List qB))⊕(lQ×lR×dQ×tm×AC×AC×lQ×(List (List qB))×(List qB))
abbrev uG:Type:=(Int×(List ik)×Int×Int×vZ×lQ×tm×AC×AC×lR×dQ×lQ×(List (List qB))×(List qB))⊕(Int×(List ik)×Int×Int×vZ×lQ×tm×AC×AC×lQ×(List (List qB))×(List qB))→Option Lg
def gY (k:Nat)(rec:uG)(z:(Int×(List ik)×Int×Int×vZ×lQ×tm×AC×AC×lR×dQ×lQ×(List (List qB))×(List qB))⊕(Int×(List ik)×Int×Int×vZ×lQ×tm×AC×AC×lQ×(List (List qB))×(List qB))):Option Lg:=match z with
 | .inl z => bif decide (z.2.2.2.1 < z.2.2.1) then (bif zD z.2.2.2.1 z.2.1.length then (bif decide ((z.2.1.getD z.2.2.2.1.toNat (0, 0, [], 0, 0)).1 = 1) then ((Ca k z.2.2.2.2.2.2.2.2.2.1 z.2.2.2.2.2.2.2.2.2.2.1 (z.2.2.2.2.2.2.1.1,z.2.2.2.2.2.2.2.1,z.2.2.2.2.2.2.1.2.1,z.2.2.2.2.2.2.2.2.1,z.2.2.2.2.2.2.1.2.2) (z.2.1.getD z.2.2.2.1.toNat (0,0,[],0,0)).2.1 (z.2.1.getD z.2.2.2.1.toNat (0,0,[],0,0)).2.2.1).bind fun x4=>
     (lr k (z.2.1.getD z.2.2.2.1.toNat (0,0,[],0,0)).2.2.1).bind fun x5=>
     bif decide (x5.2 = 0) then ((wb k x4.1).bind fun x6=>
      bif !x6 then (bif decide ((x4.1.length : Int) > 0) then (bif zU (z.2.2.2.2.2.2.2.2.2.2.2.2.2.length + 1) 64 then (let y0:List qB:=(z.2.2.2.2.2.2.2.2.2.2.2.2.2++[((z.2.1.getD z.2.2.2.1.toNat (0,0,[],0,0)).2.1,x5.1)])
         bif zU (z.2.2.2.2.2.2.2.2.2.2.2.2.1.length + 1) 24 then (let y1:List (List qB):=(z.2.2.2.2.2.2.2.2.2.2.2.2.1++[x4.1])
          rec (.inl (z.1,z.2.1,z.2.2.1,(zA (z.2.2.2.1+1)),z.2.2.2.2.1,z.2.2.2.2.2.1,(x4.2.2.2.1,x4.2.2.2.2.2.1,x4.2.2.2.2.2.2.2),x4.2.2.2.2.1,x4.2.2.2.2.2.2.1,x4.2.1,x4.2.2.1,z.2.2.2.2.2.2.2.2.2.2.2.1,y1,y0)))
         else none)
        else none)
       else(sO k x4.2.1 x4.2.2.1 x4.2.2.2).bind fun x7=>
       bif !x7.1 then (bif zU (z.2.2.2.2.2.2.2.2.2.2.2.2.2.length + 1) 64 then (let y2:List qB:=(z.2.2.2.2.2.2.2.2.2.2.2.2.2++[((z.2.1.getD z.2.2.2.1.toNat (0,0,[],0,0)).2.1,x5.1)])
         bif zU (z.2.2.2.2.2.2.2.2.2.2.2.2.1.length + 1) 24 then (let y3:List (List qB):=(z.2.2.2.2.2.2.2.2.2.2.2.2.1++[x4.1])
          rec (.inl (z.1,z.2.1,z.2.2.1,(zA (z.2.2.2.1+1)),z.2.2.2.2.1,z.2.2.2.2.2.1,(x7.2.2.2.1,x7.2.2.2.2.2.1,x7.2.2.2.2.2.2.2),x7.2.2.2.2.1,x7.2.2.2.2.2.2.1,x7.2.1,x7.2.2.1,z.2.2.2.2.2.2.2.2.2.2.2.1,y3,y2)))
         else none)
        else none)
       else bif zU (z.2.2.2.2.2.2.2.2.2.2.2.2.1.length + 1) 24 then (let y4:List (List qB):=(z.2.2.2.2.2.2.2.2.2.2.2.2.1++[x4.1])
        rec (.inl (z.1,z.2.1,z.2.2.1,(zA (z.2.2.2.1+1)),z.2.2.2.2.1,z.2.2.2.2.2.1,(x7.2.2.2.1,x7.2.2.2.2.2.1,x7.2.2.2.2.2.2.2),x7.2.2.2.2.1,x7.2.2.2.2.2.2.1,x7.2.1,x7.2.2.1,z.2.2.2.2.2.2.2.2.2.2.2.1,y4,z.2.2.2.2.2.2.2.2.2.2.2.2.2)))
       else none)
      else bif zU (z.2.2.2.2.2.2.2.2.2.2.2.2.1.length + 1) 24 then (let y5:List (List qB):=(z.2.2.2.2.2.2.2.2.2.2.2.2.1++[x4.1])
       rec (.inl (z.1,z.2.1,z.2.2.1,(zA (z.2.2.2.1+1)),z.2.2.2.2.1,z.2.2.2.2.2.1,(x4.2.2.2.1,x4.2.2.2.2.2.1,x4.2.2.2.2.2.2.2),x4.2.2.2.2.1,x4.2.2.2.2.2.2.1,x4.2.1,x4.2.2.1,z.2.2.2.2.2.2.2.2.2.2.2.1,y5,z.2.2.2.2.2.2.2.2.2.2.2.2.2)))
      else none)
     else bif zU (z.2.2.2.2.2.2.2.2.2.2.2.2.1.length + 1) 24 then (let y6:List (List qB):=(z.2.2.2.2.2.2.2.2.2.2.2.2.1++[x4.1])
      rec (.inl (z.1,z.2.1,z.2.2.1,(zA (z.2.2.2.1+1)),z.2.2.2.2.1,z.2.2.2.2.2.1,(x4.2.2.2.1,x4.2.2.2.2.2.1,x4.2.2.2.2.2.2.2),x4.2.2.2.2.1,x4.2.2.2.2.2.2.1,x4.2.1,x4.2.2.1,z.2.2.2.2.2.2.2.2.2.2.2.1,y6,z.2.2.2.2.2.2.2.2.2.2.2.2.2)))
     else none)
    else bif decide ((z.2.1.getD z.2.2.2.1.toNat (0, 0, [], 0, 0)).1 = 2) then ((Kf k (z.2.2.2.2.2.2.1.1,z.2.2.2.2.2.2.2.1,z.2.2.2.2.2.2.1.2.1,z.2.2.2.2.2.2.2.2.1,z.2.2.2.2.2.2.1.2.2) (z.2.1.getD z.2.2.2.1.toNat (0,0,[],0,0)).2.2.2).bind fun x8=>
     bif zU (z.2.2.2.2.2.2.2.2.2.2.2.2.1.length + 1) 24 then (let y7:List (List qB):=(z.2.2.2.2.2.2.2.2.2.2.2.2.1++[[]])
      rec (.inl (z.1,z.2.1,z.2.2.1,(zA (z.2.2.2.1+1)),z.2.2.2.2.1,z.2.2.2.2.2.1,(x8.1,x8.2.2.1,x8.2.2.2.2),x8.2.1,x8.2.2.2.1,z.2.2.2.2.2.2.2.2.2.1,z.2.2.2.2.2.2.2.2.2.2.1,z.2.2.2.2.2.2.2.2.2.2.2.1,y7,z.2.2.2.2.2.2.2.2.2.2.2.2.2)))
     else none)
    else bif decide ((z.2.1.getD z.2.2.2.1.toNat (0, 0, [], 0, 0)).1 = 3) then ((za k (z.2.2.2.2.2.2.1.1,z.2.2.2.2.2.2.2.1,z.2.2.2.2.2.2.1.2.1,z.2.2.2.2.2.2.2.2.1,z.2.2.2.2.2.2.1.2.2)).bind fun x9=>
     (iO k z.2.2.2.2.1 x9 z.1).bind fun dA=>
     match dA with
     | .inl gP => bif zU (z.2.2.2.2.2.2.2.2.2.2.2.2.1.length + 1) 24 then (let y8:List (List qB):=(z.2.2.2.2.2.2.2.2.2.2.2.2.1++[[]])
       rec (.inl (z.1,z.2.1,z.2.2.1,(zA (z.2.2.2.1+1)),z.2.2.2.2.1,z.2.2.2.2.2.1,(gP.2.1.1,gP.2.1.2.2.1,gP.2.1.2.2.2.2),gP.2.1.2.1,gP.2.1.2.2.2.1,gP.2.2.1,gP.2.2.2,z.2.2.2.2.2.2.2.2.2.2.2.1,y8,z.2.2.2.2.2.2.2.2.2.2.2.2.2)))
      else none
     | .inr mS => bif zU (z.2.2.2.2.2.2.2.2.2.2.2.2.1.length + 1) 24 then (let y9:List (List qB):=(z.2.2.2.2.2.2.2.2.2.2.2.2.1++[[]])
       rec (.inr (z.1,z.2.1,z.2.2.1,(zA (z.2.2.2.1+1)),z.2.2.2.2.1,z.2.2.2.2.2.1,(mS.2.1,mS.2.2.2.1,mS.2.2.2.2.2),mS.2.2.1,mS.2.2.2.2.1,z.2.2.2.2.2.2.2.2.2.2.2.1,y9,z.2.2.2.2.2.2.2.2.2.2.2.2.2)))
      else none)
    else bif zU (z.2.2.2.2.2.2.2.2.2.2.2.2.1.length + 1) 24 then (let y10:List (List qB):=(z.2.2.2.2.2.2.2.2.2.2.2.2.1++[[]])
     rec (.inl (z.1,z.2.1,z.2.2.1,(zA (z.2.2.2.1+1)),(yXm z (y10,z.2.2.2.2.2.2.2.2.2.2.2.2.2)))))
    else none)
   else none)
  else some (.inr (z.2.2.2.2.2.1,z.2.2.2.2.2.2.2.2.2.1,z.2.2.2.2.2.2.2.2.2.2.1,z.2.2.2.2.2.2.1,z.2.2.2.2.2.2.2.1,z.2.2.2.2.2.2.2.2.1,z.2.2.2.2.2.2.2.2.2.2.2.1,z.2.2.2.2.2.2.2.2.2.2.2.2.1,z.2.2.2.2.2.2.2.2.2.2.2.2.2))
 | .inr z1 => bif decide (z1.2.2.2.1 < z1.2.2.1) then (bif zD z1.2.2.2.1 z1.2.1.length then (bif decide ((z1.2.1.getD z1.2.2.2.1.toNat (0, 0, [], 0, 0)).1 = 1) then ((yD7 k (z1.2.1.getD z1.2.2.2.1.toNat (0,0,[],0,0)).2.1 (z1.2.1.getD z1.2.2.2.1.toNat (0,0,[],0,0)).2.2.1).bind fun mU=>
     (lr k (z1.2.1.getD z1.2.2.2.1.toNat (0,0,[],0,0)).2.2.1).bind fun tq=>
     bif decide (tq.2 = 0) then ((wb k mU).bind fun qh=>
      bif !qh then (bif decide ((mU.length : Int) > 0) then (bif zU (z1.2.2.2.2.2.2.2.2.2.2.2.length + 1) 64 then (let y11:List qB:=(z1.2.2.2.2.2.2.2.2.2.2.2++[((z1.2.1.getD z1.2.2.2.1.toNat (0,0,[],0,0)).2.1,tq.1)])
         bif zU (z1.2.2.2.2.2.2.2.2.2.2.1.length + 1) 24 then (let y12:List (List qB):=(z1.2.2.2.2.2.2.2.2.2.2.1++[mU])
          rec (.inr (z1.1,z1.2.1,z1.2.2.1,(zA (z1.2.2.2.1+1)),(CC z1 (y12,y11)))))
         else none)
        else none)
       else(GA k).bind fun CH=>
       bif !CH then (bif zU (z1.2.2.2.2.2.2.2.2.2.2.2.length + 1) 64 then (let y13:List qB:=(z1.2.2.2.2.2.2.2.2.2.2.2++[((z1.2.1.getD z1.2.2.2.1.toNat (0,0,[],0,0)).2.1,tq.1)])
         bif zU (z1.2.2.2.2.2.2.2.2.2.2.1.length + 1) 24 then (let y14:List (List qB):=(z1.2.2.2.2.2.2.2.2.2.2.1++[mU])
          rec (.inr (z1.1,z1.2.1,z1.2.2.1,(zA (z1.2.2.2.1+1)),(CC z1 (y14,y13)))))
         else none)
        else none)
       else bif zU (z1.2.2.2.2.2.2.2.2.2.2.1.length + 1) 24 then (let y15:List (List qB):=(z1.2.2.2.2.2.2.2.2.2.2.1++[mU])
        rec (.inr (z1.1,z1.2.1,z1.2.2.1,(zA (z1.2.2.2.1+1)),(CC z1 (y15,z1.2.2.2.2.2.2.2.2.2.2.2)))))
       else none)
      else bif zU (z1.2.2.2.2.2.2.2.2.2.2.1.length + 1) 24 then (let y16:List (List qB):=(z1.2.2.2.2.2.2.2.2.2.2.1++[mU])
       rec (.inr (z1.1,z1.2.1,z1.2.2.1,(zA (z1.2.2.2.1+1)),(CC z1 (y16,z1.2.2.2.2.2.2.2.2.2.2.2)))))
      else none)
     else bif zU (z1.2.2.2.2.2.2.2.2.2.2.1.length + 1) 24 then (let y17:List (List qB):=(z1.2.2.2.2.2.2.2.2.2.2.1++[mU])
      rec (.inr (z1.1,z1.2.1,z1.2.2.1,(zA (z1.2.2.2.1+1)),(CC z1 (y17,z1.2.2.2.2.2.2.2.2.2.2.2)))))
     else none)
    else bif decide ((z1.2.1.getD z1.2.2.2.1.toNat (0, 0, [], 0, 0)).1 = 2) then ((Kf k (z1.2.2.2.2.2.2.1.1,z1.2.2.2.2.2.2.2.1,z1.2.2.2.2.2.2.1.2.1,z1.2.2.2.2.2.2.2.2.1,z1.2.2.2.2.2.2.1.2.2) (z1.2.1.getD z1.2.2.2.1.toNat (0,0,[],0,0)).2.2.2).bind fun mV=>
     bif zU (z1.2.2.2.2.2.2.2.2.2.2.1.length + 1) 24 then (let y18:List (List qB):=(z1.2.2.2.2.2.2.2.2.2.2.1++[[]])
      rec (.inr (z1.1,z1.2.1,z1.2.2.1,(zA (z1.2.2.2.1+1)),z1.2.2.2.2.1,z1.2.2.2.2.2.1,(mV.1,mV.2.2.1,mV.2.2.2.2),mV.2.1,mV.2.2.2.1,z1.2.2.2.2.2.2.2.2.2.1,y18,z1.2.2.2.2.2.2.2.2.2.2.2)))
     else none)
    else bif decide ((z1.2.1.getD z1.2.2.2.1.toNat (0, 0, [], 0, 0)).1 = 3) then ((za k (z1.2.2.2.2.2.2.1.1,z1.2.2.2.2.2.2.2.1,z1.2.2.2.2.2.2.1.2.1,z1.2.2.2.2.2.2.2.2.1,z1.2.2.2.2.2.2.1.2.2)).bind fun CI=>
     (iO k z1.2.2.2.2.1 CI z1.1).bind fun Lx=>
     match Lx with
     | .inl tt => bif zU (z1.2.2.2.2.2.2.2.2.2.2.1.length + 1) 24 then (let y19:List (List qB):=(z1.2.2.2.2.2.2.2.2.2.2.1++[[]])
       rec (.inl (z1.1,z1.2.1,z1.2.2.1,(zA (z1.2.2.2.1+1)),z1.2.2.2.2.1,z1.2.2.2.2.2.1,(tt.2.1.1,tt.2.1.2.2.1,tt.2.1.2.2.2.2),tt.2.1.2.1,tt.2.1.2.2.2.1,tt.2.2.1,tt.2.2.2,z1.2.2.2.2.2.2.2.2.2.1,y19,z1.2.2.2.2.2.2.2.2.2.2.2)))
      else none
     | .inr w6 => bif zU (z1.2.2.2.2.2.2.2.2.2.2.1.length + 1) 24 then (let y20:List (List qB):=(z1.2.2.2.2.2.2.2.2.2.2.1++[[]])
       rec (.inr (z1.1,z1.2.1,z1.2.2.1,(zA (z1.2.2.2.1+1)),z1.2.2.2.2.1,z1.2.2.2.2.2.1,(w6.2.1,w6.2.2.2.1,w6.2.2.2.2.2),w6.2.2.1,w6.2.2.2.2.1,z1.2.2.2.2.2.2.2.2.2.1,y20,z1.2.2.2.2.2.2.2.2.2.2.2)))
      else none)
    else bif zU (z1.2.2.2.2.2.2.2.2.2.2.1.length + 1) 24 then (let y21:List (List qB):=(z1.2.2.2.2.2.2.2.2.2.2.1++[[]])
     rec (.inr (z1.1,z1.2.1,z1.2.2.1,(zA (z1.2.2.2.1+1)),(CC z1 (y21,z1.2.2.2.2.2.2.2.2.2.2.2)))))
    else none)
   else none)
  else some (.inl (z1.2.2.2.2.2.1,z1.2.2.2.2.2.2.2.2.2.1,z1.2.2.2.2.2.2.2.2.2.2.1,z1.2.2.2.2.2.2.2.2.2.2.2))
def sQ (k:Nat):Nat→uG:=vF (fun _=>none) (gY k)
def Cb (k:Nat)(a0:vZ)(a1 a2:Int)(a3:List ik):Option ((List (List qB))×(List qB)×Int×(List zN)×EQ×AC×EQ×AC×EQ×(List zF)×AC×Int×Bool×Bool):=
 (Ke k a1).bind fun x0=>
 match x0 with
 |.inl x1=>(iO k a0 x1 a2).bind fun x2=>
  match x2 with
  |.inl x3=>bif !(decide (x3.1=0)) then some ([],[],0,[],[],[],[],[],[],[],[],0,false,false)
   else(sQ k k (.inl (a2,a3,(a3.length:Int),0,a0,(0,0,false,false),(x3.2.1.1,x3.2.1.2.2.1,x3.2.1.2.2.2.2),x3.2.1.2.1,x3.2.1.2.2.2.1,x3.2.2.1,x3.2.2.2,(0,0,false,false),[],[]))).bind fun z2=>
   match z2 with
   |.inl z3=>(U1 k).bind fun x22=>
    (GA k).bind fun x23=>
    some (z3.2.2.1,z3.2.2.2,(vK x22 (!x23)))
   |.inr z4=>(Kg k z4.2.1 z4.2.2.1 (z4.2.2.2.1.1,z4.2.2.2.2.1,z4.2.2.2.1.2.1,z4.2.2.2.2.2.1,z4.2.2.2.1.2.2)).bind fun Ly=>
    (sO k Ly.2.1 Ly.2.2.1 Ly.2.2.2).bind fun x25=>
    some (z4.2.2.2.2.2.2.2.1,z4.2.2.2.2.2.2.2.2,(vK Ly.1 (!x25.1)))
  |.inr CJ=>bif !(decide (CJ.1=0)) then some ([],[],0,[],[],[],[],[],[],[],[],0,false,false)
   else(sQ k k (.inr (a2,a3,(a3.length:Int),0,a0,(0,0,false,false),(CJ.2.1,CJ.2.2.2.1,CJ.2.2.2.2.2),CJ.2.2.1,CJ.2.2.2.2.1,(0,0,false,false),[],[]))).bind fun z5=>
   match z5 with
   |.inl z6=>(U1 k).bind fun x27=>
    (GA k).bind fun x28=>
    some (z6.2.2.1,z6.2.2.2,(vK x27 (!x28)))
   |.inr z7=>(Kg k z7.2.1 z7.2.2.1 (z7.2.2.2.1.1,z7.2.2.2.2.1,z7.2.2.2.1.2.1,z7.2.2.2.2.2.1,z7.2.2.2.1.2.2)).bind fun LA=>
    (sO k LA.2.1 LA.2.2.1 LA.2.2.2).bind fun x30=>
    some (z7.2.2.2.2.2.2.2.1,z7.2.2.2.2.2.2.2.2,(vK LA.1 (!x30.1)))
 |.inr x31=>(yDc k a0 a2).bind fun x32=>
  bif !(decide (x32=0)) then some ([],[],0,[],[],[],[],[],[],[],[],0,false,false)
  else none
def Ki (k:Nat)(w7 tu a1:Int):Option wL:=
 some ((zA ((zA (w7+(shr .i64 a1 32)))+(shr .i64 (zA (tu+(jO .i64 a1 4294967295))) 32))),(jO .i64 (zA (tu+(jO .i64 a1 4294967295))) 4294967295))
abbrev U6:Type:=AC→Int→Int→Int→Option wL
def Cc (k:Nat)(rec:U6)(s0:AC)(s5 aa ae:Int):Option wL:=
 bif decide (s5 < (s0.length : Int)) then (bif zD s5 s0.length then ((Ki k aa ae (s0.getD s5.toNat 0)).bind fun x0=>
   rec s0 (zA (s5+1)) x0.1 x0.2)
  else none)
 else some (aa,ae)
def Ge (k:Nat):Nat→U6
 |0,_,_,_,_=>none
 |n+1,s0,s5,aa,ae=>Cc k (Ge k n) s0 s5 aa ae
def Kk (k:Nat)(a0:AC):Option (Int×Bool):=
 (Ge k k a0 0 0 0).bind fun z=>
 bif decide (z.1<(-2147483648)) then some (0,false)
 else bif decide (z.1≥2147483648) then some (0,false)
 else some ((zA ((shl .i64 z.1 32)+z.2)),true)
def Om (k:Nat)(a0:AC)(iZ:List zN)(wv:EQ)(wx:AC)(tp:EQ):Option Bool:=
 some (!(decide ((a0.length:Int)=(tp.length:Int))))
abbrev U8:Type:=EQ→Int→Int→List zN→EQ→AC→EQ→Option (Unit⊕Int)
def yr (k:Nat)(rec:U8)(s0:EQ)(s7 s8:Int)(aa:List zN)(ae:EQ)(ag:AC)(ab:EQ):Option (Unit⊕Int):=
 bif decide (s8 < s7) then (bif zD s8 s0.length then ((Om k (s0.getD s8.toNat []) aa ae ag ab).bind fun x0=>
   bif x0 then some (.inr s8)
   else rec s0 s7 (zA (s8+1)) aa ae ag ab)
  else none)
 else some (.inl ())
def Ek (k:Nat):Nat→U8
 |0,_,_,_,_,_,_,_=>none
 |n+1,s0,s7,s8,aa,ae,ag,ab=>yr k (Ek k n) s0 s7 s8 aa ae ag ab
def On (k:Nat)(a0:EQ)(mN:List zN)(mO:EQ)(mP:AC)(mQ:EQ):Option Int:=
 (Ek k k a0 (a0.length:Int) 0 mN mO mP mQ).bind fun z=>
 match z with
 |.inl z1=>some (-1)
 |.inr z2=>some z2
def Ig (k:Nat)(a0:EQ)(mN:List zN)(mO:EQ)(mP:AC)(mQ:EQ):Option Bool:=
 (On k a0 mN mO mP mQ).bind fun x0=>
 some (decide (x0≥0))
abbrev Vd:Type:=(EQ×Int×Int×(List zN)×EQ×AC×EQ×AC)⊕Bool
abbrev Vb:Type:=Int→EQ→Int→Int→AC→Int→Int→List zN→EQ→AC→EQ→AC→Option Vd
def rY (k:Nat)(rec:Vb)(s5:Int)(aN:EQ)(cS bF:Int)(aV:AC)(dB aG:Int)(aa:List zN)(ae:EQ)(ag:AC)(ab:EQ)(r1:AC):Option Vd:=
 bif decide (aG < dB) then (bif zD aG aV.length then (bif zD aG ab.length then (bif zD s5 (ab.getD aG.toNat []).length then (bif !(decide (((ab.getD aG.toNat []).getD s5.toNat 0)=(zA (0-(aV.getD aG.toNat 0))))) then some (.inr false)
     else bif zU (r1.length+1) 8 then(rec s5 aN cS bF aV dB (zA (aG+1)) aa ae ag ab (r1++[(aV.getD aG.toNat 0)]))
     else none)
    else none)
   else none)
  else none)
 else some (.inl (aN,cS,bF,aa,ae,ag,ab,r1))
def mj (k:Nat):Nat→Vb
 |0,_,_,_,_,_,_,_,_,_,_,_,_=>none
 |n+1,s5,aN,cS,bF,aV,dB,aG,aa,ae,ag,ab,r1=>rY k (mj k n) s5 aN cS bF aV dB aG aa ae ag ab r1
abbrev Ve:Type:=EQ→Int→Int→List zN→EQ→AC→EQ→AC→Option (AC⊕Bool)
def rZ (k:Nat)(rec:Ve)(aN:EQ)(cS bF:Int)(aa:List zN)(ae:EQ)(ag:AC)(ab:EQ)(r1:AC):Option (AC⊕Bool):=
 bif decide (bF < cS) then (bif zD bF aN.length then ((mj k k bF aN cS bF (aN.getD bF.toNat []) ((aN.getD bF.toNat []).length:Int) 0 aa ae ag ab r1).bind fun z=>
   match z with
   |.inl z1=>rec z1.1 z1.2.1 (zA (z1.2.2.1+1)) z1.2.2.2.1 z1.2.2.2.2.1 z1.2.2.2.2.2.1 z1.2.2.2.2.2.2.1 z1.2.2.2.2.2.2.2
   |.inr z2=>some (.inr z2))
  else none)
 else some (.inl r1)
def mm (k:Nat):Nat→Ve
 |0,_,_,_,_,_,_,_,_=>none
 |n+1,aN,cS,bF,aa,ae,ag,ab,r1=>rZ k (mm k n) aN cS bF aa ae ag ab r1
def yt (k:Nat)(aZ:List zN)(bA:EQ)(bz:AC)(bm:EQ):Option Bool:=
 (Ig k bm aZ bA bz bm).bind fun x0=>
 bif x0 then some false
 else(mm k k bm (bm.length:Int) 0 aZ bA bz bm []).bind fun z3=>
 match z3 with
 |.inl z4=>(uE k z4).bind fun x1=>
  bif x1.2 then some (decide (x1.1=0))
  else some false
 |.inr z5=>some z5
abbrev Vj:Type:=Int×Int×Int×Int×Int×Int×Int×Int×Int×Int×Int×Int×Int×Int
abbrev Vh:Type:=AC→Int→Int→Int→Int→Int→Int→Int→Int→Int→Int→Int→Int→Int→Int→Int→Option Vj
def yGk (k:Nat)(rec:Vh)(s1:AC)(s6 aa ae ag ab aW bb bc au aD aE aJ aP aQ aR:Int):Option Vj:=
 bif decide (s6 < (s1.length : Int)) then (bif decide (s6 < 6) then (bif zD s6 s1.length then (bif decide (s6=0) then(rec s1 (zA (s6+1)) aa ae ag ab aW bb bc au (s1.getD s6.toNat 0) aE aJ aP aQ aR)
    else bif decide (s6=1) then(rec s1 (zA (s6+1)) aa ae ag ab aW bb bc au aD (s1.getD s6.toNat 0) aJ aP aQ aR)
    else bif decide (s6=2) then(rec s1 (zA (s6+1)) aa ae ag ab aW bb bc au aD aE (s1.getD s6.toNat 0) aP aQ aR)
    else bif decide (s6=3) then(rec s1 (zA (s6+1)) aa ae ag ab aW bb bc au aD aE aJ (s1.getD s6.toNat 0) aQ aR)
    else bif decide (s6=4) then(rec s1 (zA (s6+1)) aa ae ag ab aW bb bc au aD aE aJ aP (s1.getD s6.toNat 0) aR)
    else bif decide (s6=5) then(rec s1 (zA (s6+1)) aa ae ag ab aW bb bc au aD aE aJ aP aQ (s1.getD s6.toNat 0))
    else none)
   else none)
  else some (aa,ae,ag,ab,aW,bb,bc,au,aD,aE,aJ,aP,aQ,aR))
 else some (aa,ae,ag,ab,aW,bb,bc,au,aD,aE,aJ,aP,aQ,aR)
def Lh (k:Nat):Nat→Vh
 |0,_,_,_,_,_,_,_,_,_,_,_,_,_,_,_,_=>none
 |n+1,s1,s6,aa,ae,ag,ab,aW,bb,bc,au,aD,aE,aJ,aP,aQ,aR=>yGk k (Lh k n) s1 s6 aa ae ag ab aW bb bc au aD aE aJ aP aQ aR
def yHd (k:Nat)(a0:Int)(a1:AC):Option zF:=
 (Lh k k a1 0 0 0 0 0 0 0 0 a0 0 0 0 0 0 0).bind fun z=>
 some (z.2.2.2.2.2.2.2.1,z.2.2.2.2.2.2.2.2.1,z.2.2.2.2.2.2.2.2.2.1,z.2.2.2.2.2.2.2.2.2.2.1,z.2.2.2.2.2.2.2.2.2.2.2.1,z.2.2.2.2.2.2.2.2.2.2.2.2.1,z.2.2.2.2.2.2.2.2.2.2.2.2.2)
def GC (k:Nat)(a0 a1:Int)(a2:AC):Option qB:=
 (yHd k a1 a2).bind fun x0=>
 some (a0,x0)
def Vk (k:Nat)(a0:Int):Option Int:=
 bif decide (a0<0) then some (-1)
 else bif decide (a0≥24) then some (-1)
 else bif zD a0 24 then some (List.getD [(-1),6,1,2,2,2,1,1,2,0,2,2,2,0,0,0,1,5,4,1,1,1,1,1] a0.toNat 0)
 else none
abbrev Vm:Type:=Int→Int→zF→Option (Int⊕Bool)
def yAm (k:Nat)(rec:Vm)(s3 s4:Int)(b0:zF):Option (Int⊕Bool):=
 bif decide (s4 < 6) then (bif decide (s4 = 0) then (bif !(decide (b0.2.1=0)) then some (.inr false)
   else rec s3 (zA (s4+1)) b0)
  else bif decide (s4 = 1) then (bif !(decide (b0.2.2.1=0)) then some (.inr false)
   else rec s3 (zA (s4+1)) b0)
  else bif decide (s4 = 2) then (bif !(decide (b0.2.2.2.1=0)) then some (.inr false)
   else rec s3 (zA (s4+1)) b0)
  else bif decide (s4 = 3) then (bif !(decide (b0.2.2.2.2.1=0)) then some (.inr false)
   else rec s3 (zA (s4+1)) b0)
  else bif decide (s4 = 4) then (bif !(decide (b0.2.2.2.2.2.1=0)) then some (.inr false)
   else rec s3 (zA (s4+1)) b0)
  else bif decide (s4 = 5) then (bif !(decide (b0.2.2.2.2.2.2=0)) then some (.inr false)
   else rec s3 (zA (s4+1)) b0)
  else none)
 else some (.inl s3)
def Vo (k:Nat):Nat→Vm:=vF (fun _ _ _=>none) (yAm k)
def yD6 (k:Nat)(a0:zF):Option Bool:=
 (Vk k a0.1).bind fun x0=>
 (Vo k k x0 (vV false x0 0) a0).bind fun z=>
 match z with
 |.inl z1=>some (decide (z1≥0))
 |.inr z2=>some z2
abbrev Vr:Type:=AC×Int×AC
abbrev Vp:Type:=AC→Int→Int→AC→Option Vr
def qYr (k:Nat)(rec:Vp)(s0:AC)(s4 s5:Int)(r0:AC):Option Vr:=
 bif decide (s5 ≥ 0) then (bif zD s4 s0.length then (bif !(decide ((IntKind.wrap .u64 (s5)) < 0)) then (bif zU (r0.length+1) 1 then(rec s0 s4 (zA (s5-8)) (r0++[(IntKind.wrap .u8 ((shr .u64 (IntKind.wrap .u64 ((s0.getD s4.toNat 0))) (IntKind.wrap .u64 (s5)))))]))
    else none)
   else none)
  else none)
 else some (s0,s4,r0)
def Vs (k:Nat):Nat→Vp:=vF (fun _ _ _ _=>none) (qYr k)
abbrev Vt:Type:=AC→Int→AC→Option AC
def yGa (k:Nat)(rec:Vt)(s0:AC)(s4:Int)(r0:AC):Option AC:=
 bif decide (s4 < (s0.length : Int)) then ((Vs k k s0 s4 56 r0).bind fun z=>
  rec z.1 (zA (z.2.1+1)) z.2.2)
 else some r0
def Vv (k:Nat):Nat→Vt:=vF (fun _ _ _=>none) (yGa k)
def qVj (k:Nat)(a0:AC):Option AC:=
 (Vv k k a0 0 []).bind fun z1=>
 some z1
def yIc (k:Nat)(a0:zF):Option AC:=
 (yD6 k a0).bind fun x0=>
 bif !x0 then some []
 else(Vk k a0.1).bind fun x1=>
 bif (decide (0 ≤ x1)) && (decide (x1 ≤ 6)) then ((qVj k (qW [a0.2.1,a0.2.2.1,a0.2.2.2.1,a0.2.2.2.2.1,a0.2.2.2.2.2.1,a0.2.2.2.2.2.2] 0 (x1.toNat-0))).bind fun x2=>
  bif zU (1+x2.length) 1 then some ([(IntKind.wrap .u8 (a0.1))]++x2)
  else none)
 else none
def GD (k:Nat)(a0:qB):Option ik:=
 (yIc k a0.2).bind fun x0=>
 some (1,a0.1,x0,0,0)
def QK (k:Nat):Option Bool:=
 (Gf k 0).bind fun x0=>
 (GC k 0 1 [1,1,5,3,0,19]).bind fun x1=>
 (GD k x1).bind fun x2=>
 (GC k 1 1 [2,2,5,3,0,19]).bind fun x3=>
 (GD k x3).bind fun x4=>
 (GC k 2 1 [3,0,5,3,0,19]).bind fun x5=>
 (GD k x5).bind fun x6=>
 (GC k (-1) 13 []).bind fun x7=>
 (GD k x7).bind fun x8=>
 (Cb k x0 50000 10 [x2,x4,x6,x8]).bind fun x9=>
 bif x9.2.2.2.2.2.2.2.2.2.2.2.2.2 then (bif decide ((x9.1.length : Int) = 4) then (bif zD 3 x9.1.length then (bif decide (((x9.1.getD 3 []).length:Int)=6) then some (decide ((x9.2.2.2.2.2.2.2.2.2.1.length:Int)=0))
    else some false)
   else none)
  else some false)
 else some false
abbrev Vy:Type:=(List ik)×Int×pV×(List (List qB))×(List qB)
abbrev Vx:Type:=List ik→Int→Int→pV→List (List qB)→List qB→Option Vy
def Cg (k:Nat)(rec:Vx)(s1:List ik)(s6 s7:Int)(b0:pV)(r1:List (List qB))(r2:List qB):Option Vy:=
 bif decide (s7 < (r2.length : Int)) then (bif zD s7 r2.length then (bif decide ((r2.getD s7.toNat (0, 0, 0, 0, 0, 0, 0, 0)).2.1 = 10) then (bif zD s7 r2.length then(rec s1 (zA (s6+(r2.getD s7.toNat (0,0,0,0,0,0,0,0)).2.2.2.1)) (zA (s7+1)) b0 r1 r2)
    else none)
   else bif decide ((r2.getD s7.toNat (0, 0, 0, 0, 0, 0, 0, 0)).2.1 = 11) then (bif zD s7 r2.length then(rec s1 (zA (s6-(r2.getD s7.toNat (0,0,0,0,0,0,0,0)).2.2.2.1)) (zA (s7+1)) b0 r1 r2)
    else none)
   else rec s1 s6 (zA (s7+1)) b0 r1 r2)
  else none)
 else some (s1,s6,b0,r1,r2)
def wg (k:Nat):Nat→Vx:=vF (fun _ _ _ _ _ _=>none) (Cg k)
abbrev VA:Type:=(Int×pV×(List (List qB))×(List qB))⊕Bool
abbrev Vz:Type:=List ik→Int→Int→pV→List (List qB)→List qB→Option VA
def Ch (k:Nat)(rec:Vz)(s1:List ik)(s6 s8:Int)(b0:pV)(r1:List (List qB))(r2:List qB):Option VA:=
 bif decide (s8 < (s1.length : Int)) then (bif zD s8 s1.length then (bif !(decide ((s1.getD s8.toNat (0,0,[],0,0)).1=1)) then some (.inr true)
   else rec s1 s6 (zA (s8+1)) b0 r1 r2)
  else none)
 else some (.inl (s6,b0,r1,r2))
def pR (k:Nat):Nat→Vz:=vF (fun _ _ _ _ _ _=>none) (Ch k)
abbrev VC:Type:=Int×pV×(List (List qB))×(List qB)×AC
abbrev VB:Type:=Int→Int→pV→List (List qB)→List qB→AC→Option VC
def Ck (k:Nat)(rec:VB)(s6 av:Int)(b0:pV)(r1:List (List qB))(r2:List qB)(r3:AC):Option VC:=
 bif decide (av < (b0.2.1.length : Int)) then (bif zD av b0.2.1.length then (bif zU (r3.length + 1) 8 then (let y0:AC:=(r3++[(b0.2.1.getD av.toNat (0,0,0)).1])
    rec s6 (zA (av+1)) b0 r1 r2 y0)
   else none)
  else none)
 else some (s6,b0,r1,r2,r3)
def wh (k:Nat):Nat→VB:=vF (fun _ _ _ _ _ _=>none) (Ck k)
def Kn (k:Nat)(a0:Int)(a1:List ik):Option Bool:=
 (Km k a1).bind fun x0=>
 bif x0 then some true
 else(Gf k a0).bind fun x1=>
 (Cb k x1 200000 20 a1).bind fun x2=>
 (wg k k a1 0 0 x2.2.2 x2.1 x2.2.1).bind fun z=>
 (pR k k z.1 z.2.1 0 z.2.2.1 z.2.2.2.1 z.2.2.2.2).bind fun z1=>
 match z1 with
 |.inl z2=>(wh k k z2.1 0 z2.2.1 z2.2.2.1 z2.2.2.2 []).bind fun z3=>
  (Kk k z3.2.2.2.2).bind fun x3=>
  bif z3.2.1.2.2.2.2.2.2.2.2.2.2.2 then (bif x3.2 then (bif decide (x3.1 = z3.1) then (bif decide (z3.2.1.2.2.2.2.2.2.2.2.2.1 = z3.1) then ((yt k z3.2.1.2.1 z3.2.1.2.2.1 z3.2.1.2.2.2.1 z3.2.1.2.2.2.2.1).bind fun x4=>
      bif x4 then ((QK k).bind fun x5=>
       some x5)
      else some false)
     else some false)
    else some false)
   else some false)
  else some false
 |.inr z4=>some z4
def yJ7 (k:Nat)(aZ:List (Int×Int×Int))(bA:EQ)(bz:AC)(bm:EQ)(VI mM pX wu tn VJ VK:Int):Option Bool:=
 bif decide (mM ≥ 0) then (bif decide (mM < (aZ.length : Int)) then (bif decide (pX ≥ 0) then (bif decide (pX < (aZ.length : Int)) then (bif !(decide (mM = pX)) then (bif decide (wu ≥ 1) then (bif decide (wu ≤ 1099511627776) then (bif decide (tn≥1) then some (decide (tn≤3))
        else some false)
       else some false)
      else some false)
     else some false)
    else some false)
   else some false)
  else some false)
 else some false
abbrev yC0:Type:=(List (Int×Int×Int×Int×Int×Int×Int))⊕Bool
abbrev yBf:Type:=List (Int×Int×Int×Int×Int×Int×Int)→Int→List (Int×Int×Int)→EQ→AC→EQ→Option yC0
def EJ (k:Nat)(rec:yBf)(s1:List (Int×Int×Int×Int×Int×Int×Int))(s5:Int)(aa:List (Int×Int×Int))(ae:EQ)(ag:AC)(ab:EQ):Option yC0:=
 bif decide (s5 < (s1.length : Int)) then (bif zD s5 s1.length then ((yJ7 k aa ae ag ab (s1.getD s5.toNat (0,0,0,0,0,0,0)).1 (s1.getD s5.toNat (0,0,0,0,0,0,0)).2.1 (s1.getD s5.toNat (0,0,0,0,0,0,0)).2.2.1 (s1.getD s5.toNat (0,0,0,0,0,0,0)).2.2.2.1 (s1.getD s5.toNat (0,0,0,0,0,0,0)).2.2.2.2.1 (s1.getD s5.toNat (0,0,0,0,0,0,0)).2.2.2.2.2.1 (s1.getD s5.toNat (0,0,0,0,0,0,0)).2.2.2.2.2.2).bind fun x0=>
   bif !x0 then some (.inr false)
   else rec s1 (zA (s5+1)) aa ae ag ab)
  else none)
 else some (.inl s1)
def OV (k:Nat):Nat→yBf
 |0,_,_,_,_,_,_=>none
 |n+1,s1,s5,aa,ae,ag,ab=>EJ k (OV k n) s1 s5 aa ae ag ab
def OU (k:Nat)(aZ:List (Int×Int×Int))(bA:EQ)(bz:AC)(bm:EQ)(a1:List (Int×Int×Int×Int×Int×Int×Int)):Option Bool:=
 (OV k k a1 0 aZ bA bz bm).bind fun z=>
 match z with
 |.inl z1=>some (decide ((z1.length:Int)≤64))
 |.inr z2=>some z2
abbrev qUl:Type:=EQ→Int→EQ→Option EQ
def EC (k:Nat)(rec:qUl)(s0:EQ)(s4:Int)(m0:EQ):Option EQ:=
 bif decide (s4 < (s0.length : Int)) then (bif zD s4 s0.length then (bif zU (0 + (s0.getD s4.toNat []).length) 8 then (bif zU (m0.length+1) 24 then(rec s0 (zA (s4+1)) (m0++[(s0.getD s4.toNat [])]))
    else none)
   else none)
  else none)
 else some m0
def OK (k:Nat):Nat→qUl
 |0,_,_,_=>none
 |n+1,s0,s4,m0=>EC k (OK k n) s0 s4 m0
def IF (k:Nat)(a0:EQ):Option EQ:=
 (OK k k a0 0 []).bind fun z=>
 some z
def OO (k:Nat)(aZ:List (Int×Int×Int))(bA:EQ)(bz:AC)(bm:EQ):Option ((List (Int×Int×Int))×EQ×AC×EQ):=
 bif zU (0 + aZ.length) 24 then ((IF k bA).bind fun x0=>
  bif zU (0 + bz.length) 8 then ((IF k bm).bind fun x1=>
   some (aZ,x0,bz,x1))
  else none)
 else none
abbrev yFm:Type:=List (Int×Int×Int×Int×Int×Int×Int)→Int→Int→Int→Int→Option (Int×Int)
def EL (k:Nat)(rec:yFm)(s0:List (Int×Int×Int×Int×Int×Int×Int))(s1 s6 s7 s8:Int):Option (Int×Int):=
 bif decide (s8 < (s0.length : Int)) then (bif zD s8 s0.length then (bif !(decide ((s0.getD s8.toNat (0,0,0,0,0,0,0)).2.1=s1)) then(rec s0 s1 s6 s7 (zA (s8+1)))
   else bif zD s8 s0.length then (bif decide ((s0.getD s8.toNat (0, 0, 0, 0, 0, 0, 0)).2.2.2.2.1 = 3) then (bif zD s8 s0.length then(rec s0 s1 (zA (s6+(s0.getD s8.toNat (0,0,0,0,0,0,0)).2.2.2.1)) s7 (zA (s8+1)))
     else none)
    else bif zD s8 s0.length then(rec s0 s1 s6 (zA (s7+(s0.getD s8.toNat (0,0,0,0,0,0,0)).2.2.2.1)) (zA (s8+1)))
    else none)
   else none)
  else none)
 else some (s6,s7)
def O3 (k:Nat):Nat→yFm
 |0,_,_,_,_,_=>none
 |n+1,s0,s1,s6,s7,s8=>EL k (O3 k n) s0 s1 s6 s7 s8
def O2 (k:Nat)(a0:List (Int×Int×Int×Int×Int×Int×Int))(a1:Int):Option (Int×Int):=
 (O3 k k a0 a1 0 0 0).bind fun z=>
 some (z.1,z.2)
def O4 (k:Nat)(a0:List (Int×Int×Int×Int×Int×Int×Int))(a1:Int):Option Int:=
 (O2 k a0 a1).bind fun x0=>
 some x0.2
def O5 (k:Nat)(pY pZ lS a1:Int):Option Int:=
 bif decide (a1≥lS) then some 0
 else some (zA (lS-a1))
abbrev yKh:Type:=List (Int×Int×Int×Int×Int×Int×Int)→Int→Int→Int→Int→Option Int
def EK (k:Nat)(rec:yKh)(s0:List (Int×Int×Int×Int×Int×Int×Int))(s1 s2 s7 s8:Int):Option Int:=
 bif decide (s8 < (s0.length : Int)) then (bif zD s8 s0.length then (bif decide ((s0.getD s8.toNat (0, 0, 0, 0, 0, 0, 0)).2.1 = s1) then (bif zD s8 s0.length then (bif decide ((s0.getD s8.toNat (0, 0, 0, 0, 0, 0, 0)).2.2.1 = s2) then (bif zD s8 s0.length then(rec s0 s1 s2 (zA (s7+(s0.getD s8.toNat (0,0,0,0,0,0,0)).2.2.2.1)) (zA (s8+1)))
      else none)
     else rec s0 s1 s2 s7 (zA (s8+1)))
    else none)
   else rec s0 s1 s2 s7 (zA (s8+1)))
  else none)
 else some s7
def O0 (k:Nat):Nat→yKh
 |0,_,_,_,_,_=>none
 |n+1,s0,s1,s2,s7,s8=>EK k (O0 k n) s0 s1 s2 s7 s8
def IN (k:Nat)(a0:List (Int×Int×Int×Int×Int×Int×Int))(a1 a2:Int):Option Int:=
 (O0 k k a0 a1 a2 0 0).bind fun z=>
 some z
def O1 (k:Nat)(a0:List (Int×Int×Int×Int×Int×Int×Int))(a1 a2:Int):Option Int:=
 (IN k a0 a1 a2).bind fun x0=>
 (IN k a0 a2 a1).bind fun x1=>
 some (zA (x0-x1))
abbrev yD9:Type:=EQ→Int→Int→Option (Unit⊕Bool)
def Er (k:Nat)(rec:yD9)(s0:EQ)(s1 s5:Int):Option (Unit⊕Bool):=
 bif decide (s5 < s1) then (bif zD s5 s0.length then (bif !(decide (((s0.getD s5.toNat []).length:Int)=s1)) then some (.inr false)
   else rec s0 s1 (zA (s5+1)))
  else none)
 else some (.inl ())
def OB (k:Nat):Nat→yD9
 |0,_,_,_=>none
 |n+1,s0,s1,s5=>Er k (OB k n) s0 s1 s5
def Iv (k:Nat)(a0:EQ)(a1:Int):Option Bool:=
 bif !(decide ((a0.length:Int)=a1)) then some false
 else(OB k k a0 a1 0).bind fun z=>
 match z with
 |.inl z1=>some true
 |.inr z2=>some z2
def Oy (k:Nat)(pY pZ lS:Int):Option Bool:=
 bif decide (pY > (-4611686018427387904)) then (bif decide (pY < 4611686018427387904) then (bif decide (pZ ≥ 0) then (bif decide (pZ ≤ 2305843009213693952) then (bif decide (lS≥0) then some (decide (lS≤2305843009213693952))
     else some false)
    else some false)
   else some false)
  else some false)
 else some false
def Is (k:Nat)(a0:Int):Option Bool:=
 bif decide (a0≥(-1)) then some (decide (a0≤2305843009213693952))
 else some false
abbrev yL0:Type:=(Int×Int×(List (Int×Int×Int))×EQ×AC×EQ)⊕Bool
abbrev qY9:Type:=Int→Int→Int→List (Int×Int×Int)→EQ→AC→EQ→Option yL0
def Es (k:Nat)(rec:qY9)(s3 s4 s5:Int)(aa:List (Int×Int×Int))(ae:EQ)(ag:AC)(ab:EQ):Option yL0:=
 bif decide (s5 < s3) then (bif zD s4 ae.length then (bif zD s5 (ae.getD s4.toNat []).length then ((Is k ((ae.getD s4.toNat []).getD s5.toNat 0)).bind fun x4=>
    bif !x4 then some (.inr false)
    else bif zD s4 ab.length then (bif zD s5 (ab.getD s4.toNat []).length then (bif decide (((ab.getD s4.toNat []).getD s5.toNat 0)≤(-72057594037927936)) then some (.inr false)
      else bif zD s4 ab.length then (bif zD s5 (ab.getD s4.toNat []).length then (bif decide (((ab.getD s4.toNat []).getD s5.toNat 0)≥72057594037927936) then some (.inr false)
        else bif zD s4 ab.length then (bif zD s5 (ab.getD s4.toNat []).length then (bif zD s5 ab.length then (bif zD s4 (ab.getD s5.toNat []).length then (bif !(decide (((ab.getD s4.toNat []).getD s5.toNat 0)=(zA (0-((ab.getD s5.toNat []).getD s4.toNat 0))))) then some (.inr false)
            else rec s3 s4 (zA (s5+1)) aa ae ag ab)
           else none)
          else none)
         else none)
        else none)
       else none)
      else none)
     else none)
    else none)
   else none)
  else none)
 else some (.inl (s3,s4,aa,ae,ag,ab))
def Iw (k:Nat):Nat→qY9
 |0,_,_,_,_,_,_,_=>none
 |n+1,s3,s4,s5,aa,ae,ag,ab=>Es k (Iw k n) s3 s4 s5 aa ae ag ab
abbrev yK4:Type:=Int→Int→List (Int×Int×Int)→EQ→AC→EQ→Option (Unit⊕Bool)
def Et (k:Nat)(rec:yK4)(s3 s4:Int)(aa:List (Int×Int×Int))(ae:EQ)(ag:AC)(ab:EQ):Option (Unit⊕Bool):=
 bif decide (s4 < s3) then (bif zD s4 aa.length then ((Oy k (aa.getD s4.toNat (0,0,0)).1 (aa.getD s4.toNat (0,0,0)).2.1 (aa.getD s4.toNat (0,0,0)).2.2).bind fun x2=>
   bif !x2 then some (.inr false)
   else bif zD s4 ag.length then ((Is k (ag.getD s4.toNat 0)).bind fun x3=>
    bif !x3 then some (.inr false)
    else(Iw k k s3 s4 0 aa ae ag ab).bind fun z=>
    match z with
    |.inl z1=>rec z1.1 (zA (z1.2.1+1)) z1.2.2.1 z1.2.2.2.1 z1.2.2.2.2.1 z1.2.2.2.2.2
    |.inr z2=>some (.inr z2))
   else none)
  else none)
 else some (.inl ())
def Ix (k:Nat):Nat→yK4
 |0,_,_,_,_,_,_=>none
 |n+1,s3,s4,aa,ae,ag,ab=>Et k (Ix k n) s3 s4 aa ae ag ab
def OD (k:Nat)(aZ:List (Int×Int×Int))(bA:EQ)(bz:AC)(bm:EQ):Option Bool:=
 bif decide ((aZ.length:Int)<1) then some false
 else bif decide ((aZ.length:Int)>6) then some false
 else(Iv k bA (aZ.length:Int)).bind fun x0=>
 bif !x0 then some false
 else(Iv k bm (aZ.length:Int)).bind fun x1=>
 bif !x1 then some false
 else bif !(decide ((bz.length:Int)=(aZ.length:Int))) then some false
 else(Ix k k (aZ.length:Int) 0 aZ bA bz bm).bind fun z3=>
 match z3 with
 |.inl z4=>some true
 |.inr z5=>some z5
abbrev yJh:Type:=(List (Int×Int×Int×Int×Int×Int×Int))×Int×(List (Int×Int×Int))×EQ×AC×EQ×(List (Int×Int×Int))×EQ×AC×EQ
abbrev yB8:Type:=List (Int×Int×Int×Int×Int×Int×Int)→Int→Int→List (Int×Int×Int)→EQ→AC→EQ→List (Int×Int×Int)→EQ→AC→EQ→Option yJh
def EM (k:Nat)(rec:yB8)(s1:List (Int×Int×Int×Int×Int×Int×Int))(s7 s8:Int)(aa:List (Int×Int×Int))(ae:EQ)(ag:AC)(ab:EQ)(r3:List (Int×Int×Int))(m4:EQ)(r5:AC)(m6:EQ):Option yJh:=
 bif decide (s8 < (r3.length : Int)) then ((O1 k s1 s7 s8).bind fun x4=>
  bif zD s7 r3.length then (bif zD s7 r3.length then (let y1:List (Int×Int×Int):=(r3.set s7.toNat ((zA ((r3.getD s7.toNat (0,0,0)).1-x4)),(r3.getD s7.toNat (0,0,0)).2))
    bif zD s7 m6.length then (bif zD s7 m6.length then (bif zD s8 (m6.getD s7.toNat []).length then (bif zD s8 (m6.getD s7.toNat []).length then (let y2:EQ:=(m6.set s7.toNat ((m6.getD s7.toNat []).set s8.toNat (zA (((m6.getD s7.toNat []).getD s8.toNat 0)+x4))))
        rec s1 s7 (zA (s8+1)) aa ae ag ab y1 m4 r5 y2)
       else none)
      else none)
     else none)
    else none)
   else none)
  else none)
 else some (s1,s7,aa,ae,ag,ab,r3,m4,r5,m6)
def IQ (k:Nat):Nat→yB8
 |0,_,_,_,_,_,_,_,_,_,_,_=>none
 |n+1,s1,s7,s8,aa,ae,ag,ab,r3,m4,r5,m6=>EM k (IQ k n) s1 s7 s8 aa ae ag ab r3 m4 r5 m6
abbrev qUp:Type:=(List (Int×Int×Int))×EQ×AC×EQ×(List (Int×Int×Int))×EQ×AC×EQ
abbrev yI9:Type:=List (Int×Int×Int×Int×Int×Int×Int)→Int→List (Int×Int×Int)→EQ→AC→EQ→List (Int×Int×Int)→EQ→AC→EQ→Option qUp
def EP (k:Nat)(rec:yI9)(s1:List (Int×Int×Int×Int×Int×Int×Int))(s7:Int)(aa:List (Int×Int×Int))(ae:EQ)(ag:AC)(ab:EQ)(r3:List (Int×Int×Int))(m4:EQ)(r5:AC)(m6:EQ):Option qUp:=
 bif decide (s7 < (r3.length : Int)) then (bif zD s7 r3.length then ((O4 k s1 s7).bind fun x2=>
   (O5 k (r3.getD s7.toNat (0,0,0)).1 (r3.getD s7.toNat (0,0,0)).2.1 (r3.getD s7.toNat (0,0,0)).2.2 x2).bind fun x3=>
   bif zD s7 r3.length then (let y0:List (Int×Int×Int):=(r3.set s7.toNat ((r3.getD s7.toNat (0,0,0)).1,(r3.getD s7.toNat (0,0,0)).2.1,x3))
    (IQ k k s1 s7 0 aa ae ag ab y0 m4 r5 m6).bind fun z=>
    rec z.1 (zA (z.2.1+1)) z.2.2.1 z.2.2.2.1 z.2.2.2.2.1 z.2.2.2.2.2.1 z.2.2.2.2.2.2.1 z.2.2.2.2.2.2.2.1 z.2.2.2.2.2.2.2.2.1 z.2.2.2.2.2.2.2.2.2)
   else none)
  else none)
 else some (aa,ae,ag,ab,r3,m4,r5,m6)
def IT (k:Nat):Nat→yI9
 |0,_,_,_,_,_,_,_,_,_,_=>none
 |n+1,s1,s7,aa,ae,ag,ab,r3,m4,r5,m6=>EP k (IT k n) s1 s7 aa ae ag ab r3 m4 r5 m6
def O7 (k:Nat)(aZ:List (Int×Int×Int))(bA:EQ)(bz:AC)(bm:EQ)(a1:List (Int×Int×Int×Int×Int×Int×Int)):Option ((List (Int×Int×Int))×EQ×AC×EQ×Int):=
 (OU k aZ bA bz bm a1).bind fun x0=>
 bif !x0 then some (aZ,bA,bz,bm,1)
 else(OO k aZ bA bz bm).bind fun x1=>
 (IT k k a1 0 aZ bA bz bm x1.1 x1.2.1 x1.2.2.1 x1.2.2.2).bind fun z1=>
 (OD k z1.2.2.2.2.1 z1.2.2.2.2.2.1 z1.2.2.2.2.2.2.1 z1.2.2.2.2.2.2.2).bind fun x5=>
 bif !x5 then some (jN z1 8)
 else some (qW2 z1 0)
end Go.Ab.Gi
