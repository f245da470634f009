/- part 5 -/
import Derived.Test.YtjmhjbihkkofeaaGreatGiAbD
set_option linter.unusedVariables false
set_option maxRecDepth 100000
abbrev Go.Ab.Ty.i:Go.Ab.Ty:=.int .i64
abbrev Go.Ab.CS.i:Go.Ab.CS:=.int .i64
abbrev Go.Ab.PC.i:Go.Ab.PC:=.int .i64
abbrev Go.Ab.RC.i:Go.Ab.RC:=.int .i64
namespace Go.Ab.Gi
abbrev AC:=List Int
abbrev EQ:=List AC
abbrev ij:Type:=AC×Bool
abbrev vL:Go.Ab.Ty:=.pair .i .i
abbrev vC:Type:=Int×AC×Int×AC×Int×Int×Int×Bool×Bool×Int
abbrev Cw:Type:=Int×Int×AC×Int×Int
abbrev lW:Type:=Int×Int×Bool×Bool
abbrev dQ:Type:=Int×Int×Bool
abbrev jP:Type:=Int×Int×Int×Bool
abbrev ke:Type:=Int×Int×Int×Int×Int×Bool×Bool×Int
abbrev qF:Type:=Int×Int×Int×Int×Int×Int×Int×Int
abbrev zE:Type:=Int×Int×Int×Int×Int×Int×Int
abbrev zM:Type:=Int×Int×Int
abbrev vF:Type:=Int×Int
abbrev GI:Type:=(List zM)×EQ×AC×EQ×(List zE)×(List zE)
abbrev Lm:Type:=(List zM)×EQ×AC×EQ
abbrev qZ:Go.Ab.Ty:=.pair .i vL
abbrev yD5:Type:=Bool×Int×Int×Int×Int×Int×Int×Int×Int×Int×Int×Int×Int×Int×Int×(List zM)×EQ×AC×EQ
abbrev VA:Type:=Int×(List zM)×EQ×AC×EQ×AC×EQ×(List zE)×AC×Int×Bool×(List qF)
abbrev vV:Type:=Int×(List zM)×EQ×AC×EQ×AC×EQ×(List zE)×AC×Int×Bool
abbrev wS:Type:=Int×(List vF)×Int×Int×Int×Int×(List zM)×EQ×AC×EQ×AC×EQ×(List zE)×AC×Int×Bool×Int×(List qF)
abbrev iW:Type:=Int×(List vF)×Int×Int×Int×Int×(List zM)×EQ×AC×EQ×AC×EQ×(List zE)×AC×Int×Bool×Int×Bool
abbrev ik:Type:=Int×(List vF)×Int×Int×Int×Int×(List zM)×EQ×AC×EQ×AC×EQ×(List zE)×AC×Int×Bool×Int
abbrev wA:Type:=Int×(List vF)×Int×Int×Int
abbrev yZx:Go.Ab.Ty:=.pair .i qZ
abbrev vE0:Go.Ab.Ty:=.pair .i yZx
abbrev vGc:Go.Ab.Ty:=.pair .i vE0
abbrev zI:Go.Ab.Ty:=.pair .i vGc
abbrev qV:Go.Ab.Ty:=.pair .i zI
abbrev SU:List Go.Ab.CS:=[.dat false .i,.dat false .i,.dat false (.sl .i)]
abbrev kU:List Go.Ab.CS:=[.dat false qZ,.dat false (.sl .i),.dat false .i,.dat false (.sl .i)]
abbrev Ch:List Go.Ab.CS:=[.dat true (.int .u8),.bool]
abbrev fb:List Go.Ab.CS:=[.dat true qZ,.dat true (.sl .i),.dat true .i,.dat true (.sl .i)]
abbrev K7:List Go.Ab.CS:=[.i,.dat false qZ,.dat false (.sl .i),.dat false .i,.dat false (.sl .i),.dat false .i,.dat false (.sl .i),.dat false zI,.dat false .i,.i,.bool]
abbrev sO:List Go.Ab.CS:=[.i,.dat false vL,.i,.i,.i]
abbrev ic:List Go.Ab.CS:=[.i,.dat true qZ,.dat true (.sl .i),.dat true .i,.dat true (.sl .i),.dat true .i,.dat true (.sl .i),.dat true zI,.dat true .i,.i,.bool]
abbrev Cu:List Go.Ab.CS:=[.i,.dat true vL,.i,.i,.i]
abbrev Sn:List Go.Ab.CS:=[.i,.dat true vL,.i,.i,.i,.i,.dat true qZ,.dat true (.sl .i),.dat true .i,.dat true (.sl .i),.dat true .i,.dat true (.sl .i),.dat true zI,.dat true .i,.i,.bool,.i,.lit (.osl 1001001 none)]
abbrev Ui:List Go.Ab.CS:=[.i,.dat true vL,.i,.i,.i,.i,.dat true qZ,.dat true (.sl .i),.dat true .i,.dat true (.sl .i),.dat true .i,.dat true (.sl .i),.dat true zI,.dat true .i,.i,.bool,.i,.lit .nsl]
abbrev iV:List Go.Ab.CS:=[.i,.i,.i,.i,.i,.i,.i]
abbrev qYb:List Go.Ab.CS:=[.i,.i,.i,.i,.i,.i,.i,.i,.i,.i,.i,.i,.i,.i,.dat true qZ,.dat true (.sl .i),.dat true .i,.dat true (.sl .i)]
abbrev KW:List Go.Ab.CS:=[.i,.i,.i,.i,.i,.i,.i,.i,.i,.i,.i,.i,.i,.i,.lit .nsl,.lit .nsl,.lit .nsl,.lit .nsl]
abbrev Ll:List Go.Ab.CS:=[.i,.lit (.osl 1001001 none),.i,.i,.i]
abbrev yKl:List Go.Ab.CS:=[.i,.lit (.osl 1001001 none),.i,.lit (.osl 1001002 none),.i,.i,.i,.bool,.bool,.i]
abbrev Cv:List Go.Ab.CS:=[.i,.lit (.osl 1001003 none),.i,.lit (.osl 1001004 none),.i,.i,.i,.bool,.bool,.i]
abbrev yIk:List Go.Ab.CS:=[.i,.lit (.osl 1001003 none),.lit (.osl 1001004 none),.lit (.osl 1001005 none),.lit (.osl 1001006 none),.lit (.osl 1001007 none),.lit (.osl 1001008 none),.lit (.osl 1001009 none),.lit .nsl,.i,.bool]
abbrev yIq:List Go.Ab.CS:=[.i,.lit (.osl 1001003 none),.lit (.osl 1001004 none),.lit (.osl 1001005 none),.lit (.osl 1001006 none),.lit (.osl 1001007 none),.lit .nsl,.lit .nsl,.lit .nsl,.i,.bool]
abbrev yCj:List Go.Ab.CS:=[.i,.lit (.osl 1001004 none),.lit .nsl,.lit .nsl,.lit .nsl,.lit .nsl,.lit .nsl,.lit .nsl,.lit .nsl,.i,.bool]
abbrev ka:List Go.Ab.CS:=[.i,.lit .nsl,.lit .nsl,.lit .nsl,.lit .nsl,.lit .nsl,.lit .nsl,.lit .nsl,.lit .nsl,.i,.bool]
abbrev SK:List Go.Ab.CS:=[.lit (.osl 1001002 none),.lit (.osl 1001003 none),.lit (.osl 1001004 none)]
abbrev KV:List Go.Ab.CS:=[.lit (.osl 1001003 none),.lit (.osl 1001004 none),.lit (.osl 1001005 none),.lit (.osl 1001006 none)]
abbrev yDy:List Go.Ab.CS:=[.lit (.osl 1001004 none),.lit (.osl 1001005 none),.lit (.osl 1001006 none),.lit (.osl 1001007 none)]
abbrev Vt:List Go.Ab.CS:=[.lit (.ptr 1001002 0),.i,.i,.i,.bool]
abbrev Vs:List Go.Ab.CS:=[.lit (.ptr 1001006 0),.i,.dat true vL,.i,.i,.i,.i,.dat true qZ,.dat true (.sl .i),.dat true .i,.dat true (.sl .i),.dat true .i,.dat true (.sl .i),.dat true zI,.dat true .i,.i,.bool,.i,.bool]
abbrev Lh:List Go.Ab.CS:=[.lit .nsl,.lit .nsl,.i,.lit .nsl,.lit .nsl,.lit .nsl,.lit .nsl,.lit .nsl,.lit .nsl,.lit .nsl,.lit .nsl,.i,.bool,.bool]
abbrev KU:List Go.Ab.CS:=[.lit .nsl,.lit .nsl,.lit .nsl,.lit .nsl]
abbrev KS:List Go.Ab.PC:=[.dat false .i,.dat false .i,.dat false (.sl .i)]
abbrev fY:List Go.Ab.PC:=[.dat false qZ,.dat false (.sl .i),.dat false .i,.dat false (.sl .i)]
abbrev sY:List Go.Ab.PC:=[.dat true qZ,.dat true (.sl .i),.dat true .i,.dat true (.sl .i)]
abbrev Gk:List Go.Ab.PC:=[.i,.dat false (.int .u8),.i,.dat false (.int .u8),.i,.i,.i,.bool,.bool,.i]
abbrev om:List Go.Ab.PC:=[.i,.dat false qZ,.dat false (.sl .i),.dat false .i,.dat false (.sl .i),.dat false .i,.dat false (.sl .i),.dat false zI,.dat false .i,.i,.bool]
abbrev lR:List Go.Ab.PC:=[.i,.dat false vL,.i,.i,.i]
abbrev RZ:List Go.Ab.PC:=[.i,.dat false vL,.i,.i,.i,.i,.dat false qZ,.dat false (.sl .i),.dat false .i,.dat false (.sl .i),.dat false .i,.dat false (.sl .i),.dat false zI,.dat false .i,.i,.bool,.i,.dat false qV]
abbrev Gn:List Go.Ab.PC:=[.i,.dat true qZ,.dat true (.sl .i),.dat true .i,.dat true (.sl .i),.dat true .i,.dat true (.sl .i),.dat true zI,.dat true .i,.i,.bool]
abbrev K3:List Go.Ab.PC:=[.i,.dat true vL,.i,.i,.i]
abbrev oq:List Go.Ab.PC:=[.i,.i,.i]
abbrev wH:List Go.Ab.PC:=[.i,.i,.i,.i,.i,.i,.i]
abbrev Gq:List Go.Ab.PC:=[.i,.i,.i,.i,.i,.i,.i,.i]
abbrev lS:List Go.Ab.RC:=[.fro (.int .u8)]
abbrev og:List Go.Ab.RC:=[.fro (.sl (.int .u8))]
abbrev kb:List Go.Ab.RC:=[.fro qZ,.fro (.sl .i),.fro .i,.fro (.sl .i)]
abbrev qO:List Go.Ab.RC:=[.i]
abbrev oh:List Go.Ab.RC:=[.i,.fro qZ,.fro (.sl .i),.fro .i,.fro (.sl .i),.fro .i,.fro (.sl .i),.fro zI,.fro .i,.i,.bool]
abbrev yJ5:List Go.Ab.RC:=[.i,.fro qZ,.fro (.sl .i),.fro .i,.fro (.sl .i),.fro .i,.fro (.sl .i),.own zI,.fro .i,.i,.bool]
abbrev wG:List Go.Ab.RC:=[.i,.fro vL,.i,.i,.i,.i,.fro qZ,.fro (.sl .i),.fro .i,.fro (.sl .i),.fro .i,.fro (.sl .i),.fro zI,.fro .i,.i,.bool,.i,.own qV]
abbrev Cp:List Go.Ab.RC:=[.i,.i,.i]
abbrev lT:List Go.Ab.RC:=[.i,.i,.i,.i,.i,.i,.i]
abbrev Ck:List Go.Ab.RC:=[.i,.i,.i,.i,.i,.i,.i,.i]
abbrev yEn:List Go.Ab.RC:=[.i,.i,.i,.i,.i,.i,.i,.i,.i,.i,.i,.i,.i,.i,.fro qZ,.fro (.sl .i),.fro .i,.fro (.sl .i)]
abbrev vG:List Go.Ab.RC:=[.i,.own (.int .u8),.i,.own (.int .u8),.i,.i,.i,.bool,.bool,.i]
abbrev Kw:List Go.Ab.RC:=[.i,.own qZ,.mat,.own .i,.mat,.own .i,.mat,.own zI,.own .i,.i,.bool]
abbrev qTk:List Go.Ab.RC:=[.i,.own vL,.i,.i,.i,.i,.own qZ,.mat,.own .i,.mat,.own .i,.mat,.own zI,.own .i,.i,.bool,.i,.own qV]
abbrev KC:List Go.Ab.RC:=[.link 0,.i,.i,.i,.bool]
abbrev ta:List Go.Ab.RC:=[.link 1,.i,.fro vL,.i,.i,.i,.i,.fro qZ,.fro (.sl .i),.fro .i,.fro (.sl .i),.fro .i,.fro (.sl .i),.fro zI,.fro .i,.i,.bool,.i,.bool]
abbrev Ct:List Go.Ab.RC:=[.link 1,.i,.i,.i,.bool]
abbrev qY7:List Go.Ab.RC:=[.link 2,.i,.fro vL,.i,.i,.i,.i,.fro qZ,.fro (.sl .i),.fro .i,.fro (.sl .i),.fro .i,.fro (.sl .i),.fro zI,.fro .i,.i,.bool,.i,.bool]
abbrev tc:List Go.Ab.RC:=[.link 2,.i,.i,.i,.bool]
abbrev oe:List Go.Ab.RC:=[.own .i]
abbrev qVv:List Go.Ab.RC:=[.own (.sl qV),.own qV,.i,.fro qZ,.fro (.sl .i),.fro .i,.fro (.sl .i),.fro .i,.fro (.sl .i),.fro zI,.fro .i,.i,.bool,.bool]
abbrev K9:List Go.Ab.XC:=[.link 1,.p .i,.p (.dat true vL),.p .i,.p .i,.p .i,.p .i,.p (.dat true qZ),.p (.dat true (.sl .i)),.p (.dat true .i),.p (.dat true (.sl .i)),.p (.dat true .i),.p (.dat true (.sl .i)),.p (.dat true zI),.p (.dat true .i),.p .i,.p .bool,.p .i,.p .bool]
abbrev Um:List Go.Ab.XC:=[.link 1,.p .i,.p .i,.p .i,.p .bool]
abbrev La:List Go.Ab.XC:=[.link 2,.p .i,.p .i,.p .i,.p .bool]
abbrev ie:List Go.Ab.XC:=[.p .i,.own (.int .u8),.p .i,.own (.int .u8),.p .i,.p .i,.p .i,.p .bool,.p .bool,.p .i]
abbrev sS:List Go.Ab.XC:=[.p .i,.p (.dat true vL),.p .i,.p .i,.p .i,.p .i,.p (.dat true qZ),.p (.dat true (.sl .i)),.p (.dat true .i),.p (.dat true (.sl .i)),.p (.dat true .i),.p (.dat true (.sl .i)),.p (.dat true zI),.p (.dat true .i),.p .i,.p .bool,.p .i,.own qV]
abbrev sQ:List Go.Ab.XC:=[.p .i,.p (.dat true vL),.p .i,.p .i,.p .i,.p .i,.p (.dat true qZ),.p (.dat true (.sl .i)),.p (.dat true .i),.p (.dat true (.sl .i)),.p (.dat true .i),.p (.dat true (.sl .i)),.p (.dat true zI),.p (.dat true .i),.p .i,.p .bool,.p .i,.p (.nil)]
section
variable {A B C D E F G H I J K L M N O P Q R S U V W X Z a b Aa Ab Ac Ad Ae Af Ag Ah Ai Aj Ak Al Am An Ao Ap Aq Ar As At T Y:Type}
abbrev jF (x:A×B×C×D)(t:T):=(x.1,x.2.1,x.2.2.1,x.2.2.2,t)
abbrev eu (x:A×B×C×D×E)(t:T):=(x.1,jF x.2 t)
abbrev sZ (x:A×B×C×D×E×F)(t:T):=(x.1,eu x.2 t)
abbrev j0 (x:A×B×C×D×E×F×G)(t:T):=(x.1,sZ x.2 t)
abbrev sP (x:A×B×C×D×E×F×G×H)(t:T):=(x.1,j0 x.2 t)
abbrev R1 (x:A×B×C×D×E×F×G×H×I)(t:T):=(x.1,sP x.2 t)
abbrev fa (x:A×B×C×D×E×F×G×H×I×J)(t:T):=(x.1,R1 x.2 t)
abbrev jN (x:A×B×C×D×E×F×G×H×I×J×K)(t:T):=(x.1,fa x.2 t)
abbrev Gv (x:A×B×C×D×E×F×G×H×I×J×K×L)(t:T):=(x.1,jN x.2 t)
abbrev yZs (x:A×B×C×D×E×F×G×H×I×J×K×L×M)(t:T):=(x.1,Gv x.2 t)
abbrev TH (x:A×B×C×D×E×F×G×H×I×J×K×L×M×N)(t:T):=(x.1,yZs x.2 t)
abbrev yVa (x:A×B×C×D×E×F×G×H×I×J×K×L×M×N×O)(t:T):=(x.1,TH x.2 t)
abbrev vBy (x:A×B×C×D×E×F×G×H×I×J×K×L×M×N×O×P)(t:T):=(x.1,yVa x.2 t)
abbrev vB (x:A×B×C×D×E×F×G×H×I×J×K×L×M×N×O×P×Q)(t:T):=(x.1,vBy x.2 t)
abbrev wR (x:A×B×C×D×E×F×G×H×I×J×K×L×M×N×O×P×Q×R)(t:T):=(x.1,vB x.2 t)
abbrev yWp (x:A×B×C×D×E×F×G×H×I×J×K×L×M×N×O×P×Q×R×S)(t:T):=(x.1,wR x.2 t)
abbrev wI (x:A×B×C×D×E):=(x.1,x.2.1,x.2.2.1,x.2.2.2.1)
abbrev vT (x:A×B×C×D×E×F):=(x.1,wI x.2)
abbrev wa (x:A×B×C×D×E×F×G):=(x.1,vT x.2)
abbrev dP (x:A×B×C×D×E×F×G×H):=(x.1,wa x.2)
abbrev gI (x:A×B×C×D×E×F×G×H×I):=(x.1,dP x.2)
abbrev R2 (x:A×B×C×D×E×F×G×H×I×J):=(x.1,gI x.2)
abbrev jS (x:A×B×C×D×E×F×G×H×I×J×K):=(x.1,R2 x.2)
abbrev vH (x:A×B×C×D×E×F×G×H×I×J×K×L):=(x.1,jS x.2)
abbrev Gw (x:A×B×C×D×E×F×G×H×I×J×K×L×M):=(x.1,vH x.2)
abbrev ySi (x:A×B×C×D×E×F×G×H×I×J×K×L×M×N):=(x.1,Gw x.2)
abbrev TK (x:A×B×C×D×E×F×G×H×I×J×K×L×M×N×O):=(x.1,ySi x.2)
abbrev yUw (x:A×B×C×D×E×F×G×H×I×J×K×L×M×N×O×P):=(x.1,TK x.2)
abbrev vGq (x:A×B×C×D×E×F×G×H×I×J×K×L×M×N×O×P×Q):=(x.1,yUw x.2)
abbrev ig (x:A×B×C×D×E×F×G×H×I×J×K×L×M×N×O×P×Q×R):=(x.1,vGq x.2)
abbrev jM (x:A×B×C×D×E×F×G×H×I×J×K×L×M×N×O×P×Q×R×S):=(x.1,ig x.2)
abbrev yYp (x:A×B×C×D×E×F×G×H×I×J×K×L×M×N×O×P×Q×R×S×U):=(x.1,jM x.2)
abbrev dy (x:A×B×C×D×E)(t:T):=(x.1,x.2.1,x.2.2.1,x.2.2.2.1,t)
abbrev pZ (x:A×B×C×D×E×F)(t:T):=(x.1,dy x.2 t)
abbrev fx (x:A×B×C×D×E×F×G)(t:T):=(x.1,pZ x.2 t)
abbrev Cq (x:A×B×C×D×E×F×G×H)(t:T):=(x.1,fx x.2 t)
abbrev qR9 (x:A×B×C×D×E×F×G×H×I)(t:T):=(x.1,Cq x.2 t)
abbrev VB (x:A×B×C×D×E×F×G×H×I×J)(t:T):=(x.1,qR9 x.2 t)
abbrev yRk (x:A×B×C×D×E×F×G×H×I×J×K)(t:T):=(x.1,VB x.2 t)
abbrev sW (x:A×B×C×D×E×F×G×H×I×J×K×L)(t:T):=(x.1,yRk x.2 t)
abbrev mP (x:A×B×C×D×E×F×G×H×I×J×K×L×M)(t:T):=(x.1,sW x.2 t)
abbrev yNf (x:A×B×C×D×E×F×G×H×I×J×K×L×M×N)(t:T):=(x.1,mP x.2 t)
abbrev TJ (x:A×B×C×D×E×F×G×H×I×J×K×L×M×N×O)(t:T):=(x.1,yNf x.2 t)
abbrev yZu (x:A×B×C×D×E×F×G×H×I×J×K×L×M×N×O×P)(t:T):=(x.1,TJ x.2 t)
abbrev vH7 (x:A×B×C×D×E×F×G×H×I×J×K×L×M×N×O×P×Q)(t:T):=(x.1,yZu x.2 t)
abbrev VC (x:A×B×C×D×E×F×G×H×I×J×K×L×M×N×O×P×Q×R)(t:T):=(x.1,vH7 x.2 t)
abbrev dw (f:A→B→C→D→Y)(x:A×B×C×D×E):Y:=f x.1 x.2.1 x.2.2.1 x.2.2.2.1
abbrev ou (f:A→B→C→D→E→Y)(x:A×B×C×D×E×F):Y:=dw (f x.1) x.2
abbrev ot (f:A→B→C→D→E→F→Y)(x:A×B×C×D×E×F×G):Y:=ou (f x.1) x.2
abbrev sX (f:A→B→C→D→E→F→G→Y)(x:A×B×C×D×E×F×G×H):Y:=ot (f x.1) x.2
abbrev mN (f:A→B→C→D→E→F→G→H→Y)(x:A×B×C×D×E×F×G×H×I):Y:=sX (f x.1) x.2
abbrev SD (f:A→B→C→D→E→F→G→H→I→Y)(x:A×B×C×D×E×F×G×H×I×J):Y:=mN (f x.1) x.2
abbrev yXi (f:A→B→C→D→E→F→G→H→I→J→Y)(x:A×B×C×D×E×F×G×H×I×J×K):Y:=SD (f x.1) x.2
abbrev pY (f:A→B→C→D→E→F→G→H→I→J→K→Y)(x:A×B×C×D×E×F×G×H×I×J×K×L):Y:=yXi (f x.1) x.2
abbrev K0 (f:A→B→C→D→E→F→G→H→I→J→K→L→Y)(x:A×B×C×D×E×F×G×H×I×J×K×L×M):Y:=pY (f x.1) x.2
abbrev SY (f:A→B→C→D→E→F→G→H→I→J→K→L→M→Y)(x:A×B×C×D×E×F×G×H×I×J×K×L×M×N):Y:=K0 (f x.1) x.2
abbrev Gt (f:A→B→C→D→E→F→G→H→I→J→K→L→M→N→Y)(x:A×B×C×D×E×F×G×H×I×J×K×L×M×N×O):Y:=SY (f x.1) x.2
abbrev yV2 (f:A→B→C→D→E→F→G→H→I→J→K→L→M→N→O→Y)(x:A×B×C×D×E×F×G×H×I×J×K×L×M×N×O×P):Y:=Gt (f x.1) x.2
abbrev qTa (f:A→B→C→D→E→F→G→H→I→J→K→L→M→N→O→P→Y)(x:A×B×C×D×E×F×G×H×I×J×K×L×M×N×O×P×Q):Y:=yV2 (f x.1) x.2
abbrev vBk (f:A→B→C→D→E→F→G→H→I→J→K→L→M→N→O→P→Q→Y)(x:A×B×C×D×E×F×G×H×I×J×K×L×M×N×O×P×Q×R):Y:=qTa (f x.1) x.2
abbrev vKh (f:A→B→C→D→E→F→G→H→I→J→K→L→M→N→O→P→Q→R→Y)(x:A×B×C×D×E×F×G×H×I×J×K×L×M×N×O×P×Q×R×S):Y:=vBk (f x.1) x.2
abbrev vJv (f:A→B→C→D→E→F→G→H→I→J→K→L→M→N→O→P→Q→R→S→Y)(x:A×B×C×D×E×F×G×H×I×J×K×L×M×N×O×P×Q×R×S×U):Y:=vKh (f x.1) x.2
abbrev VD (x:A×B×C×D×E×F×G×H×I×J×K×L×M×N×O×P×Q)(t:T):=jF x.2.2.2.2.2.2.2.2.2.2.2.2.2 t
abbrev qUp (x:A×B×C×D×E×F)(t:T):=jF x.2.2 t
abbrev ySo (x:A×B×C×D×E×F×G)(t:T):=jF x.2.2.2 t
abbrev qWs (x:A×B×C×D×E×F×G×H)(t:T):=jF x.2.2.2.2 t
abbrev yS1 (x:A×B×C×D×E×F×G×H×I×J×K×L)(t:T):=jF x.2.2.2.2.2.2.2.2 t
abbrev qTl (x:A×B×C×D×E×F×G×H×I×J×K×L×M×N×O×P×Q)(t:T):=eu x.2.2.2.2.2.2.2.2.2.2.2.2 t
abbrev P6 (x:A×B×C×D×E×F×G×H×I×J×K×L×M×N×O×P×Q)(t:T):=sZ x.2.2.2.2.2.2.2.2.2.2.2 t
abbrev yQy (x:A×B×C×D×E×F×G×H)(t:T):=sZ x.2.2 t
abbrev VE (x:A×B×C×D×E×F×G×H×I×J×K×L×M×N×O×P×Q)(t:T):=j0 x.2.2.2.2.2.2.2.2.2.2 t
abbrev Tv (x:A×B×C×D×E×F×G×H×I×J×K)(t:T):=j0 x.2.2.2.2 t
abbrev vF6 (x:A×B×C×D×E×F×G×H×I×J×K×L×M×N)(t:T):=j0 x.2.2.2.2.2.2.2 t
abbrev vJw (x:A×B×C×D×E×F×G×H×I×J×K×L)(t:T):=jN x.2 t
abbrev Cx (x:A×B×C×D×E×F×G×H×I×J×K×L×M×N×O×P×Q×R)(t:T):=jN x.2.2.2.2.2.2.2 t
abbrev TD (x:A×B×C×D×E×F×G×H×I×J×K×L×M×N×O×P×Q×R×S)(t:T):=wR x.2 t
abbrev vIz (x:A×B×C×D×E×F×G×H×I×J×K×L×M×N×O×P×Q×R×S×U):=wI x.2.2.2.2.2.2.2.2.2.2.2.2.2.2.2
abbrev K4 (x:A×B×C×D×E×F):=wI x.2
abbrev Lb (x:A×B×C×D×E×F×G×H×I×J×K×L×M×N×O×P×Q×R×S×U×V×W×X×Z×a):=wI x.2.2.2.2.2.2.2.2.2.2.2.2.2.2.2.2.2.2.2.2
abbrev UY (x:A×B×C×D×E×F×G×H×I×J×K×L×M×N×O×P×Q×R×S×U×V×W×X×Z×a×b):=wI x.2.2.2.2.2.2.2.2.2.2.2.2.2.2.2.2.2.2.2.2.2
abbrev Un (x:A×B×C×D×E×F×G):=wI x.2.2
abbrev ySa (x:A×B×C×D×E×F×G×H×I×J×K×L×M×N×O×P×Q×R×S×U×V×W×X×Z×a×b×Aa×Ab×Ac×Ad×Ae×Af×Ag×Ah×Ai×Aj):=wI x.2.2.2.2.2.2.2.2.2.2.2.2.2.2.2.2.2.2.2.2.2.2.2.2.2.2.2.2.2.2.2
abbrev yQ9 (x:A×B×C×D×E×F×G×H×I×J×K×L×M×N×O×P×Q×R×S×U×V×W×X×Z×a×b×Aa×Ab×Ac×Ad×Ae×Af×Ag×Ah×Ai×Aj×Ak):=wI x.2.2.2.2.2.2.2.2.2.2.2.2.2.2.2.2.2.2.2.2.2.2.2.2.2.2.2.2.2.2.2.2
abbrev qZ0 (x:A×B×C×D×E×F×G×H×I×J×K×L×M×N×O×P×Q×R×S×U×V×W×X×Z×a):=wa x.2.2.2.2.2.2.2.2.2.2.2.2.2.2.2.2.2.2
abbrev Cm (x:A×B×C×D×E×F×G×H×I×J×K×L×M×N×O×P×Q×R×S×U×V×W×X×Z×a×b):=dP x.2.2.2.2.2.2.2.2.2.2.2.2.2.2.2.2.2.2
abbrev Fc (x:A×B×C×D×E×F×G×H×I):=dP x.2
abbrev qZi (x:A×B×C×D×E×F×G×H×I×J×K×L×M×N):=dP x.2.2.2.2.2.2
abbrev vCn (x:A×B×C×D×E×F×G×H×I×J×K×L×M×N×O):=dP x.2.2.2.2.2.2.2
abbrev yIw (x:A×B×C×D×E×F×G×H×I×J×K×L×M×N×O×P×Q×R×S×U×V×W×X×Z×a):=gI x.2.2.2.2.2.2.2.2.2.2.2.2.2.2.2.2
abbrev Cf (x:A×B×C×D×E×F×G×H×I×J×K×L):=jS x.2
abbrev Lc (x:A×B×C×D×E×F×G×H×I×J×K×L×M×N×O×P×Q×R×S×U×V×W×X×Z×a×b×Aa×Ab×Ac×Ad×Ae×Af×Ag×Ah×Ai):=jS x.2.2.2.2.2.2.2.2.2.2.2.2.2.2.2.2.2.2.2.2.2.2.2.2
abbrev UZ (x:A×B×C×D×E×F×G×H×I×J×K×L×M×N×O×P×Q×R×S×U×V×W×X×Z×a×b×Aa×Ab×Ac×Ad×Ae×Af×Ag×Ah×Ai×Aj):=jS x.2.2.2.2.2.2.2.2.2.2.2.2.2.2.2.2.2.2.2.2.2.2.2.2.2
abbrev yH4 (x:A×B×C×D×E×F×G×H×I×J×K×L×M):=jS x.2.2
abbrev yZi (x:A×B×C×D×E×F×G×H×I×J×K×L×M×N×O×P×Q×R×S×U×V×W×X×Z×a×b×Aa×Ab×Ac×Ad×Ae×Af×Ag×Ah×Ai×Aj×Ak×Al×Am×An×Ao×Ap×Aq×Ar×As×At):=jS x.2.2.2.2.2.2.2.2.2.2.2.2.2.2.2.2.2.2.2.2.2.2.2.2.2.2.2.2.2.2.2.2.2.2.2
abbrev yAz (x:A×B×C×D×E×F×G×H×I×J×K×L×M×N×O):=jS x.2.2.2.2
abbrev K5 (x:A×B×C×D×E×F×G×H×I×J×K×L×M×N×O×P):=jS x.2.2.2.2.2
abbrev Uo (x:A×B×C×D×E×F×G×H×I×J×K×L×M×N×O×P×Q):=jS x.2.2.2.2.2.2
abbrev vC2 (x:A×B×C×D×E×F×G×H×I×J×K×L×M×N×O×P×Q×R×S×U×V×W×X):=vH x.2.2.2.2.2.2.2.2.2.2.2
abbrev oc (x:A×B×C×D×E×F×G×H×I×J×K×L×M×N×O×P×Q):=vH x.2.2.2.2.2
abbrev yV8 (x:A×B×C×D×E×F×G×H×I×J×K×L×M×N×O×P×Q×R×S):=vH x.2.2.2.2.2.2.2
abbrev vBn (x:A×B×C×D×E×F×G×H×I×J×K×L×M×N×O×P×Q×R×S×U×V×W×X×Z×a×b×Aa×Ab×Ac×Ad×Ae):=jM x.2.2.2.2.2.2.2.2.2.2.2.2
abbrev yR1 (x:A×B×C×D×E×F×G×H×I×J×K×L×M×N×O×P×Q×R×S×U×V×W×X×Z×a×b×Aa×Ab×Ac×Ad×Ae×Af):=jM x.2.2.2.2.2.2.2.2.2.2.2.2.2
abbrev fW (x:A×B×C×D×E×F×G×H×I×J×K×L×M×N×O×P×Q×R×S×U):=jM x.2
abbrev UX (x:A×B×C×D×E×F×G×H×I×J×K×L×M×N×O×P×Q×R×S×U×V):=jM x.2.2
abbrev Ln (x:A×B×C×D×E×F×G×H×I×J×K×L×M×N×O)(t:T):=dy x.2.2.2.2.2.2.2.2.2.2 t
abbrev lV (x:A×B×C×D×E×F)(t:T):=dy x.2 t
abbrev RG (x:A×B×C×D×E×F×G)(t:T):=dy x.2.2 t
abbrev vCp (x:A×B×C×D×E×F×G×H×I×J)(t:T):=dy x.2.2.2.2.2 t
abbrev Cy (x:A×B×C×D×E×F×G×H×I×J×K)(t:T):=fx x.2.2.2.2 t
abbrev vGb (x:A×B×C×D×E×F×G×H×I)(t:T):=Cq x.2 t
abbrev yWx (x:A×B×C×D×E×F×G×H×I×J×K×L×M)(t:T):=qR9 x.2.2.2.2 t
abbrev yY2 (x:A×B×C×D×E×F×G×H×I×J×K×L×M×N×O×P×Q)(t:T):=sW x.2.2.2.2.2 t
abbrev vDe (x:A×B×C×D×E×F×G×H×I×J×K×L×M×N×O×P×Q×R×S×U×V)(t:T):=TJ x.2.2.2.2.2.2 t
abbrev JY (x:A×B×C×D×E×F×G×H×I×J×K×L×M×N×O×P×Q×R×S)(t:T):=VC x.2 t
end
def Gg (k:Nat)(a0:Int):Option wA:=
 bif decide ((fl .i64 a0 3)=1) then some (4,[(100,1000),(7,0)],12,20,100)
 else bif decide ((fl .i64 a0 3)=2) then some (3,[],20,20,4)
 else bif decide ((fl .i64 a0 3)=3) then some (3,[(100,1000),(7,0)],0,6,1)
 else some (3,[(100,1000),(7,0)],12,20,4)
def Ki (k:Nat)(a0:Int):Option (vC⊕Unit):=
 bif decide (a0<0) then some (.inr ())
 else bif decide (a0>200000) then some (.inr ())
 else some (.inl (a0,[],0,[],0,0,0,false,false,0))
def od (k:Nat)(a0 a1 a2:Int):Option Bool:=
 bif decide (a0≥a1) then some (decide (a0≤a2))
 else some false
def qY1 (k:Nat)(a0:vF):Option Bool:=
 (od k a0.1 0 1048576).bind fun x0=>
 bif !x0 then some true
 else(od k a0.2 0 10000).bind fun x1=>
 some (!x1)
abbrev QJ:Type:=List vF→Int→Int→Option (Unit⊕Int)
def qZy (k:Nat)(rec:QJ)(s0:List vF)(s7 s8:Int):Option (Unit⊕Int):=
 bif decide (s8 < s7) then (bif zD s8 s0.length then ((qY1 k (s0.getD s8.toNat (0,0))).bind fun x0=>
   bif x0 then some (.inr s8)
   else rec s0 s7 (zA (s8+1)))
  else none)
 else some (.inl ())
def QL (k:Nat):Nat→QJ:=vK (fun _ _ _=>none) (qZy k)
def yJp (k:Nat)(a0:List vF):Option Int:=
 (QL k k a0 (a0.length:Int) 0).bind fun z=>
 match z with
 |.inl z1=>some (-1)
 |.inr z2=>some z2
def qY4 (k:Nat)(a0:List vF):Option Bool:=
 (yJp k a0).bind fun x0=>
 some (decide (x0≥0))
def kR (k:Nat)(a0:wA):Option Bool:=
 (od k a0.1 1 6).bind fun x0=>
 bif x0 then ((od k a0.2.2.2.1 1 1048576).bind fun x1=>
  bif x1 then ((od k a0.2.2.1 0 a0.2.2.2.1).bind fun x2=>
   bif x2 then ((od k a0.2.2.2.2 1 1048576).bind fun x3=>
    bif decide ((a0.2.1.length : Int) ≤ 3) then (bif x3 then ((qY4 k a0.2.1).bind fun x4=>
      some (!x4))
     else some false)
    else some false)
   else bif decide ((a0.2.1.length:Int)≤3) then some false
   else some false)
  else bif decide ((a0.2.1.length:Int)≤3) then some false
  else some false)
 else(od k a0.2.2.2.1 1 1048576).bind fun x5=>
 bif x5 then ((od k a0.2.2.1 0 a0.2.2.2.1).bind fun x6=>
  bif x6 then ((od k a0.2.2.2.2 1 1048576).bind fun x7=>
   some false)
  else some false)
 else some false
def Ks (k:Nat)(a0:Int):Option Bool:=
 bif decide (a0≥0) then some (decide (a0<2))
 else some false
def vw (k:Nat)(a0:AC):Option AC:=
 bif zU (0+a0.length) 1 then some a0
 else none
def Qu (k:Nat)(a0:vC)(a1:Int):Option AC:=
 (Ks k a1).bind fun x0=>
 bif !x0 then some []
 else bif decide (a1 = 0) then ((vw k a0.2.1).bind fun x1=>
  some x1)
 else bif decide (a1 = 1) then ((vw k a0.2.2.2.1).bind fun x2=>
  some x2)
 else none
abbrev QP:Type:=AC×EQ
abbrev QN:Type:=AC→EQ→Option QP
def yy (k:Nat)(rec:QN)(s0:AC)(r0:EQ):Option QP:=
 bif decide ((s0.length : Int) ≥ 2) then (bif zD 0 s0.length then (bif zD 1 s0.length then (bif decide ((fQ .i64 (shl .i64 (zA ((s0.getD 0 0))) 8) (zA ((s0.getD 1 0))))>60000) then some (s0,r0)
    else bif decide ((fQ .i64 (shl .i64 (zA ((s0.getD 0 0))) 8) (zA ((s0.getD 1 0))))>(zA ((s0.length:Int)-2))) then some (s0,r0)
    else bif (decide (2 ≤ (zA (2 + (fQ .i64 (shl .i64 (zA ((s0.getD 0 0))) 8) (zA ((s0.getD 1 0)))))))) && (decide ((zA (2 + (fQ .i64 (shl .i64 (zA ((s0.getD 0 0))) 8) (zA ((s0.getD 1 0)))))) ≤ (s0.length : Int))) then (bif zU (0 + (qS s0 2 ((zA (2 + (fQ .i64 (shl .i64 (zA ((s0.getD 0 0))) 8) (zA ((s0.getD 1 0)))))).toNat - 2)).length) 1 then (let y0:AC:=(qS s0 2 ((zA (2+(fQ .i64 (shl .i64 (zA ((s0.getD 0 0))) 8) (zA ((s0.getD 1 0)))))).toNat-2))
      bif zU (r0.length + 1) 24 then (bif (decide (0≤(zA (2+(fQ .i64 (shl .i64 (zA ((s0.getD 0 0))) 8) (zA ((s0.getD 1 0))))))))&&(decide ((zA (2+(fQ .i64 (shl .i64 (zA ((s0.getD 0 0))) 8) (zA ((s0.getD 1 0))))))≤(s0.length:Int))) then(rec (List.drop (zA (2+(fQ .i64 (shl .i64 (zA ((s0.getD 0 0))) 8) (zA ((s0.getD 1 0)))))).toNat s0) (r0++[y0]))
       else none)
      else none)
     else none)
    else none)
   else none)
  else none)
 else some (s0,r0)
def yx (k:Nat):Nat→QN:=vK (fun _ _=>none) (yy k)
def El (k:Nat)(a0:AC):Option (EQ×Int):=
 (yx k k a0 []).bind fun z=>
 some (z.2,(z.1.length:Int))
abbrev QS:Type:=AC×Int×AC
abbrev QQ:Type:=AC→Int→AC→Int→Int→AC→Option QS
def Ij (k:Nat)(rec:QQ)(s0:AC)(s5:Int)(bI:AC)(aT gJ:Int)(r0:AC):Option QS:=
 bif decide (gJ < aT) then (bif zD gJ bI.length then(rec s0 (fQ .u64 (shl .u64 s5 8) (IntKind.wrap .u64 ((bI.getD gJ.toNat 0)))) bI aT (zA (gJ+1)) r0)
  else none)
 else some (s0,s5,r0)
def yl (k:Nat):Nat→QQ:=vK (fun _ _ _ _ _ _=>none) (Ij k)
def yn (k:Nat)(rec:AC→AC→Option AC)(s0 r0:AC):Option AC:=
 bif decide ((s0.length : Int) > 0) then (bif decide (8 ≤ (s0.length : Int)) then ((yl k k s0 0 (List.take 8 s0) ((List.take 8 s0).length:Int) 0 r0).bind fun z=>
   bif zU (z.2.2.length + 1) 8 then (bif decide (8≤(z.1.length:Int)) then(rec (List.drop 8 z.1) (z.2.2++[(zA (z.2.1))]))
    else none)
   else none)
  else none)
 else some r0
def ym (k:Nat):Nat→AC→AC→Option AC:=vK (fun _ _=>none) (yn k)
def mw (k:Nat)(a0:AC):Option (AC×Int):=
 bif !(decide ((Int.tmod (a0.length:Int) 8)=0)) then some ([],2)
 else(ym k k a0 []).bind fun z1=>
 some (z1,0)
def sL (k:Nat)(a0:vC)(a1:Int):Option (Int×AC×EQ):=
 (Qu k a0 a1).bind fun x0=>
 (El k x0).bind fun x1=>
 bif decide ((x1.1.length:Int)=0) then some (0,[],[])
 else bif zD 0 x1.1.length then (bif decide (((x1.1.getD 0 []).length:Int)<8) then some (0,[],[])
  else bif zD 0 x1.1.length then (bif decide (8 ≤ ((x1.1.getD 0 []).length : Int)) then ((mw k (List.take 8 (x1.1.getD 0 []))).bind fun x2=>
    bif zD 0 x2.1.length then (bif decide ((x2.1.getD 0 0)<1) then some (0,[],[])
     else bif zD 0 x2.1.length then (bif decide ((x2.1.getD 0 0)>4611686018427387904) then some (0,[],[])
      else bif zD 0 x2.1.length then (bif zD 0 x1.1.length then (bif decide (8 ≤ ((x1.1.getD 0 []).length : Int)) then (bif decide (1≤(x1.1.length:Int)) then some ((x2.1.getD 0 0),(List.drop 8 (x1.1.getD 0 [])),(qS x1.1 1 (x1.1.length-1)))
         else none)
        else none)
       else none)
      else none)
     else none)
    else none)
   else none)
  else none)
 else none
def F9 (k:Nat)(a0:vC):Option (Int×Int×AC×EQ×Bool):=
 (sL k a0 0).bind fun x0=>
 bif decide (x0.1 > 0) then ((sL k a0 1).bind fun x1=>
  bif decide (x1.1>x0.1) then some (x1.1,1,x1.2.1,x1.2.2,true)
  else some (x0.1,0,x0.2.1,x0.2.2,true))
 else(sL k a0 1).bind fun x2=>
 bif decide (x2.1>0) then some (x2.1,1,x2.2.1,x2.2.2,true)
 else some (0,0,[],[],false)
def ER (k:Nat)(a0:Int):Option Bool:=
 bif decide (a0≥0) then some (decide (a0≤6))
 else some false
abbrev QW:Type:=Int→Int→Int→AC→Option AC
def zx (k:Nat)(rec:QW)(s1 aZ bx:Int)(r0:AC):Option AC:=
 bif decide (bx < aZ) then (bif zD bx r0.length then(rec s1 aZ (zA (bx+1)) (r0.set bx.toNat s1))
  else none)
 else some r0
def ES (k:Nat):Nat→QW
 |0,_,_,_,_=>none
 |n+1,s1,aZ,bx,r0=>zx k (ES k n) s1 aZ bx r0
def uH (k:Nat)(a0 a1:Int):Option AC:=
 (ER k a0).bind fun x0=>
 bif !x0 then some []
 else bif ug a0 a0 8 then ((ES k k a1 ((List.replicate a0.toNat (0:Int)).length:Int) 0 (List.replicate a0.toNat (0:Int))).bind fun z=>
  some z)
 else none
abbrev QY:Type:=Int→Int→Int→Int→EQ→Option EQ
def zz (k:Nat)(rec:QY)(s0 s1 aZ bx:Int)(m0:EQ):Option EQ:=
 bif decide (bx < aZ) then ((uH k s0 s1).bind fun x1=>
  bif zD bx m0.length then(rec s0 s1 aZ (zA (bx+1)) (m0.set bx.toNat x1))
  else none)
 else some m0
def ET (k:Nat):Nat→QY
 |0,_,_,_,_,_=>none
 |n+1,s0,s1,aZ,bx,m0=>zz k (ET k n) s0 s1 aZ bx m0
def zy (k:Nat)(a0 a1:Int):Option EQ:=
 (ER k a0).bind fun x0=>
 bif !x0 then some []
 else bif ug a0 a0 24 then ((ET k k a0 a1 ((List.replicate a0.toNat ([]:AC)).length:Int) 0 (List.replicate a0.toNat ([]:AC))).bind fun z=>
  some z)
 else none
abbrev Q1:Type:=Int×wA×dQ×dQ×(List zM)×EQ×AC×EQ×AC
abbrev Q0:Type:=Int→List vF→Int→Int→wA→dQ→dQ→List zM→EQ→AC→EQ→AC→Option Q1
def qUo (k:Nat)(rec:Q0)(s3:Int)(bW:List vF)(s21 Lp:Int)(b0:wA)(b1 b2:dQ)(r3:List zM)(m4:EQ)(r5:AC)(m6:EQ)(r7:AC):Option Q1:=
 bif decide (Lp < s21) then (bif zD Lp bW.length then (bif zU (r7.length+1) 8 then(rec s3 bW s21 (zA (Lp+1)) b0 b1 b2 r3 m4 r5 m6 (r7++[(bW.getD Lp.toNat (0,0)).1]))
   else none)
  else none)
 else some (s3,b0,b1,b2,r3,m4,r5,m6,r7)
def Q2 (k:Nat):Nat→Q0:=vK (fun _ _ _ _ _ _ _ _ _ _ _ _=>none) (qUo k)
abbrev Q4:Type:=dQ×dQ×(List zM)×EQ×AC×EQ×AC×EQ
abbrev Q3:Type:=Int→Int→wA→dQ→dQ→List zM→EQ→AC→EQ→AC→EQ→Option Q4
def yHu (k:Nat)(rec:Q3)(wb ow:Int)(b0:wA)(b1 b2:dQ)(r3:List zM)(m4:EQ)(r5:AC)(m6:EQ)(r7:AC)(m8:EQ):Option Q4:=
 bif decide (ow < wb) then (bif ug (b0.2.1.length : Int) (b0.2.1.length : Int) 8 then (bif zU (m8.length+1) 24 then(rec wb (zA (ow+1)) b0 b1 b2 r3 m4 r5 m6 r7 (m8++[(List.replicate b0.2.1.length (0:Int))]))
   else none)
  else none)
 else some (b1,b2,r3,m4,r5,m6,r7,m8)
def Q5 (k:Nat):Nat→Q3:=vK (fun _ _ _ _ _ _ _ _ _ _ _=>none) (yHu k)
def iU (k:Nat)(a0:wA):Option vV:=
 bif ug a0.1 a0.1 24 then ((zy k a0.1 (-1)).bind fun x0=>
  (uH k a0.1 (-1)).bind fun x1=>
  (zy k a0.1 0).bind fun x2=>
  (Q2 k k a0.1 a0.2.1 (a0.2.1.length:Int) 0 a0 (0,0,false) (0,0,false) (List.replicate a0.1.toNat ((0,0,0):Int×Int×Int)) x0 x1 x2 []).bind fun z=>
  (Q5 k k z.1 0 z.2.1 z.2.2.1 z.2.2.2.1 z.2.2.2.2.1 z.2.2.2.2.2.1 z.2.2.2.2.2.2.1 z.2.2.2.2.2.2.2.1 z.2.2.2.2.2.2.2.2 []).bind fun z1=>
  some (z1.2.1.1,(yQy z1 ([],[],z1.2.1.2))))
 else none
def Ip (k:Nat)(a0:Bool):Option Int:=
 bif a0 then some 1
 else some 0
abbrev Ra:Type:=AC×Int×Int×AC
abbrev Q8:Type:=Int→Int→AC→Int→Int→AC→Option Ra
def Il (k:Nat)(rec:Q8)(s5 s6:Int)(bC:AC)(bV aZ:Int)(r0:AC):Option Ra:=
 bif decide (s6 ≥ 0) then (bif !(decide ((zA (8 * s6)) < 0)) then (bif zU (r0.length+1) 1 then(rec s5 (zA (s6-1)) bC bV aZ (r0++[(IntKind.wrap .u8 ((shr .i64 s5 (zA (8*s6)))))]))
   else none)
  else none)
 else some (bC,bV,aZ,r0)
def sb (k:Nat):Nat→Q8:=vK (fun _ _ _ _ _ _=>none) (Il k)
abbrev Rb:Type:=AC→Int→Int→AC→Option AC
def yq (k:Nat)(rec:Rb)(bC:AC)(bV aZ:Int)(r0:AC):Option AC:=
 bif decide (aZ < bV) then (bif zD aZ bC.length then ((sb k k (bC.getD aZ.toNat 0) 7 bC bV aZ r0).bind fun z=>
   rec z.1 z.2.1 (zA (z.2.2.1+1)) z.2.2.2)
  else none)
 else some r0
def uA (k:Nat):Nat→Rb:=vK (fun _ _ _ _=>none) (yq k)
def sd (k:Nat)(a0:AC):Option AC:=
 bif ug 0 (zA (8 * (a0.length : Int))) 1 then ((uA k k a0 (a0.length:Int) 0 []).bind fun z1=>
  some z1)
 else none
def Im (k:Nat)(a0:AC):Option AC:=
 (sd k [(a0.length:Int)]).bind fun x0=>
 (sd k a0).bind fun x1=>
 bif zU (x0.length+x1.length) 1 then some (x0++x1)
 else none
abbrev Rf:Type:=EQ→Int→Int→AC→Option AC
def yt (k:Nat)(rec:Rf)(s6:EQ)(s7 s8:Int)(r0:AC):Option AC:=
 bif decide (s8 < s7) then (bif zD s8 s6.length then ((Im k (s6.getD s8.toNat [])).bind fun x0=>
   bif zU (r0.length+x0.length) 1 then(rec s6 s7 (zA (s8+1)) (r0++x0))
   else none)
  else none)
 else some r0
def yr (k:Nat):Nat→Rf:=vK (fun _ _ _ _=>none) (yt k)
def Ek (k:Nat)(a0:EQ):Option AC:=
 (yr k k a0 (a0.length:Int) 0 []).bind fun z=>
 some z
abbrev Rj:Type:=vV×Lm×EQ
abbrev Ri:Type:=List zM→Int→Int→vV→Lm→EQ→Option Rj
def yu (k:Nat)(rec:Ri)(il:List zM)(dR fD:Int)(b0:vV)(b1:Lm)(r2:EQ):Option Rj:=
 bif decide (fD < dR) then (bif zD fD il.length then (bif zU (r2.length + 1) 24 then (let y0:EQ:=(r2++[[(il.getD fD.toNat (0,0,0)).1,(il.getD fD.toNat (0,0,0)).2.1,(il.getD fD.toNat (0,0,0)).2.2]])
    rec il dR (zA (fD+1)) b0 b1 y0)
   else none)
  else none)
 else some (b0,b1,r2)
def uB (k:Nat):Nat→Ri:=vK (fun _ _ _ _ _ _=>none) (yu k)
abbrev Rl:Type:=vV×EQ
abbrev Rk:Type:=List zE→Int→Int→vV→EQ→Option Rl
def yv (k:Nat)(rec:Rk)(qa:List zE)(s80 oz:Int)(b0:vV)(r1:EQ):Option Rl:=
 bif decide (oz < s80) then (bif zD oz qa.length then (bif zU (r1.length + 1) 24 then (let y3:EQ:=(r1++[[(qa.getD oz.toNat (0,0,0,0,0,0,0)).1,(qa.getD oz.toNat (0,0,0,0,0,0,0)).2.1,(qa.getD oz.toNat (0,0,0,0,0,0,0)).2.2.1,(qa.getD oz.toNat (0,0,0,0,0,0,0)).2.2.2.1,(qa.getD oz.toNat (0,0,0,0,0,0,0)).2.2.2.2.1,(qa.getD oz.toNat (0,0,0,0,0,0,0)).2.2.2.2.2.1,(qa.getD oz.toNat (0,0,0,0,0,0,0)).2.2.2.2.2.2]])
    rec qa s80 (zA (oz+1)) b0 y3)
   else none)
  else none)
 else some (b0,r1)
def uC (k:Nat):Nat→Rk:=vK (fun _ _ _ _ _=>none) (yv k)
def ft (k:Nat)(a0:vV):Option AC:=
 (Ip k a0.2.2.2.2.2.2.2.2.2.2).bind fun x0=>
 (uB k k a0.2.1 (a0.2.1.length:Int) 0 a0 (K4 a0) [[a0.1,a0.2.2.2.2.2.2.2.2.2.1,x0,(a0.2.1.length:Int),(a0.2.2.1.length:Int),(a0.2.2.2.1.length:Int),(a0.2.2.2.2.1.length:Int),(a0.2.2.2.2.2.2.1.length:Int),(a0.2.2.2.2.2.2.2.1.length:Int)]]).bind fun z=>
 bif zU (z.2.2.length + z.2.1.2.1.length) 24 then (bif zU ((z.2.2 ++ z.2.1.2.1).length + 1) 24 then (let y1:EQ:=((z.2.2++z.2.1.2.1)++[z.2.1.2.2.1])
   bif zU (y1.length + z.2.1.2.2.2.length) 24 then (bif zU ((y1 ++ z.2.1.2.2.2).length + 1) 24 then (let y2:EQ:=((y1++z.2.1.2.2.2)++[z.1.2.2.2.2.2.1])
     bif zU (y2.length + z.1.2.2.2.2.2.2.1.length) 24 then ((uC k k z.1.2.2.2.2.2.2.2.1 (z.1.2.2.2.2.2.2.2.1.length:Int) 0 z.1 (y2++z.1.2.2.2.2.2.2.1)).bind fun z1=>
      bif zU (z1.2.length + 1) 24 then (let y4:EQ:=(z1.2++[z1.1.2.2.2.2.2.2.2.2.1])
       (Ek k y4).bind fun x1=>
       some x1)
      else none)
     else none)
    else none)
   else none)
  else none)
 else none
def Ej (k:Nat)(a0:AC):Option ij:=
 bif decide ((a0.length:Int)>60000) then some ([],false)
 else bif zU (2+a0.length) 1 then some (([(IntKind.wrap .u8 ((shr .i64 (a0.length:Int) 8))),(IntKind.wrap .u8 ((a0.length:Int)))]++a0),true)
 else none
def Qs (k:Nat)(a0:vC):Option Int:=
 some a0.1
def KB (k:Nat)(a0:vC):Option Bool:=
 some a0.2.2.2.2.2.2.2.2.1
def gH (k:Nat)(a0:vC):Option (Bool×vC):=
 bif !a0.2.2.2.2.2.2.2.1 then some (false,(VB a0 (zA (a0.2.2.2.2.2.2.2.2.2+1))))
 else bif decide (a0.2.2.2.2.2.2.2.2.2<a0.2.2.2.2.2.1) then some (false,(VB a0 (zA (a0.2.2.2.2.2.2.2.2.2+1))))
 else bif (decide (0 ≤ (zA (a0.2.2.1 + (vR true (vR false a0.2.2.2.2.2.2.1 0) (zA ((a0.2.1.length : Int) - a0.2.2.1))))))) && (decide ((zA (a0.2.2.1 + (vR true (vR false a0.2.2.2.2.2.2.1 0) (zA ((a0.2.1.length : Int) - a0.2.2.1))))) ≤ (a0.2.1.length : Int))) then (bif (decide (0≤(zA (a0.2.2.2.2.1+(vR true (zA ((vR false a0.2.2.2.2.2.2.1 0)-(vR true (vR false a0.2.2.2.2.2.2.1 0) (zA ((a0.2.1.length:Int)-a0.2.2.1))))) (zA ((a0.2.2.2.1.length:Int)-a0.2.2.2.2.1)))))))&&(decide ((zA (a0.2.2.2.2.1+(vR true (zA ((vR false a0.2.2.2.2.2.2.1 0)-(vR true (vR false a0.2.2.2.2.2.2.1 0) (zA ((a0.2.1.length:Int)-a0.2.2.1))))) (zA ((a0.2.2.2.1.length:Int)-a0.2.2.2.2.1)))))≤(a0.2.2.2.1.length:Int))) then some (true,a0.1,(List.take ((zA (a0.2.2.1+(vR true (vR false a0.2.2.2.2.2.2.1 0) (zA ((a0.2.1.length:Int)-a0.2.2.1))))).toNat-0) a0.2.1),(zA (a0.2.2.1+(vR true (vR false a0.2.2.2.2.2.2.1 0) (zA ((a0.2.1.length:Int)-a0.2.2.1))))),(List.take ((zA (a0.2.2.2.2.1+(vR true (zA ((vR false a0.2.2.2.2.2.2.1 0)-(vR true (vR false a0.2.2.2.2.2.2.1 0) (zA ((a0.2.1.length:Int)-a0.2.2.1))))) (zA ((a0.2.2.2.1.length:Int)-a0.2.2.2.2.1))))).toNat-0) a0.2.2.2.1),(zA (a0.2.2.2.2.1+(vR true (zA ((vR false a0.2.2.2.2.2.2.1 0)-(vR true (vR false a0.2.2.2.2.2.2.1 0) (zA ((a0.2.1.length:Int)-a0.2.2.1))))) (zA ((a0.2.2.2.1.length:Int)-a0.2.2.2.2.1))))),a0.2.2.2.2.2.1,a0.2.2.2.2.2.2.1,a0.2.2.2.2.2.2.2.1,true,a0.2.2.2.2.2.2.2.2.2)
  else none)
 else none
def J7 (k:Nat)(a0:vC)(a1:Int):Option (Int×vC):=
 (KB k a0).bind fun x0=>
 bif x0 then some (11,a0)
 else(Ks k a1).bind fun x1=>
 bif !x1 then some (1,a0)
 else(gH k a0).bind fun x2=>
 bif x2.1 then some (11,x2.2)
 else bif decide (a1 = 0) then (bif decide (a1=0) then some (0,x2.2.1,[],0,x2.2.2.2.2)
  else bif decide (a1=1) then some (0,x2.2.1,[],x2.2.2.2.1,x2.2.2.2.2.1,0,x2.2.2.2.2.2.2)
  else none)
 else bif decide (a1 = 1) then (bif decide (a1=0) then some (0,x2.2.1,x2.2.2.1,0,[],x2.2.2.2.2.2)
  else bif decide (a1=1) then some (0,x2.2.1,x2.2.2.1,x2.2.2.2.1,[],0,x2.2.2.2.2.2.2)
  else none)
 else none
def sK (k:Nat)(a0:vC)(a1:Int)(a2:AC):Option (Int×vC):=
 (KB k a0).bind fun x0=>
 bif x0 then some (11,a0)
 else(Ks k a1).bind fun x1=>
 bif !x1 then some (1,a0)
 else bif decide (a1 = 0) then (bif decide ((a2.length:Int)>(zA (a0.1-(a0.2.1.length:Int)))) then some (3,a0)
  else(gH k a0).bind fun x2=>
  bif x2.1 then some (11,x2.2)
  else bif decide (a1 = 0) then (bif zU (x2.2.2.1.length+a2.length) 1 then some (0,x2.2.1,(x2.2.2.1++a2),x2.2.2.2)
   else none)
  else bif decide (a1 = 1) then (bif zU (x2.2.2.2.2.1.length+a2.length) 1 then some (0,x2.2.1,x2.2.2.1,x2.2.2.2.1,(x2.2.2.2.2.1++a2),x2.2.2.2.2.2)
   else none)
  else none)
 else bif decide (a1 = 1) then (bif decide ((a2.length:Int)>(zA (a0.1-(a0.2.2.2.1.length:Int)))) then some (3,a0)
  else(gH k a0).bind fun x3=>
  bif x3.1 then some (11,x3.2)
  else bif decide (a1 = 0) then (bif zU (x3.2.2.1.length+a2.length) 1 then some (0,x3.2.1,(x3.2.2.1++a2),x3.2.2.2)
   else none)
  else bif decide (a1 = 1) then (bif zU (x3.2.2.2.2.1.length+a2.length) 1 then some (0,x3.2.1,x3.2.2.1,x3.2.2.2.1,(x3.2.2.2.2.1++a2),x3.2.2.2.2.2)
   else none)
  else none)
 else none
def pV (k:Nat)(a0:vC):Option (Int×vC):=
 (KB k a0).bind fun x0=>
 bif x0 then some (11,a0)
 else(gH k a0).bind fun x1=>
 bif x1.1 then some (11,x1.2)
 else some (0,x1.2.1,x1.2.2.1,(x1.2.2.1.length:Int),x1.2.2.2.2.1,(x1.2.2.2.2.1.length:Int),x1.2.2.2.2.2.2)
def F5 (k:Nat)(a0:vC)(a1 a2:Int)(a3:AC):Option (Int×vC):=
 (sd k [a2]).bind fun x0=>
 bif zU (x0.length + a3.length) 1 then ((Ej k (x0++a3)).bind fun x1=>
  bif !x1.2 then some (10,a0)
  else bif decide (a2>4611686018427387904) then some (10,a0)
  else(Qs k a0).bind fun x2=>
  bif decide ((x1.1.length:Int)>x2) then some (10,a0)
  else(J7 k a0 a1).bind fun x3=>
  bif !(decide (x3.1=0)) then some (x3.1,x3.2)
  else(sK k x3.2 a1 x1.1).bind fun x4=>
  bif !(decide (x4.1=0)) then some (x4.1,x4.2)
  else(pV k x4.2).bind fun x5=>
  some (x5.1,x5.2))
 else none
def J8 (k:Nat)(a0:vC)(a1:AC):Option ((AC×EQ×Int×vC×jP)⊕(AC×EQ×Int×vC)):=
 (F9 k a0).bind fun x0=>
 bif x0.2.2.2.2 then some (.inl (x0.2.2.1,x0.2.2.2.1,0,a0,x0.2.1,x0.1,(x0.2.2.2.1.length:Int),true))
 else(F5 k a0 0 1 a1).bind fun x1=>
 bif !(decide (x1.1=0)) then some (.inr ([],[],x1.1,x1.2))
 else bif zU (0+a1.length) 1 then some (.inl (a1,[],0,x1.2,0,1,0,false))
 else none
def Iq (k:Nat)(a0:AC):Option (AC×AC×Bool):=
 bif decide ((a0.length:Int)<8) then some ([],[],false)
 else bif decide (8 ≤ (a0.length : Int)) then ((mw k (List.take 8 a0)).bind fun x0=>
  bif decide (8 ≤ (a0.length : Int)) then (bif zD 0 x0.1.length then (bif decide ((x0.1.getD 0 0)<0) then some ([],[],false)
    else bif zD 0 x0.1.length then (bif decide ((x0.1.getD 0 0)>(zA (Int.tdiv ((List.drop 8 a0).length:Int) 8))) then some ([],[],false)
     else bif zD 0 x0.1.length then (bif (decide (0 ≤ (zA (8 * (x0.1.getD 0 0))))) && (decide ((zA (8 * (x0.1.getD 0 0))) ≤ ((List.drop 8 a0).length : Int))) then ((mw k (List.take (zA (8*(x0.1.getD 0 0))).toNat (List.drop 8 a0))).bind fun x1=>
       bif (decide (0≤(zA (8*(x0.1.getD 0 0)))))&&(decide ((zA (8*(x0.1.getD 0 0)))≤((List.drop 8 a0).length:Int))) then some (x1.1,(List.drop (zA (8*(x0.1.getD 0 0))).toNat (List.drop 8 a0)),true)
       else none)
      else none)
     else none)
    else none)
   else none)
  else none)
 else none
def sM (k:Nat)(a0:ij):Option (AC×ij):=
 (Iq k a0.1).bind fun x0=>
 bif a0.2 then some (x0.1,x0.2.1,true)
 else some (x0.1,x0.2.1,(!x0.2.2))
def BZ (k:Nat)(a0:ij)(a1:Int):Option (AC×ij):=
 (sM k a0).bind fun x0=>
 bif !(decide ((x0.1.length : Int) = a1)) then (bif ug a1 a1 8 then some ((List.replicate a1.toNat (0:Int)),x0.2.1,true)
  else none)
 else some (x0.1,x0.2)
abbrev Rs:Type:=ij×EQ
abbrev Rq:Type:=Int→ij→EQ→Option Rs
def J9 (k:Nat)(rec:Rq)(s1:Int)(b0:ij)(r1:EQ):Option Rs:=
 bif decide (s1 > 0) then (bif !b0.2 then ((sM k b0).bind fun x0=>
   bif zU (r1.length+1) 24 then(rec (zA (s1-1)) x0.2 (r1++[x0.1]))
   else none)
  else some (b0,r1))
 else some (b0,r1)
def Gc (k:Nat):Nat→Rq:=vK (fun _ _ _=>none) (J9 k)
def B1 (k:Nat)(a0:ij)(a1:Int):Option (EQ×ij):=
 (Gc k k a1 a0 []).bind fun z=>
 some (z.2,z.1)
def Qx (k:Nat)(a0 a1:AC):Option Bool:=
 some (tn a0 a1)
abbrev Rw:Type:=AC×dQ×ij×AC×dQ×(List zM)
abbrev Rv:Type:=AC→Int→dQ→ij→AC→dQ→List zM→Option Rw
def Ka (k:Nat)(rec:Rv)(s0:AC)(s7:Int)(b0:dQ)(b1:ij)(r2:AC)(b3:dQ)(r4:List zM):Option Rw:=
 bif decide (s7 > 0) then (bif !b1.2 then ((BZ k b1 3).bind fun x1=>
   bif zD 0 x1.1.length then (bif zD 1 x1.1.length then (bif zD 2 x1.1.length then (bif zU (r4.length + 1) 24 then (let y0:List zM:=(r4++[((x1.1.getD 0 0),(x1.1.getD 1 0),(x1.1.getD 2 0))])
       rec s0 (zA (s7-1)) b0 x1.2 r2 b3 y0)
      else none)
     else none)
    else none)
   else none)
  else some (s0,b0,b1,r2,b3,r4))
 else some (s0,b0,b1,r2,b3,r4)
def B2 (k:Nat):Nat→Rv:=vK (fun _ _ _ _ _ _ _=>none) (Ka k)
abbrev Ry:Type:=AC×dQ×ij×dQ×(List zM)×EQ×AC×EQ×AC×EQ×(List zE)
abbrev Rx:Type:=AC→Int→dQ→ij→dQ→List zM→EQ→AC→EQ→AC→EQ→List zE→Option Ry
def Kb (k:Nat)(rec:Rx)(s0:AC)(s9:Int)(b0:dQ)(b1:ij)(b2:dQ)(r3:List zM)(r4:EQ)(r5:AC)(r6:EQ)(r7:AC)(r8:EQ)(r9:List zE):Option Ry:=
 bif decide (s9 > 0) then (bif !b1.2 then ((BZ k b1 7).bind fun x7=>
   bif zD 0 x7.1.length then (bif zD 1 x7.1.length then (bif zD 2 x7.1.length then (bif zD 3 x7.1.length then (bif zD 4 x7.1.length then (bif zD 5 x7.1.length then (bif zD 6 x7.1.length then (bif zU (r9.length + 1) 56 then (let y1:List zE:=(r9++[((x7.1.getD 0 0),(x7.1.getD 1 0),(x7.1.getD 2 0),(x7.1.getD 3 0),(x7.1.getD 4 0),(x7.1.getD 5 0),(x7.1.getD 6 0))])
           rec s0 (zA (s9-1)) b0 x7.2 b2 r3 r4 r5 r6 r7 r8 y1)
          else none)
         else none)
        else none)
       else none)
      else none)
     else none)
    else none)
   else none)
  else some (s0,b0,b1,b2,r3,r4,r5,r6,r7,r8,r9))
 else some (s0,b0,b1,b2,r3,r4,r5,r6,r7,r8,r9)
def B3 (k:Nat):Nat→Rx:=vK (fun _ _ _ _ _ _ _ _ _ _ _ _=>none) (Kb k)
def B4 (k:Nat)(a0:AC):Option (vV×Bool):=
 (BZ k (a0,false) 9).bind fun x0=>
 bif zD 0 x0.1.length then (bif zD 1 x0.1.length then (bif zD 2 x0.1.length then (bif zD 3 x0.1.length then ((B2 k k a0 (x0.1.getD 3 0) (0,0,false) x0.2 x0.1 ((x0.1.getD 0 0),(x0.1.getD 1 0),(decide ((x0.1.getD 2 0)=1))) []).bind fun z=>
     bif zD 4 z.2.2.2.1.length then ((B1 k z.2.2.1 (z.2.2.2.1.getD 4 0)).bind fun x2=>
      (sM k x2.2).bind fun x3=>
      bif zD 6 z.2.2.2.1.length then ((B1 k x3.2 (z.2.2.2.1.getD 6 0)).bind fun x4=>
       (sM k x4.2).bind fun x5=>
       bif zD 7 z.2.2.2.1.length then ((B1 k x5.2 (z.2.2.2.1.getD 7 0)).bind fun x6=>
        bif zD 8 z.2.2.2.1.length then ((B3 k k z.1 (z.2.2.2.1.getD 8 0) z.2.1 x6.2 z.2.2.2.2.1 z.2.2.2.2.2 x2.1 x3.1 x4.1 x5.1 x6.1 []).bind fun z1=>
         (sM k z1.2.2.1).bind fun x8=>
         bif x8.2.2 then some ((0,[],[],[],[],[],[],[],[],0,false),false)
         else(ft k (z1.2.2.2.1.1,(Tv z1 (x8.1,z1.2.2.2.1.2)))).bind fun x9=>
         (Qx k x9 z1.1).bind fun cn=>
         bif !cn then some ((0,[],[],[],[],[],[],[],[],0,false),false)
         else some ((z1.2.2.2.1.1,(Tv z1 (x8.1,z1.2.2.2.1.2))),true))
        else none)
       else none)
      else none)
     else none)
    else none)
   else none)
  else none)
 else none
def rZ (k:Nat)(a0:Int):Option Int:=
 bif decide (a0=9) then some 0
 else bif decide (a0=13) then some 0
 else bif decide (a0=14) then some 0
 else bif decide (a0=15) then some 0
 else bif decide (a0=2) then some 1
 else bif decide (a0=6) then some 1
 else bif decide (a0=7) then some 1
 else bif decide (a0=16) then some 1
 else bif decide (a0=19) then some 1
 else bif decide (a0=20) then some 1
 else bif decide (a0=21) then some 1
 else bif decide (a0=22) then some 1
 else bif decide (a0=23) then some 1
 else bif decide (a0=3) then some 2
 else bif decide (a0=4) then some 2
 else bif decide (a0=5) then some 2
 else bif decide (a0=8) then some 2
 else bif decide (a0=10) then some 2
 else bif decide (a0=11) then some 2
 else bif decide (a0=12) then some 2
 else bif decide (a0=18) then some 4
 else bif decide (a0=17) then some 5
 else bif decide (a0=1) then some 6
 else some (-1)
def pC (k:Nat)(a0:AC):Option (zE×Int):=
 bif decide ((a0.length:Int)=0) then some ((0,0,0,0,0,0,0),2)
 else bif decide (1 ≤ (a0.length : Int)) then ((mw k (List.drop 1 a0)).bind fun x0=>
  bif !(decide (x0.2=0)) then some ((0,0,0,0,0,0,0),2)
  else bif zD 0 a0.length then ((rZ k (zA ((a0.getD 0 0)))).bind fun x1=>
   bif !(decide ((x0.1.length:Int)=x1)) then some ((0,0,0,0,0,0,0),2)
   else bif zD 0 a0.length then some (((zA ((a0.getD 0 0))),(bif (Nat.blt 0 x0.1.length) then(x0.1.getD 0 0) else 0),(bif (Nat.blt 1 x0.1.length) then(x0.1.getD 1 0) else 0),(bif (Nat.blt 2 x0.1.length) then(x0.1.getD 2 0) else 0),(bif (Nat.blt 3 x0.1.length) then(x0.1.getD 3 0) else 0),(bif (Nat.blt 4 x0.1.length) then(x0.1.getD 4 0) else 0),(bif (Nat.blt 5 x0.1.length) then(x0.1.getD 5 0) else 0)),0)
   else none)
  else none)
 else none
def pT (k:Nat)(a0:AC):Option (qF×Int):=
 bif decide ((a0.length:Int)<8) then some ((0,0,0,0,0,0,0,0),2)
 else bif decide (8 ≤ (a0.length : Int)) then ((mw k (List.take 8 a0)).bind fun x0=>
  bif decide (8 ≤ (a0.length : Int)) then ((pC k (List.drop 8 a0)).bind fun x1=>
   bif !(decide (x1.2=0)) then some ((0,0,0,0,0,0,0,0),2)
   else bif zD 0 x0.1.length then some (((x0.1.getD 0 0),x1.1),0)
   else none)
  else none)
 else none
def JM (k:Nat)(a0:Int):Option Bool:=
 bif decide (a0≥10) then some (decide (a0≤14))
 else some false
def FC (k:Nat)(a0:Int):Option Bool:=
 bif decide (a0≥1) then some (decide (a0≤14))
 else some false
abbrev RA:Type:=AC→Int→Int→Option (Unit⊕Bool)
def lO (k:Nat)(rec:RA)(aZ:AC)(bx aM:Int):Option (Unit⊕Bool):=
 bif decide (aM < bx) then (bif zD aM aZ.length then (bif !(decide ((aZ.getD aM.toNat 0)=0)) then some (.inr false)
   else rec aZ bx (zA (aM+1)))
  else none)
 else some (.inl ())
def mK (k:Nat):Nat→RA:=vK (fun _ _ _=>none) (lO k)
def kQ (k:Nat)(a0:zE):Option Bool:=
 (rZ k a0.1).bind fun x0=>
 bif decide (x0<0) then some false
 else bif (decide (0 ≤ x0)) && (decide (x0 ≤ 6)) then ((mK k k (qS [a0.2.1,a0.2.2.1,a0.2.2.2.1,a0.2.2.2.2.1,a0.2.2.2.2.2.1,a0.2.2.2.2.2.2] x0.toNat (6-x0.toNat)) ((qS [a0.2.1,a0.2.2.1,a0.2.2.2.1,a0.2.2.2.2.1,a0.2.2.2.2.2.1,a0.2.2.2.2.2.2] x0.toNat (6-x0.toNat)).length:Int) 0).bind fun z=>
  match z with
  |.inl z1=>some true
  |.inr z2=>some z2)
 else none
def BD (k:Nat)(a0:wA)(a1:vV)(a2:qF):Option Int:=
 (JM k a2.2.1).bind fun x0=>
 bif decide (a2.1 ≥ 0) then ((FC k a2.2.1).bind fun x1=>
  bif !x1 then some 5
  else(kQ k a2.2).bind fun x2=>
  bif !x2 then some 5
  else bif x0 then (bif !(decide (a2.1=(-1))) then some 5
   else bif !x0 then (bif !(decide (a2.1<a0.1)) then some 5
    else bif a1.2.2.2.2.2.2.2.2.2.2 then (bif !(decide (a2.2.1=9)) then some 7
     else some 0)
    else some 0)
   else bif a1.2.2.2.2.2.2.2.2.2.2 then (bif !(decide (a2.2.1=9)) then some 7
    else some 0)
   else some 0)
  else bif !x0 then (bif !(decide (a2.1<a0.1)) then some 5
   else bif a1.2.2.2.2.2.2.2.2.2.2 then (bif !(decide (a2.2.1=9)) then some 7
    else some 0)
   else some 0)
  else bif a1.2.2.2.2.2.2.2.2.2.2 then (bif !(decide (a2.2.1=9)) then some 7
   else some 0)
  else some 0)
 else(FC k a2.2.1).bind fun x3=>
 bif !x3 then some 5
 else(kQ k a2.2).bind fun x4=>
 bif !x4 then some 5
 else bif x0 then (bif !(decide (a2.1=(-1))) then some 5
  else bif !x0 then some 5
  else bif a1.2.2.2.2.2.2.2.2.2.2 then (bif !(decide (a2.2.1=9)) then some 7
   else some 0)
  else some 0)
 else bif !x0 then some 5
 else bif a1.2.2.2.2.2.2.2.2.2.2 then (bif !(decide (a2.2.1=9)) then some 7
  else some 0)
 else some 0
def PZ (k:Nat)(gK cq cO im fe gL fZ a1:Int):Option Bool:=
 some (decide (cq=a1))
abbrev RF:Type:=List zE
abbrev RD:Type:=List zE→Int→Int→Int→List zE→Option RF
def Bi (k:Nat)(rec:RD)(s8:List zE)(s9 aw aa:Int)(r1:List zE):Option RF:=
 bif decide (aw < s9) then (bif zD aw s8.length then ((PZ k (s8.getD aw.toNat (0,0,0,0,0,0,0)).1 (s8.getD aw.toNat (0,0,0,0,0,0,0)).2.1 (s8.getD aw.toNat (0,0,0,0,0,0,0)).2.2.1 (s8.getD aw.toNat (0,0,0,0,0,0,0)).2.2.2.1 (s8.getD aw.toNat (0,0,0,0,0,0,0)).2.2.2.2.1 (s8.getD aw.toNat (0,0,0,0,0,0,0)).2.2.2.2.2.1 (s8.getD aw.toNat (0,0,0,0,0,0,0)).2.2.2.2.2.2 aa).bind fun x0=>
   bif x0 then (bif zU (r1.length + 1) 56 then (let y0:List zE:=(r1++[(s8.getD aw.toNat (0,0,0,0,0,0,0))])
     rec s8 s9 (zA (aw+1)) aa y0)
    else none)
   else rec s8 s9 (zA (aw+1)) aa r1)
  else none)
 else some r1
def Ft (k:Nat):Nat→RD
 |0,_,_,_,_,_=>none
 |n+1,s8,s9,aw,aa,r1=>Bi k (Ft k n) s8 s9 aw aa r1
def PY (k:Nat)(a0:List zE)(cf:Int):Option (List zE):=
 (Ft k k a0 (a0.length:Int) 0 cf []).bind fun z=>
 some z
def Fs (k:Nat)(a0:List zE)(a1:Int):Option (List zE):=
 (PY k a0 a1).bind fun x0=>
 some x0
def yFb (k:Nat)(a0:(Int×Int×Int×Int×Int×Int×Bool×Int))(a1:Int)(a2:AC):Option wS:=
 some (a0.1,[],(lV a0 ([],[],[],[],[],[],[],[],a0.2.2.2.2.2.1,a0.2.2.2.2.2.2.1,a0.2.2.2.2.2.2.2,[(a0.2.2.2.2.2.2.2,a1,(bif (Nat.blt 0 a2.length) then(a2.getD 0 0) else 0),(bif (Nat.blt 1 a2.length) then(a2.getD 1 0) else 0),(bif (Nat.blt 2 a2.length) then(a2.getD 2 0) else 0),(bif (Nat.blt 3 a2.length) then(a2.getD 3 0) else 0),(bif (Nat.blt 4 a2.length) then(a2.getD 4 0) else 0),(bif (Nat.blt 5 a2.length) then(a2.getD 5 0) else 0))])))
def FP (k:Nat)(a0:vV)(a1:Int):Option (List qF):=
 bif zD a1 a0.2.1.length then ((Fs k a0.2.2.2.2.2.2.2.1 a1).bind fun x0=>
  (yFb k (0,0,0,0,0,0,false,a1) 17 [(a0.2.1.getD a1.toNat (0,0,0)).1,(a0.2.1.getD a1.toNat (0,0,0)).2.1,(a0.2.1.getD a1.toNat (0,0,0)).2.2,(x0.length:Int),a0.1]).bind fun x1=>
  some x1.2.2.2.2.2.2.2.2.2.2.2.2.2.2.2.2.2)
 else none
def JZ (k:Nat)(a0:ik)(a1:Int)(a2:AC):Option wS:=
 some (vB a0 [(a0.2.2.2.2.2.2.2.2.2.2.2.2.2.2.2.2,a1,(bif (Nat.blt 0 a2.length) then(a2.getD 0 0) else 0),(bif (Nat.blt 1 a2.length) then(a2.getD 1 0) else 0),(bif (Nat.blt 2 a2.length) then(a2.getD 2 0) else 0),(bif (Nat.blt 3 a2.length) then(a2.getD 3 0) else 0),(bif (Nat.blt 4 a2.length) then(a2.getD 4 0) else 0),(bif (Nat.blt 5 a2.length) then(a2.getD 5 0) else 0))])
def yS (k:Nat)(a0 a1 a2:Int):Option Bool:=
 bif decide (a0≥a1) then some (decide (a0≤a2))
 else some false
def Fz (k:Nat)(a0:wA)(a1:Int):Option Bool:=
 bif decide (a1≥0) then some (decide (a1<a0.1))
 else some false
def JI (k:Nat)(a0:wA)(a1:Int)(a2:zE):Option Bool:=
 (Fz k a0 a2.2.1).bind fun x0=>
 bif x0 then ((Fz k a0 a2.2.2.1).bind fun x1=>
  bif x1 then (bif decide (a2.1 ≥ 1) then (bif decide (a2.2.2.2.1 ≥ 1) then (bif decide (a2.2.2.2.1 ≤ 1099511627776) then (bif decide (a2.2.2.2.2.1 ≥ 1) then (bif !(decide (a2.2.1 = a2.2.2.1)) then (bif decide (a2.2.2.2.2.1 ≤ 3) then (bif decide (a2.2.2.2.2.2.1 ≥ 0) then (bif decide (a2.2.2.2.2.2.1 ≤ a2.2.2.2.2.2.2) then (bif decide (a2.2.2.2.2.2.2≥a1) then some (decide (a2.2.2.2.2.2.2≤1048576))
           else some false)
          else some false)
         else some false)
        else some false)
       else some false)
      else bif !(decide (a2.2.1=a2.2.2.1)) then some false
      else some false)
     else bif !(decide (a2.2.1=a2.2.2.1)) then some false
     else some false)
    else bif !(decide (a2.2.1=a2.2.2.1)) then some false
    else some false)
   else bif !(decide (a2.2.1=a2.2.2.1)) then some false
   else some false)
  else bif decide (a2.1 ≥ 1) then (bif decide (a2.2.2.2.1 ≥ 1) then (bif decide (a2.2.2.2.1 ≤ 1099511627776) then (bif decide (a2.2.2.2.2.1≥1) then some false
     else some false)
    else some false)
   else some false)
  else some false)
 else bif decide (a2.1 ≥ 1) then (bif decide (a2.2.2.2.1 ≥ 1) then (bif decide (a2.2.2.2.1 ≤ 1099511627776) then (bif decide (a2.2.2.2.2.1≥1) then some false
    else some false)
   else some false)
  else some false)
 else some false
def vg (k:Nat)(a0:wA)(a1 a2:Int):Option Int:=
 bif decide (a1≥a0.2.2.2.1) then some 7
 else bif decide (a2 = 3) then (bif decide (a1≥a0.2.2.1) then some 7
  else some 0)
 else some 0
def BA (k:Nat)(a0:wA)(a1:Int)(a2:zE):Option Int:=
 (JI k a0 a1 a2).bind fun x0=>
 bif !x0 then some 1
 else(vg k a0 a1 a2.2.2.2.2.1).bind fun x1=>
 some x1
def Jh (k:Nat)(a0:Int):Option Bool:=
 some (!(decide (a0=a0)))
def Jg (k:Nat)(a0 a1:Int):Option Bool:=
 (Jh k a0).bind fun x0=>
 bif x0 then ((Jh k a1).bind fun x1=>
  bif !x1 then some true
  else some (decide (a0<a1)))
 else some (decide (a0<a1))
def Jj (k:Nat)(a0:Int):Option Bool:=
 some (!(decide (a0=a0)))
abbrev RK:Type:=AC×Int×Int×Int
abbrev RI:Type:=AC→Int→Int→Int→Int→Option RK
def Ji (k:Nat)(rec:RI)(s0:AC)(s1 s6 s7 s8:Int):Option RK:=
 bif decide (s7 < s8) then (bif zD (zA ((shr .u64 (IntKind.wrap .u64 ((zA (s7 + s8)))) 1))) s0.length then ((Jg k (s0.getD (zA ((shr .u64 (IntKind.wrap .u64 ((zA (s7+s8)))) 1))).toNat 0) s1).bind fun x0=>
   bif x0 then(rec s0 s1 s6 (zA ((zA ((shr .u64 (IntKind.wrap .u64 ((zA (s7+s8)))) 1)))+1)) s8)
   else rec s0 s1 s6 s7 (zA ((shr .u64 (IntKind.wrap .u64 ((zA (s7+s8)))) 1))))
  else none)
 else some (s0,s1,s6,s7)
def Fe (k:Nat):Nat→RI:=vK (fun _ _ _ _ _=>none) (Ji k)
def AW (k:Nat)(a0:AC)(a1:Int):Option (Int×Bool):=
 (Fe k k a0 a1 (a0.length:Int) 0 (a0.length:Int)).bind fun z=>
 bif decide (z.2.2.2 < z.2.2.1) then (bif zD z.2.2.2 z.1.length then (bif decide ((z.1.getD z.2.2.2.toNat 0)=z.2.1) then some (z.2.2.2,true)
   else bif zD z.2.2.2 z.1.length then ((Jj k (z.1.getD z.2.2.2.toNat 0)).bind fun x1=>
    bif x1 then ((Jj k z.2.1).bind fun x2=>
     some (z.2.2.2,x2))
    else some (z.2.2.2,false))
   else none)
  else none)
 else some (z.2.2.2,false)
def mA (k:Nat)(a0:AC):Option AC:=
 bif zU (0+a0.length) 8 then some a0
 else none
abbrev yL4 (k:Nat)(a0:AC)(a1:Int)(a2:AC):Option AC:=ins 8 a0 a1 a2
def AY (k:Nat)(a0:AC)(a1:Int):Option (AC×Int):=
 (AW k a0 a1).bind fun x0=>
 bif x0.2 then some (a0,6)
 else bif decide ((a0.length:Int)≥200) then some (a0,3)
 else(mA k a0).bind fun x1=>
 (yL4 k x1 x0.1 [a1]).bind fun x2=>
 some (x2,0)
def Pq (k:Nat)(gK cq cO im fe gL fZ a1:Int):Option Bool:=
 some (decide (gK=a1))
abbrev RR:Type:=List zE→Int→Int→Int→Option (Unit⊕Int)
def AL (k:Nat)(rec:RR)(s0:List zE)(s7 s8 aa:Int):Option (Unit⊕Int):=
 bif decide (s8 < s7) then (bif zD s8 s0.length then ((Pq k (s0.getD s8.toNat (0,0,0,0,0,0,0)).1 (s0.getD s8.toNat (0,0,0,0,0,0,0)).2.1 (s0.getD s8.toNat (0,0,0,0,0,0,0)).2.2.1 (s0.getD s8.toNat (0,0,0,0,0,0,0)).2.2.2.1 (s0.getD s8.toNat (0,0,0,0,0,0,0)).2.2.2.2.1 (s0.getD s8.toNat (0,0,0,0,0,0,0)).2.2.2.2.2.1 (s0.getD s8.toNat (0,0,0,0,0,0,0)).2.2.2.2.2.2 aa).bind fun x0=>
   bif x0 then some (.inr s8)
   else rec s0 s7 (zA (s8+1)) aa)
  else none)
 else some (.inl ())
def AK (k:Nat):Nat→RR
 |0,_,_,_,_=>none
 |n+1,s0,s7,s8,aa=>AL k (AK k n) s0 s7 s8 aa
def Pr (k:Nat)(a0:List zE)(cf:Int):Option Int:=
 (AK k k a0 (a0.length:Int) 0 cf).bind fun z=>
 match z with
 |.inl z1=>some (-1)
 |.inr z2=>some z2
def lG (k:Nat)(a0:List zE)(a1:Int):Option Int:=
 (Pr k a0 a1).bind fun x0=>
 some x0
def Jc (k:Nat)(a0:Int):Option Bool:=
 some (!(decide (a0=a0)))
def E7 (k:Nat)(a0 a1:Int):Option Int:=
 (Jc k a0).bind fun x0=>
 (Jc k a1).bind fun x1=>
 bif x0 then (bif x1 then some 0
  else some (-1))
 else bif x1 then some 1
 else bif decide (a0<a1) then some (-1)
 else bif decide (a0>a1) then some 1
 else some 0
abbrev RU:Type:=Int→AC→Int→Int→Option (Int⊕Int)
def qV5 (k:Nat)(rec:RU)(s3:Int)(s6:AC)(s7 s8:Int):Option (Int⊕Int):=
 bif decide (s8 < s7) then (bif zD s8 s6.length then (bif !(decide ((s6.getD s8.toNat 0)=s3)) then some (.inr (s6.getD s8.toNat 0))
   else rec s3 s6 s7 (zA (s8+1)))
  else none)
 else some (.inl s3)
def AM (k:Nat):Nat→RU
 |0,_,_,_,_=>none
 |n+1,s3,s6,s7,s8=>qV5 k (AM k n) s3 s6 s7 s8
def Jb (k:Nat)(a0:AC):Option Int:=
 (AM k k 0 a0 (a0.length:Int) 0).bind fun z=>
 match z with
 |.inl z1=>some z1
 |.inr z2=>some z2
def AN (k:Nat)(gK cq cO im fe gL fZ VF mQ qb wc td VG VH:Int):Option Int:=
 (E7 k cq mQ).bind fun x0=>
 (E7 k fe td).bind fun x1=>
 (Jb k [x0,x1]).bind fun x2=>
 some x2
def sn (k:Nat)(a0:List zE):Option (List zE):=
 bif zU (0+a0.length) 56 then some a0
 else none
abbrev Jf (k:Nat)(a0:List zE)(a1:Int)(a2:List zE):Option (List zE):=ins 56 a0 a1 a2
abbrev RY:Type:=(List zE)×Int×zE
abbrev RW:Type:=List zE→Int→zE→Option RY
def AP (k:Nat)(rec:RW)(s0:List zE)(s6:Int)(b0:zE):Option RY:=
 bif decide (s6 < (s0.length : Int)) then (bif zD s6 s0.length then ((AN k (s0.getD s6.toNat (0,0,0,0,0,0,0)).1 (s0.getD s6.toNat (0,0,0,0,0,0,0)).2.1 (s0.getD s6.toNat (0,0,0,0,0,0,0)).2.2.1 (s0.getD s6.toNat (0,0,0,0,0,0,0)).2.2.2.1 (s0.getD s6.toNat (0,0,0,0,0,0,0)).2.2.2.2.1 (s0.getD s6.toNat (0,0,0,0,0,0,0)).2.2.2.2.2.1 (s0.getD s6.toNat (0,0,0,0,0,0,0)).2.2.2.2.2.2 b0.1 b0.2.1 b0.2.2.1 b0.2.2.2.1 b0.2.2.2.2.1 b0.2.2.2.2.2.1 b0.2.2.2.2.2.2).bind fun x1=>
   bif decide (x1≤0) then(rec s0 (zA (s6+1)) b0)
   else some (s0,s6,b0))
  else none)
 else some (s0,s6,b0)
def AO (k:Nat):Nat→RW:=vK (fun _ _ _=>none) (AP k)
def so (k:Nat)(a0:List zE)(a1:zE):Option ((List zE)×Int):=
 (lG k a0 a1.1).bind fun x0=>
 bif decide (x0≥0) then some (a0,6)
 else bif decide ((a0.length:Int)≥40) then some (a0,3)
 else(AO k k a0 0 a1).bind fun z=>
 (sn k z.1).bind fun x2=>
 (Jf k x2 z.2.1 [z.2.2]).bind fun x3=>
 some (x3,0)
def JJ (k:Nat)(a0:wS)(a1:(Int×Int×Int×Int×Int×Int)):Option (Int×wS):=
 (yS k a1.2.1 0 (zA (a0.1-1))).bind fun x0=>
 bif !x0 then some (1,a0)
 else(yS k a1.2.2.2.1 1 3).bind fun x1=>
 bif !x1 then some (1,a0)
 else(BA k (vT a0) a0.2.2.2.2.2.1 (a1.1,a0.2.2.2.2.2.2.2.2.2.2.2.2.2.2.2.2.1,a1.2)).bind fun x2=>
 bif !(decide (x2=0)) then some (x2,a0)
 else(AY k a0.2.2.2.2.2.2.2.2.2.2.2.2.2.1 a1.1).bind fun x3=>
 bif !(decide (x3.2=0)) then some (x3.2,a0)
 else(so k a0.2.2.2.2.2.2.2.2.2.2.2.2.1 (a1.1,a0.2.2.2.2.2.2.2.2.2.2.2.2.2.2.2.2.1,a1.2)).bind fun x4=>
 bif !(decide (x4.2=0)) then some (x4.2,a0)
 else some (0,(mP a0 (x4.1,x3.1,a0.2.2.2.2.2.2.2.2.2.2.2.2.2.2)))
def R0 (k:Nat)(a0:wS)(a1:Int):Option (zE×Int):=
 (lG k a0.2.2.2.2.2.2.2.2.2.2.2.2.1 a1).bind fun x0=>
 bif decide (x0<0) then some ((0,0,0,0,0,0,0),4)
 else bif zD x0 a0.2.2.2.2.2.2.2.2.2.2.2.2.1.length then (bif !(decide ((a0.2.2.2.2.2.2.2.2.2.2.2.2.1.getD x0.toNat (0,0,0,0,0,0,0)).2.1=a0.2.2.2.2.2.2.2.2.2.2.2.2.2.2.2.2.1)) then some ((0,0,0,0,0,0,0),4)
  else bif zD x0 a0.2.2.2.2.2.2.2.2.2.2.2.2.1.length then some ((a0.2.2.2.2.2.2.2.2.2.2.2.2.1.getD x0.toNat (0,0,0,0,0,0,0)),0)
  else none)
 else none
def E6 (k:Nat)(a0:List zE)(a1 a2:Int):Option (List zE):=
 bif ((((decide (0 ≤ a1)) && (decide (a1 ≤ a2))) && (decide (a2 ≤ (a0.length : Int)))) && (decide (((a2.toNat : Nat) : Int) ≤ (a0.length : Int)))) && (decide ((a0.length : Int) ≤ (a0.length : Int))) then (bif decide (a1=a2) then some a0
  else bif (decide (0 ≤ a1)) && (decide (a1 ≤ (a0.length : Int))) then (bif (decide (0 ≤ a2)) && (decide (a2 ≤ (a0.length : Int))) then (bif Nat.ble (a1.toNat - 0) (0 + a2.toNat) then (let y0:List zE:=(((List.take (a1.toNat-0) a0)++(qS a0 (0+a2.toNat) (a0.length-a2.toNat)))++(List.drop ((a1.toNat-0)+(a0.length-a2.toNat)) a0))
     bif ((decide (0 ≤ ((qS y0 0 ((a1.toNat - 0) + (a0.length - a2.toNat))).length : Int))) && (decide (((qS y0 0 ((a1.toNat - 0) + (a0.length - a2.toNat))).length : Int) ≤ (a0.length : Int)))) && (decide ((a0.length : Int) ≤ (((y0.length - 0) : Nat) : Int))) then (let y1:List zE:=(((List.take (0+(qS y0 0 ((a1.toNat-0)+(a0.length-a2.toNat))).length) y0)++(List.replicate (a0.length-(qS y0 0 ((a1.toNat-0)+(a0.length-a2.toNat))).length) ((0,0,0,0,0,0,0):Int×Int×Int×Int×Int×Int×Int)))++(List.drop ((0+(qS y0 0 ((a1.toNat-0)+(a0.length-a2.toNat))).length)+(a0.length-(qS y0 0 ((a1.toNat-0)+(a0.length-a2.toNat))).length)) y0))
      some (List.take ((a1.toNat-0)+(a0.length-a2.toNat)) y1))
     else none)
    else none)
   else none)
  else none)
 else none
def mF (k:Nat)(a0:List zE)(a1:Int):Option ((List zE)×Int×Int×Int×Int×Int×Int×Int×Int):=
 (lG k a0 a1).bind fun x0=>
 bif decide (x0<0) then some (a0,0,0,0,0,0,0,0,4)
 else(sn k a0).bind fun x1=>
 (E6 k x1 x0 (zA (x0+1))).bind fun x2=>
 bif zD x0 a0.length then some (x2,(j0 (a0.getD x0.toNat (0,0,0,0,0,0,0)) 0))
 else none
def sH (k:Nat)(a0:wS)(a1:Int)(a2:AC):Option wS:=
 bif zU (a0.2.2.2.2.2.2.2.2.2.2.2.2.2.2.2.2.2.length + 1) 64 then (let y0:List qF:=(a0.2.2.2.2.2.2.2.2.2.2.2.2.2.2.2.2.2++[(a0.2.2.2.2.2.2.2.2.2.2.2.2.2.2.2.2.1,a1,(bif (Nat.blt 0 a2.length) then(a2.getD 0 0) else 0),(bif (Nat.blt 1 a2.length) then(a2.getD 1 0) else 0),(bif (Nat.blt 2 a2.length) then(a2.getD 2 0) else 0),(bif (Nat.blt 3 a2.length) then(a2.getD 3 0) else 0),(bif (Nat.blt 4 a2.length) then(a2.getD 4 0) else 0),(bif (Nat.blt 5 a2.length) then(a2.getD 5 0) else 0))])
  some (VC a0 y0))
 else none
def AQ (k:Nat)(a0:List zE)(a1 a2:Int):Option ((List zE)×Int):=
 (mF k a0 a1).bind fun x0=>
 bif !(decide (x0.2.2.2.2.2.2.2.2=0)) then some (a0,x0.2.2.2.2.2.2.2.2)
 else(so k x0.1 (lV x0 (a2,x0.2.2.2.2.2.2.1,x0.2.2.2.2.2.2.2.1))).bind fun x1=>
 some (x1.1,x1.2)
def Pz (k:Nat)(a0:List zE)(a1:Int):Option ((List zE)×Int×Int×Int×Int×Int×Int×Int×Int):=
 (lG k a0 a1).bind fun x0=>
 bif decide (x0<0) then none
 else(sn k a0).bind fun x1=>
 (E6 k x1 x0 (zA (x0+1))).bind fun x2=>
 bif zD x0 a0.length then some (x2,(j0 (a0.getD x0.toNat (0,0,0,0,0,0,0)) 0))
 else none
abbrev R5:Type:=Int×(List zE)×zE
abbrev R3:Type:=Int→List zE→zE→Option R5
def AU (k:Nat)(rec:R3)(s9:Int)(r0:List zE)(b1:zE):Option R5:=
 bif decide (s9 < (r0.length : Int)) then (bif zD s9 r0.length then ((AN k (r0.getD s9.toNat (0,0,0,0,0,0,0)).1 (r0.getD s9.toNat (0,0,0,0,0,0,0)).2.1 (r0.getD s9.toNat (0,0,0,0,0,0,0)).2.2.1 (r0.getD s9.toNat (0,0,0,0,0,0,0)).2.2.2.1 (r0.getD s9.toNat (0,0,0,0,0,0,0)).2.2.2.2.1 (r0.getD s9.toNat (0,0,0,0,0,0,0)).2.2.2.2.2.1 (r0.getD s9.toNat (0,0,0,0,0,0,0)).2.2.2.2.2.2 b1.1 b1.2.1 b1.2.2.1 b1.2.2.2.1 b1.2.2.2.2.1 b1.2.2.2.2.2.1 b1.2.2.2.2.2.2).bind fun x1=>
   bif decide (x1<0) then(rec (zA (s9+1)) r0 b1)
   else some (s9,r0,b1))
  else none)
 else some (s9,r0,b1)
def AT (k:Nat):Nat→R3:=vK (fun _ _ _=>none) (AU k)
def AV (k:Nat)(a0:List zE)(a1:Int):Option ((List zE)×Int):=
 (Pz k a0 a1).bind fun x0=>
 bif !(decide (x0.2.2.2.2.2.2.2.2=0)) then some (a0,x0.2.2.2.2.2.2.2.2)
 else(AT k k 0 x0.1 (Fc x0)).bind fun z=>
 (Jf k z.2.1 z.1 [z.2.2]).bind fun x2=>
 some (x2,0)
def AR (k:Nat)(a0:List zE)(a1:Int):Option ((List zE)×Int):=
 (mF k a0 a1).bind fun x0=>
 bif !(decide (x0.2.2.2.2.2.2.2.2=0)) then some (a0,x0.2.2.2.2.2.2.2.2)
 else(so k x0.1 (Fc x0)).bind fun x1=>
 some (x1.1,x1.2)
def vh (k:Nat)(a0:wS)(a1:zE):Option (Int×wS):=
 (R0 k a0 a1.2.1).bind fun x0=>
 bif !(decide (x0.2=0)) then some (x0.2,a0)
 else bif decide (a1.1 = 2) then ((mF k a0.2.2.2.2.2.2.2.2.2.2.2.2.1 a1.2.1).bind fun x1=>
  (sH k (mP a0 (x1.1,a0.2.2.2.2.2.2.2.2.2.2.2.2.2)) 20 [a1.2.1]).bind fun x2=>
  some (x1.2.2.2.2.2.2.2.2,x2))
 else bif decide (a1.1 = 4) then ((yS k a1.2.2.1 1 3).bind fun x3=>
  bif !x3 then some (1,a0)
  else(vg k (vT a0) a0.2.2.2.2.2.1 a1.2.2.1).bind fun x4=>
  bif !(decide (x4=0)) then some (x4,a0)
  else(AQ k a0.2.2.2.2.2.2.2.2.2.2.2.2.1 a1.2.1 a1.2.2.1).bind fun x5=>
  some (x5.2,(mP a0 (x5.1,a0.2.2.2.2.2.2.2.2.2.2.2.2.2))))
 else bif decide (a1.2.2.1 = 0) then ((AV k a0.2.2.2.2.2.2.2.2.2.2.2.2.1 a1.2.1).bind fun x6=>
  some (x6.2,(mP a0 (x6.1,a0.2.2.2.2.2.2.2.2.2.2.2.2.2))))
 else bif decide (a1.2.2.1 = 1) then ((AR k a0.2.2.2.2.2.2.2.2.2.2.2.2.1 a1.2.1).bind fun x7=>
  some (x7.2,(mP a0 (x7.1,a0.2.2.2.2.2.2.2.2.2.2.2.2.2))))
 else some (1,a0)
def OM (k:Nat)(a0:List zM):Option (List zM):=
 bif zU (0+a0.length) 24 then some a0
 else none
def OI (k:Nat)(a0:EQ):Option Nat:=
 bif zU (0+a0.length) 24 then some a0.length
 else none
abbrev R6:Type:=EQ→Int→Int→EQ→Nat→Option (EQ×Nat)
def zi (k:Nat)(rec:R6)(s8:EQ)(s9 aw:Int)(m0:EQ)(n0:Nat):Option (EQ×Nat):=
 bif decide (aw < s9) then (bif zD aw s8.length then ((mA k (s8.getD aw.toNat [])).bind fun x1=>
   bif zD aw n0 then (bif Nat.beq aw.toNat m0.length then(rec s8 s9 (zA (aw+1)) (m0++[x1]) n0)
    else none)
   else none)
  else none)
 else some (m0,n0)
def Ez (k:Nat):Nat→R6
 |0,_,_,_,_,_=>none
 |n+1,s8,s9,aw,m0,n0=>zi k (Ez k n) s8 s9 aw m0 n0
def EA (k:Nat)(a0:EQ):Option EQ:=
 (OI k a0).bind fun x0=>
 (Ez k k a0 (a0.length:Int) 0 [] x0).bind fun z=>
 NR z.1 z.2
def dN (k:Nat)(aX:List zM)(bB:EQ)(bA:AC)(bp:EQ):Option Lm:=
 (OM k aX).bind fun x0=>
 (EA k bB).bind fun x1=>
 (mA k bA).bind fun x2=>
 (EA k bp).bind fun x3=>
 some (x0,x1,x2,x3)
def R8 (k:Nat)(a0:wS)(a1:Int):Option Bool:=
 (yS k a1 0 (zA (a0.1-1))).bind fun x0=>
 bif x0 then some (!(decide (a1=a0.2.2.2.2.2.2.2.2.2.2.2.2.2.2.2.2.1)))
 else some false
def vi (k:Nat)(a0:wS)(a1:zE):Option (Int×wS):=
 (dN k a0.2.2.2.2.2.2.1 a0.2.2.2.2.2.2.2.1 a0.2.2.2.2.2.2.2.2.1 a0.2.2.2.2.2.2.2.2.2.1).bind fun x0=>
 bif decide (a1.1 = 5) then ((R8 k a0 a1.2.1).bind fun x1=>
  bif !x1 then some (1,a0)
  else(yS k a1.2.2.1 (-1) 1152921504606846976).bind fun x2=>
  bif !x2 then some (1,a0)
  else bif zD a0.2.2.2.2.2.2.2.2.2.2.2.2.2.2.2.2.1 x0.2.1.length then (bif zD a1.2.1 (x0.2.1.getD a0.2.2.2.2.2.2.2.2.2.2.2.2.2.2.2.2.1.toNat []).length then (let y0:EQ:=(x0.2.1.set a0.2.2.2.2.2.2.2.2.2.2.2.2.2.2.2.2.1.toNat ((x0.2.1.getD a0.2.2.2.2.2.2.2.2.2.2.2.2.2.2.2.2.1.toNat []).set a1.2.1.toNat a1.2.2.1))
    some (0,(fx a0 (x0.1,y0,x0.2.2.1,x0.2.2.2,a0.2.2.2.2.2.2.2.2.2.2))))
   else none)
  else none)
 else bif decide (a1.1 = 6) then ((yS k a1.2.1 (-1) 1152921504606846976).bind fun x3=>
  bif !x3 then some (1,a0)
  else bif zD a0.2.2.2.2.2.2.2.2.2.2.2.2.2.2.2.2.1 x0.2.2.1.length then (let y1:AC:=(x0.2.2.1.set a0.2.2.2.2.2.2.2.2.2.2.2.2.2.2.2.2.1.toNat a1.2.1)
   some (0,(fx a0 (x0.1,x0.2.1,y1,x0.2.2.2,a0.2.2.2.2.2.2.2.2.2.2))))
  else none)
 else(yS k a1.2.1 0 1152921504606846976).bind fun x4=>
 bif !x4 then some (1,a0)
 else bif zD a0.2.2.2.2.2.2.2.2.2.2.2.2.2.2.2.2.1 x0.1.length then (let y2:List zM:=(x0.1.set a0.2.2.2.2.2.2.2.2.2.2.2.2.2.2.2.2.1.toNat ((x0.1.getD a0.2.2.2.2.2.2.2.2.2.2.2.2.2.2.2.2.1.toNat (0,0,0)).1,(x0.1.getD a0.2.2.2.2.2.2.2.2.2.2.2.2.2.2.2.2.1.toNat (0,0,0)).2.1,a1.2.1))
  some (0,(fx a0 (y2,x0.2.1,x0.2.2.1,x0.2.2.2,a0.2.2.2.2.2.2.2.2.2.2))))
 else none
def Gu (k:Nat)(a0:wS)(a1:Int):Option Bool:=
 (yS k a1 0 (zA ((a0.2.1.length:Int)-1))).bind fun x0=>
 some x0
def BC (k:Nat)(a0:EQ):Option EQ:=
 bif zU (0+a0.length) 24 then some a0
 else none
def mI (k:Nat)(a0:AC)(a1 a2:Int):Option AC:=
 (mA k a0).bind fun x0=>
 bif decide (a1 ≥ 0) then (bif decide (a1 < (x0.length : Int)) then (bif zD a1 x0.length then some (x0.set a1.toNat a2)
   else none)
  else some x0)
 else some x0
def PE (k:Nat)(a0:Int):Option Bool:=
 bif decide (a0≥0) then some (decide (a0≤10000))
 else some false
def Ff (k:Nat)(a0 a1:Int):Option vF:=
 some ((IntKind.wrap .u64 ((IntKind.wrap .u64 ((IntKind.wrap .u64 ((shr .u64 a0 32)*(shr .u64 a1 32)))+(shr .u64 (IntKind.wrap .u64 ((IntKind.wrap .u64 ((shr .u64 a0 32)*(fl .u64 a1 4294967295)))+(shr .u64 (IntKind.wrap .u64 ((fl .u64 a0 4294967295)*(fl .u64 a1 4294967295))) 32))) 32)))+(shr .u64 (IntKind.wrap .u64 ((fl .u64 (IntKind.wrap .u64 ((IntKind.wrap .u64 ((shr .u64 a0 32)*(fl .u64 a1 4294967295)))+(shr .u64 (IntKind.wrap .u64 ((fl .u64 a0 4294967295)*(fl .u64 a1 4294967295))) 32))) 4294967295)+(IntKind.wrap .u64 ((fl .u64 a0 4294967295)*(shr .u64 a1 32))))) 32))),(IntKind.wrap .u64 (a0*a1)))
def qUw (k:Nat)(a0:Int):Option Int:=
 bif decide (a0 ≥ 4294967296) then (bif decide ((shr .u64 a0 32) ≥ 65536) then (bif decide ((shr .u64 (shr .u64 a0 32) 16)≥256) then none
   else none)
  else bif decide ((shr .u64 a0 32)≥256) then none
  else none)
 else bif decide (a0 ≥ 65536) then (bif decide ((shr .u64 a0 16)≥256) then none
  else none)
 else bif decide (a0≥256) then none
 else none
def qZm (k:Nat)(a0:Int):Option Int:=
 (qUw k a0).bind fun x0=>
 some (zA (64-x0))
abbrev Sb:Type:=Int×Int×Int×Int×Int×Int×Int×Int
abbrev Sa:Type:=Int→Int→Int→Int→Int→Int→Int→Int→Int→Option Sb
def yKh (k:Nat)(rec:Sa)(s2 s8 s9 aw bC aZ bx aM bI:Int):Option Sb:=
 bif decide (aM ≥ 4294967296) then (bif decide ((IntKind.wrap .u64 (bI+s9))≥4294967296) then some (s2,s8,s9,aw,bC,aZ,bx,(IntKind.wrap .u64 (aM-1)))
  else rec s2 s8 s9 aw bC aZ bx (IntKind.wrap .u64 (aM-1)) (IntKind.wrap .u64 (bI+s9)))
 else bif decide ((IntKind.wrap .u64 (aM * aw)) > (IntKind.wrap .u64 ((IntKind.wrap .u64 (4294967296 * bI)) + aZ))) then (bif decide ((IntKind.wrap .u64 (bI+s9))≥4294967296) then some (s2,s8,s9,aw,bC,aZ,bx,(IntKind.wrap .u64 (aM-1)))
  else rec s2 s8 s9 aw bC aZ bx (IntKind.wrap .u64 (aM-1)) (IntKind.wrap .u64 (bI+s9)))
 else some (s2,s8,s9,aw,bC,aZ,bx,aM)
def Sc (k:Nat):Nat→Sa:=vK (fun _ _ _ _ _ _ _ _ _=>none) (yKh k)
abbrev Se:Type:=Int×Int×Int×Int×Int×Int
abbrev Sd:Type:=Int→Int→Int→Int→Int→Int→Int→Int→Int→Option Se
def qRz (k:Nat)(rec:Sd)(s2 s8 s9 aw bx aM bI aT gJ:Int):Option Se:=
 bif decide (gJ ≥ 4294967296) then (bif decide ((IntKind.wrap .u64 (bI+s9))≥4294967296) then some (s2,s8,bx,aM,aT,(IntKind.wrap .u64 (gJ-1)))
  else rec s2 s8 s9 aw bx aM (IntKind.wrap .u64 (bI+s9)) aT (IntKind.wrap .u64 (gJ-1)))
 else bif decide ((IntKind.wrap .u64 (gJ * aw)) > (IntKind.wrap .u64 ((IntKind.wrap .u64 (4294967296 * bI)) + bx))) then (bif decide ((IntKind.wrap .u64 (bI+s9))≥4294967296) then some (s2,s8,bx,aM,aT,(IntKind.wrap .u64 (gJ-1)))
  else rec s2 s8 s9 aw bx aM (IntKind.wrap .u64 (bI+s9)) aT (IntKind.wrap .u64 (gJ-1)))
 else some (s2,s8,bx,aM,aT,gJ)
def Sf (k:Nat):Nat→Sd:=vK (fun _ _ _ _ _ _ _ _ _=>none) (qRz k)
def Jm (k:Nat)(a0 a1 a2:Int):Option vF:=
 bif decide (a2=0) then none
 else bif decide (a2≤a0) then none
 else bif decide (a0 = 0) then (bif !(decide (a2 = 0)) then (bif !(decide (a2=0)) then some ((IntKind.wrap .u64 (Int.tdiv a1 a2)),(Int.tmod a1 a2))
   else none)
  else none)
 else(qZm k a2).bind fun x0=>
 bif !(decide ((IntKind.wrap .u64 (x0)) < 0)) then (bif !(decide ((IntKind.wrap .u64 (x0)) < 0)) then (bif !(decide ((IntKind.wrap .u64 (64 - (IntKind.wrap .u64 (x0)))) < 0)) then (bif !(decide ((IntKind.wrap .u64 (x0)) < 0)) then (bif !(decide ((shr .u64 (shl .u64 a2 (IntKind.wrap .u64 (x0))) 32) = 0)) then ((Sc k k (shl .u64 a2 (IntKind.wrap .u64 (x0))) (IntKind.wrap .u64 (x0)) (shr .u64 (shl .u64 a2 (IntKind.wrap .u64 (x0))) 32) (fl .u64 (shl .u64 a2 (IntKind.wrap .u64 (x0))) 4294967295) (fQ .u64 (shl .u64 a0 (IntKind.wrap .u64 (x0))) (shr .u64 a1 (IntKind.wrap .u64 (64-(IntKind.wrap .u64 (x0)))))) (shr .u64 (shl .u64 a1 (IntKind.wrap .u64 (x0))) 32) (fl .u64 (shl .u64 a1 (IntKind.wrap .u64 (x0))) 4294967295) (IntKind.wrap .u64 (Int.tdiv (fQ .u64 (shl .u64 a0 (IntKind.wrap .u64 (x0))) (shr .u64 a1 (IntKind.wrap .u64 (64-(IntKind.wrap .u64 (x0)))))) (shr .u64 (shl .u64 a2 (IntKind.wrap .u64 (x0))) 32))) (IntKind.wrap .u64 ((fQ .u64 (shl .u64 a0 (IntKind.wrap .u64 (x0))) (shr .u64 a1 (IntKind.wrap .u64 (64-(IntKind.wrap .u64 (x0))))))-(IntKind.wrap .u64 ((IntKind.wrap .u64 (Int.tdiv (fQ .u64 (shl .u64 a0 (IntKind.wrap .u64 (x0))) (shr .u64 a1 (IntKind.wrap .u64 (64-(IntKind.wrap .u64 (x0)))))) (shr .u64 (shl .u64 a2 (IntKind.wrap .u64 (x0))) 32)))*(shr .u64 (shl .u64 a2 (IntKind.wrap .u64 (x0))) 32)))))).bind fun z=>
      bif !(decide (z.2.2.1 = 0)) then ((Sf k k z.1 z.2.1 z.2.2.1 z.2.2.2.1 z.2.2.2.2.2.2.1 z.2.2.2.2.2.2.2 (IntKind.wrap .u64 ((IntKind.wrap .u64 ((IntKind.wrap .u64 ((IntKind.wrap .u64 (z.2.2.2.2.1*4294967296))+z.2.2.2.2.2.1))-(IntKind.wrap .u64 (z.2.2.2.2.2.2.2*z.1))))-(IntKind.wrap .u64 ((IntKind.wrap .u64 (Int.tdiv (IntKind.wrap .u64 ((IntKind.wrap .u64 ((IntKind.wrap .u64 (z.2.2.2.2.1*4294967296))+z.2.2.2.2.2.1))-(IntKind.wrap .u64 (z.2.2.2.2.2.2.2*z.1)))) z.2.2.1))*z.2.2.1)))) (IntKind.wrap .u64 ((IntKind.wrap .u64 ((IntKind.wrap .u64 (z.2.2.2.2.1*4294967296))+z.2.2.2.2.2.1))-(IntKind.wrap .u64 (z.2.2.2.2.2.2.2*z.1)))) (IntKind.wrap .u64 (Int.tdiv (IntKind.wrap .u64 ((IntKind.wrap .u64 ((IntKind.wrap .u64 (z.2.2.2.2.1*4294967296))+z.2.2.2.2.2.1))-(IntKind.wrap .u64 (z.2.2.2.2.2.2.2*z.1)))) z.2.2.1))).bind fun z1=>
       bif !(decide (z1.2.1<0)) then some ((IntKind.wrap .u64 ((IntKind.wrap .u64 (z1.2.2.2.1*4294967296))+z1.2.2.2.2.2)),(shr .u64 (IntKind.wrap .u64 ((IntKind.wrap .u64 ((IntKind.wrap .u64 (z1.2.2.2.2.1*4294967296))+z1.2.2.1))-(IntKind.wrap .u64 (z1.2.2.2.2.2*z1.1)))) z1.2.1))
       else none)
      else none)
     else none)
    else none)
   else none)
  else none)
 else none
def Jn (k:Nat)(a0 a1 a2:Int):Option (Int×Bool):=
 bif decide (a0<0) then some (0,false)
 else bif decide (a1<0) then some (0,false)
 else(PE k a2).bind fun x0=>
 bif !x0 then some (0,false)
 else(Ff k (IntKind.wrap .u64 (a0)) (IntKind.wrap .u64 (a1))).bind fun x1=>
 (Jm k (Int.tmod x1.1 10000) x1.2 10000).bind fun x2=>
 (Ff k x2.1 (IntKind.wrap .u64 ((zA (10000-a2))))).bind fun x3=>
 (yg k x3.2 (IntKind.wrap .u64 (Int.tdiv (IntKind.wrap .u64 (x2.2*(IntKind.wrap .u64 ((zA (10000-a2)))))) 10000)) 0).bind fun x4=>
 bif decide ((IntKind.wrap .u64 (Int.tdiv x1.1 10000)) > 0) then (bif decide ((IntKind.wrap .u64 ((zA (10000-a2))))>0) then some (0,false)
  else bif decide ((IntKind.wrap .u64 (x3.1+x4.2))>0) then some (0,false)
  else bif decide (x4.1>9223372036854775807) then some (0,false)
  else some ((zA (x4.1)),true))
 else bif decide ((IntKind.wrap .u64 (x3.1+x4.2))>0) then some (0,false)
 else bif decide (x4.1>9223372036854775807) then some (0,false)
 else some ((zA (x4.1)),true)
abbrev Si:Type:=Int→Int→AC→Int→Int→Option vF
def A2 (k:Nat)(rec:Si)(s4 s5:Int)(s9:AC)(aw bC:Int):Option vF:=
 bif decide (bC < aw) then (bif zD bC s9.length then ((yg k s5 (IntKind.wrap .u64 ((s9.getD bC.toNat 0))) 0).bind fun x0=>
   rec (zA (s4+(zA ((shr .i64 (s9.getD bC.toNat 0) 63)+(zA (x0.2)))))) x0.1 s9 aw (zA (bC+1)))
  else none)
 else some (s4,s5)
def A0 (k:Nat):Nat→Si
 |0,_,_,_,_,_=>none
 |n+1,s4,s5,s9,aw,bC=>A2 k (A0 k n) s4 s5 s9 aw bC
def AZ (k:Nat)(a0:AC):Option (Int×Bool):=
 (A0 k k 0 0 a0 (a0.length:Int) 0).bind fun z=>
 bif !(decide (z.1=(shr .i64 (zA (z.2)) 63))) then some (0,false)
 else some ((zA (z.2)),true)
abbrev Sk:Type:=AC→AC→List vF→Int→Int→AC→Option (AC⊕(Int×Bool))
def A6 (k:Nat)(rec:Sk)(s1 s2:AC)(ga:List vF)(aK dj:Int)(r0:AC):Option (AC⊕(Int×Bool)):=
 bif decide (dj < aK) then (bif zD dj ga.length then (bif zD dj s1.length then (bif zD dj s2.length then ((Jn k (s1.getD dj.toNat 0) (s2.getD dj.toNat 0) (ga.getD dj.toNat (0,0)).2).bind fun x0=>
     bif !x0.2 then some (.inr (0,false))
     else bif zU (r0.length+1) 8 then(rec s1 s2 ga aK (zA (dj+1)) (r0++[x0.1]))
     else none)
    else none)
   else none)
  else none)
 else some (.inl r0)
def A5 (k:Nat):Nat→Sk:=vK (fun _ _ _ _ _ _=>none) (A6 k)
def nS (k:Nat)(a0:List vF)(a1 a2:AC):Option (Int×Bool):=
 bif !(decide ((a1.length:Int)=(a0.length:Int))) then some (0,false)
 else bif !(decide ((a2.length:Int)=(a0.length:Int))) then some (0,false)
 else(A5 k k a1 a2 a0 (a0.length:Int) 0 []).bind fun z=>
 match z with
 |.inl z1=>(AZ k z1).bind fun x1=>
  some (x1.1,x1.2)
 |.inr z2=>some (z2.1,z2.2)
def JK (k:Nat)(a0:wS)(a1 a2:Int):Option (Int×wS):=
 (Gu k a0 a1).bind fun x0=>
 bif !x0 then some (1,a0)
 else(yS k a2 0 1099511627776).bind fun x1=>
 bif !x1 then some (1,a0)
 else(BC k a0.2.2.2.2.2.2.2.2.2.2.2.1).bind fun x2=>
 bif zD a0.2.2.2.2.2.2.2.2.2.2.2.2.2.2.2.2.1 x2.length then ((mI k (x2.getD a0.2.2.2.2.2.2.2.2.2.2.2.2.2.2.2.2.1.toNat []) a1 a2).bind fun x3=>
  bif zD a0.2.2.2.2.2.2.2.2.2.2.2.2.2.2.2.2.1 x2.length then (let y0:EQ:=(x2.set a0.2.2.2.2.2.2.2.2.2.2.2.2.2.2.2.2.1.toNat x3)
   bif zD a0.2.2.2.2.2.2.2.2.2.2.2.2.2.2.2.2.1 y0.length then ((nS k a0.2.1 a0.2.2.2.2.2.2.2.2.2.2.1 (y0.getD a0.2.2.2.2.2.2.2.2.2.2.2.2.2.2.2.2.1.toNat [])).bind fun x4=>
    bif zD a0.2.2.2.2.2.2.2.2.2.2.2.2.2.2.2.2.1 a0.2.2.2.2.2.2.1.length then (bif !x4.2 then some (8,a0)
     else bif decide (x4.1>1152921504606846976) then some (8,a0)
     else bif decide (x4.1 < (a0.2.2.2.2.2.2.1.getD a0.2.2.2.2.2.2.2.2.2.2.2.2.2.2.2.2.1.toNat (0, 0, 0)).2.1) then (bif decide ((zA ((a0.2.2.2.2.2.2.1.getD a0.2.2.2.2.2.2.2.2.2.2.2.2.2.2.2.2.1.toNat (0,0,0)).1+x4.1))<0) then some (9,a0)
      else(dN k a0.2.2.2.2.2.2.1 a0.2.2.2.2.2.2.2.1 a0.2.2.2.2.2.2.2.2.1 a0.2.2.2.2.2.2.2.2.2.1).bind fun x5=>
      bif zD a0.2.2.2.2.2.2.2.2.2.2.2.2.2.2.2.2.1 x5.1.length then (let y1:List zM:=(x5.1.set a0.2.2.2.2.2.2.2.2.2.2.2.2.2.2.2.2.1.toNat ((x5.1.getD a0.2.2.2.2.2.2.2.2.2.2.2.2.2.2.2.2.1.toNat (0,0,0)).1,x4.1,(x5.1.getD a0.2.2.2.2.2.2.2.2.2.2.2.2.2.2.2.2.1.toNat (0,0,0)).2.2))
       some (0,(fx a0 (y1,x5.2.1,x5.2.2.1,x5.2.2.2,a0.2.2.2.2.2.2.2.2.2.2.1,y0,a0.2.2.2.2.2.2.2.2.2.2.2.2))))
      else none)
     else(dN k a0.2.2.2.2.2.2.1 a0.2.2.2.2.2.2.2.1 a0.2.2.2.2.2.2.2.2.1 a0.2.2.2.2.2.2.2.2.2.1).bind fun x6=>
     bif zD a0.2.2.2.2.2.2.2.2.2.2.2.2.2.2.2.2.1 x6.1.length then (let y2:List zM:=(x6.1.set a0.2.2.2.2.2.2.2.2.2.2.2.2.2.2.2.2.1.toNat ((x6.1.getD a0.2.2.2.2.2.2.2.2.2.2.2.2.2.2.2.2.1.toNat (0,0,0)).1,x4.1,(x6.1.getD a0.2.2.2.2.2.2.2.2.2.2.2.2.2.2.2.2.1.toNat (0,0,0)).2.2))
      some (0,(fx a0 (y2,x6.2.1,x6.2.2.1,x6.2.2.2,a0.2.2.2.2.2.2.2.2.2.2.1,y0,a0.2.2.2.2.2.2.2.2.2.2.2.2))))
     else none)
    else none)
   else none)
  else none)
 else none
def JL (k:Nat)(a0 a1:Int):Option (Int×Bool):=
 bif decide (a1 > 0) then (bif decide (a0>(zA (9223372036854775807-a1))) then some (0,false)
  else bif decide (a1 < 0) then (bif decide (a0<(zA ((-9223372036854775808)-a1))) then some (0,false)
   else some ((zA (a0+a1)),true))
  else some ((zA (a0+a1)),true))
 else bif decide (a1 < 0) then (bif decide (a0<(zA ((-9223372036854775808)-a1))) then some (0,false)
  else some ((zA (a0+a1)),true))
 else some ((zA (a0+a1)),true)
def Ir (k:Nat)(qc qd lX:Int):Option Bool:=
 bif decide (qc > (-4611686018427387904)) then (bif decide (qc < 4611686018427387904) then (bif decide (qd ≥ 0) then (bif decide (qd ≤ 2305843009213693952) then (bif decide (lX≥0) then some (decide (lX≤2305843009213693952))
     else some false)
    else some false)
   else some false)
  else some false)
 else some false
def FB (k:Nat)(a0:zM)(a1:Int):Option (zM×Int):=
 (JL k a0.1 a1).bind fun x0=>
 bif !x0.2 then some (a0,8)
 else(Ir k x0.1 a0.2.1 a0.2.2).bind fun x1=>
 bif !x1 then some (a0,8)
 else some ((x0.1,a0.2),0)
def BH (k:Nat)(a0:zM)(a1:Int):Option (zM×Int):=
 (FB k a0 a1).bind fun x0=>
 some (x0.1,x0.2)
def sg (k:Nat)(qc qd lX a1:Int):Option Int:=
 some (vR false (zA (lX-a1)) 0)
def BI (k:Nat)(a0:zM)(a1 a2:Int):Option (zM×Int):=
 (FB k a0 (zA (0-a1))).bind fun x0=>
 bif decide (x0.2 = 0) then (bif decide (a2 = 1) then ((sg k a0.1 a0.2.1 a0.2.2 a1).bind fun x1=>
   some ((x0.1.1,x0.1.2.1,x1),x0.2))
  else bif decide (a2 = 2) then ((sg k a0.1 a0.2.1 a0.2.2 a1).bind fun x2=>
   some ((x0.1.1,x0.1.2.1,x2),x0.2))
  else some (x0.1,x0.2))
 else some (x0.1,x0.2)
def BJ (k:Nat)(a0:zM)(a1:Int):Option Int:=
 bif decide (a1=3) then some (zA ((zA (a0.1+a0.2.1))-a0.2.2))
 else some (zA (a0.1+a0.2.1))
def Sm (k:Nat)(a0:wS)(a1 a2 a3:Int):Option (Int×wS):=
 (yS k a2 0 (zA (a0.1-1))).bind fun x0=>
 bif !x0 then some (1,a0)
 else(yS k a3 1 1099511627776).bind fun x1=>
 bif !x1 then some (1,a0)
 else bif zD a2 a0.2.2.2.2.2.2.1.length then ((BH k (a0.2.2.2.2.2.2.1.getD a2.toNat (0,0,0)) a3).bind fun x2=>
  bif decide (a1 = 11) then ((BI k (a0.2.2.2.2.2.2.1.getD a2.toNat (0,0,0)) a3 3).bind fun x3=>
   (BJ k (a0.2.2.2.2.2.2.1.getD a2.toNat (0,0,0)) 3).bind fun x4=>
   bif decide (x4<a3) then some (9,a0)
   else bif decide ((zA (a0.2.2.2.2.2.2.2.2.2.2.2.2.2.2.1-a3))<0) then some (9,a0)
   else bif !(decide (x3.2=0)) then some (x3.2,a0)
   else bif decide ((zA (a0.2.2.2.2.2.2.2.2.2.2.2.2.2.2.1-a3))>1152921504606846976) then some (8,a0)
   else(dN k a0.2.2.2.2.2.2.1 a0.2.2.2.2.2.2.2.1 a0.2.2.2.2.2.2.2.2.1 a0.2.2.2.2.2.2.2.2.2.1).bind fun x5=>
   bif zD a2 x5.1.length then some (0,(fx a0 ((x5.1.set a2.toNat x3.1),x5.2.1,x5.2.2.1,x5.2.2.2,(Ln a0 ((zA (a0.2.2.2.2.2.2.2.2.2.2.2.2.2.2.1-a3)),a0.2.2.2.2.2.2.2.2.2.2.2.2.2.2.2)))))
   else none)
  else bif !(decide (x2.2=0)) then some (x2.2,a0)
  else bif decide ((zA (a0.2.2.2.2.2.2.2.2.2.2.2.2.2.2.1+a3))>1152921504606846976) then some (8,a0)
  else(dN k a0.2.2.2.2.2.2.1 a0.2.2.2.2.2.2.2.1 a0.2.2.2.2.2.2.2.2.1 a0.2.2.2.2.2.2.2.2.2.1).bind fun x6=>
  bif zD a2 x6.1.length then some (0,(fx a0 ((x6.1.set a2.toNat x2.1),x6.2.1,x6.2.2.1,x6.2.2.2,(Ln a0 ((zA (a0.2.2.2.2.2.2.2.2.2.2.2.2.2.2.1+a3)),a0.2.2.2.2.2.2.2.2.2.2.2.2.2.2.2)))))
  else none)
 else none
abbrev Sq:Type:=(ik×(List qF)×AC×(List zM)×EQ×AC×EQ)⊕(Int×ik×(List qF))
abbrev So:Type:=EQ→Int→Int→ik→List qF→AC→List zM→EQ→AC→EQ→Option Sq
def qW1 (k:Nat)(rec:So)(dR:EQ)(fD gM:Int)(b0:ik)(r1:List qF)(r2:AC)(r4:List zM)(m5:EQ)(r6:AC)(m7:EQ):Option Sq:=
 bif decide (gM < fD) then (bif zD gM dR.length then ((nS k b0.2.1 r2 (dR.getD gM.toNat [])).bind fun x4=>
   bif !x4.2 then some (.inr (8,b0,r1))
   else bif decide (x4.1>1152921504606846976) then some (.inr (8,b0,r1))
   else bif zD gM r4.length then (let y0:List zM:=(r4.set gM.toNat ((r4.getD gM.toNat (0,0,0)).1,x4.1,(r4.getD gM.toNat (0,0,0)).2.2))
    rec dR fD (zA (gM+1)) b0 r1 r2 y0 m5 r6 m7)
   else none)
  else none)
 else some (.inl (b0,r1,r2,r4,m5,r6,m7))
def Sr (k:Nat):Nat→So:=vK (fun _ _ _ _ _ _ _ _ _ _=>none) (qW1 k)
def yMg (k:Nat)(a0:wS)(a1 a2:Int):Option (Int×wS):=
 (Gu k a0 a1).bind fun x0=>
 bif !x0 then some (1,a0)
 else(yS k a2 0 1048576).bind fun x1=>
 bif !x1 then some (1,a0)
 else(mI k a0.2.2.2.2.2.2.2.2.2.2.1 a1 a2).bind fun x2=>
 (dN k a0.2.2.2.2.2.2.1 a0.2.2.2.2.2.2.2.1 a0.2.2.2.2.2.2.2.2.1 a0.2.2.2.2.2.2.2.2.2.1).bind fun x3=>
 (Sr k k a0.2.2.2.2.2.2.2.2.2.2.2.1 (a0.2.2.2.2.2.2.2.2.2.2.2.1.length:Int) 0 (ig a0) a0.2.2.2.2.2.2.2.2.2.2.2.2.2.2.2.2.2 x2 x3.1 x3.2.1 x3.2.2.1 x3.2.2.2).bind fun z=>
 match z with
 |.inl z1=>some (0,(fx z1.1 (ySo z1 (z1.2.2.1,(P6 z1.1 z1.2.1)))))
 |.inr z2=>some (z2.1,(vB z2.2.1 z2.2.2))
def JW (k:Nat)(a0:wS)(a1:zE):Option (Int×wS):=
 bif decide (a1.1 = 1) then ((JJ k a0 a1.2).bind fun x0=>
  some (x0.1,x0.2))
 else bif decide (a1.1 = 2) then ((vh k a0 a1).bind fun x1=>
  some (x1.1,x1.2))
 else bif decide (a1.1 = 3) then ((vh k a0 a1).bind fun x2=>
  some (x2.1,x2.2))
 else bif decide (a1.1 = 4) then ((vh k a0 a1).bind fun x3=>
  some (x3.1,x3.2))
 else bif decide (a1.1 = 5) then ((vi k a0 a1).bind fun x4=>
  some (x4.1,x4.2))
 else bif decide (a1.1 = 6) then ((vi k a0 a1).bind fun x5=>
  some (x5.1,x5.2))
 else bif decide (a1.1 = 7) then ((vi k a0 a1).bind fun x6=>
  some (x6.1,x6.2))
 else bif decide (a1.1 = 8) then ((JK k a0 a1.2.1 a1.2.2.1).bind fun x7=>
  some (x7.1,x7.2))
 else bif decide (a1.1 = 10) then ((Sm k a0 a1.1 a1.2.1 a1.2.2.1).bind fun x8=>
  some (x8.1,x8.2))
 else bif decide (a1.1 = 11) then ((Sm k a0 a1.1 a1.2.1 a1.2.2.1).bind fun x9=>
  some (x9.1,x9.2))
 else bif decide (a1.1 = 12) then ((yMg k a0 a1.2.1 a1.2.2.1).bind fun cn=>
  some (cn.1,cn.2))
 else some (0,a0)
def By (k:Nat)(Lq:Int)(Lr:List vF)(Ls Cz CA a1:Int):Option Bool:=
 some (decide (a1=Cz))
def mJ (k:Nat)(a0 a1:Int)(a2:AC):Option qF:=
 some (a0,a1,(bif (Nat.blt 0 a2.length) then(a2.getD 0 0) else 0),(bif (Nat.blt 1 a2.length) then(a2.getD 1 0) else 0),(bif (Nat.blt 2 a2.length) then(a2.getD 2 0) else 0),(bif (Nat.blt 3 a2.length) then(a2.getD 3 0) else 0),(bif (Nat.blt 4 a2.length) then(a2.getD 4 0) else 0),(bif (Nat.blt 5 a2.length) then(a2.getD 5 0) else 0))
abbrev Su:Type:=Int×(List zM)×EQ×AC×EQ×AC×EQ×(List zE)×AC×Int×Bool×Int×Int×Bool×(List qF)
abbrev Ss:Type:=List zE→Int→Int→Int→List zM→EQ→AC→EQ→AC→EQ→List zE→AC→Int→Bool→Int→Int→Bool→List qF→Option Su
def Bt (k:Nat)(rec:Ss)(aw:List zE)(bC bV aa:Int)(af:List zM)(ag:EQ)(ae:AC)(aU:EQ)(bb:AC)(bc:EQ)(cJ:List zE)(cL:AC)(cM:Int)(bJ:Bool)(aq bh:Int)(aJ:Bool)(r2:List qF):Option Su:=
 bif decide (bV < bC) then (bif zD bV aw.length then ((mJ k (aw.getD bV.toNat (0,0,0,0,0,0,0)).2.1 22 [(aw.getD bV.toNat (0,0,0,0,0,0,0)).1]).bind fun x0=>
   bif zU (r2.length+1) 64 then(rec aw bC (zA (bV+1)) aa af ag ae aU bb bc cJ cL cM bJ aq bh aJ (r2++[x0]))
   else none)
  else none)
 else some (aa,af,ag,ae,aU,bb,bc,cJ,cL,cM,bJ,aq,bh,aJ,r2)
def Br (k:Nat):Nat→Ss
 |0,_,_,_,_,_,_,_,_,_,_,_,_,_,_,_,_,_,_=>none
 |n+1,aw,bC,bV,aa,af,ag,ae,aU,bb,bc,cJ,cL,cM,bJ,aq,bh,aJ,r2=>Bt k (Br k n) aw bC bV aa af ag ae aU bb bc cJ cL cM bJ aq bh aJ r2
abbrev Sw:Type:=Int×(List zM)×EQ×AC×EQ×AC×EQ×(List zE)×AC×Int×Bool×Int×Int×Bool×(List qF)
abbrev Sv:Type:=List zM→Int→Int→Int→List zM→EQ→AC→EQ→AC→EQ→List zE→AC→Int→Bool→Int→Int→Bool→List qF→Option Sw
def Bv (k:Nat)(rec:Sv)(iq:List zM)(dm iX aa:Int)(af:List zM)(ag:EQ)(ae:AC)(aU:EQ)(bb:AC)(bc:EQ)(cJ:List zE)(cL:AC)(cM:Int)(bJ:Bool)(aq bh:Int)(aJ:Bool)(r2:List qF):Option Sw:=
 bif decide (iX < dm) then (bif zD iX iq.length then ((mJ k iX 23 [(iq.getD iX.toNat (0,0,0)).1]).bind fun x1=>
   bif zU (r2.length+1) 64 then(rec iq dm (zA (iX+1)) aa af ag ae aU bb bc cJ cL cM bJ aq bh aJ (r2++[x1]))
   else none)
  else none)
 else some (aa,af,ag,ae,aU,bb,bc,cJ,cL,cM,bJ,aq,bh,aJ,r2)
def Bu (k:Nat):Nat→Sv
 |0,_,_,_,_,_,_,_,_,_,_,_,_,_,_,_,_,_,_=>none
 |n+1,iq,dm,iX,aa,af,ag,ae,aU,bb,bc,cJ,cL,cM,bJ,aq,bh,aJ,r2=>Bv k (Bu k n) iq dm iX aa af ag ae aU bb bc cJ cL cM bJ aq bh aJ r2
def JG (k:Nat)(Lt:Int)(VI:List zM)(VJ:EQ)(VK:AC)(VL:EQ)(VM:AC)(VN:EQ)(GJ:List zE)(VO:AC)(VP:Int)(VQ:Bool):Option VA:=
 (Br k k GJ (GJ.length:Int) 0 Lt VI VJ VK VL VM VN GJ VO VP VQ 0 0 false []).bind fun z=>
 (Bu k k z.2.1 (z.2.1.length:Int) 0 z.1 z.2.1 z.2.2.1 z.2.2.2.1 z.2.2.2.2.1 z.2.2.2.2.2.1 z.2.2.2.2.2.2.1 z.2.2.2.2.2.2.2.1 z.2.2.2.2.2.2.2.2.1 z.2.2.2.2.2.2.2.2.2.1 z.2.2.2.2.2.2.2.2.2.2.1 z.2.2.2.2.2.2.2.2.2.2.2.1 z.2.2.2.2.2.2.2.2.2.2.2.2.1 z.2.2.2.2.2.2.2.2.2.2.2.2.2.1 z.2.2.2.2.2.2.2.2.2.2.2.2.2.2).bind fun z1=>
 some (Cq z1 ([],z1.2.2.2.2.2.2.2.2.1,z1.2.2.2.2.2.2.2.2.2.1,true,z1.2.2.2.2.2.2.2.2.2.2.2.2.2.2))
def P1 (k:Nat)(gK cq cO im fe gL fZ a1:Int):Option Bool:=
 some (decide (a1>fZ))
def JH (k:Nat)(Lq:Int)(Lr:List vF)(Ls Cz CA a1:Int):Option Bool:=
 bif decide (a1 > 0) then (bif decide (a1 < Cz) then (bif !(decide (CA=0)) then some (decide ((Int.tmod a1 CA)=0))
   else none)
  else some false)
 else some false
def Pj (k:Nat)(gK cq cO im fe gL fZ a1:Int):Option Bool:=
 bif decide (a1≥gL) then some (decide (a1≤fZ))
 else some false
def Ph (k:Nat)(gK cq cO im fe gL fZ a1:Int):Option Bool:=
 (Pj k gK cq cO im fe gL fZ a1).bind fun x0=>
 some x0
abbrev SA:Type:=List zE
abbrev Sy:Type:=List zE→Int→Int→Int→List zE→Option SA
def AE (k:Nat)(rec:Sy)(s8:List zE)(s9 aw aa:Int)(r1:List zE):Option SA:=
 bif decide (aw < s9) then (bif zD aw s8.length then ((Ph k (s8.getD aw.toNat (0,0,0,0,0,0,0)).1 (s8.getD aw.toNat (0,0,0,0,0,0,0)).2.1 (s8.getD aw.toNat (0,0,0,0,0,0,0)).2.2.1 (s8.getD aw.toNat (0,0,0,0,0,0,0)).2.2.2.1 (s8.getD aw.toNat (0,0,0,0,0,0,0)).2.2.2.2.1 (s8.getD aw.toNat (0,0,0,0,0,0,0)).2.2.2.2.2.1 (s8.getD aw.toNat (0,0,0,0,0,0,0)).2.2.2.2.2.2 aa).bind fun x0=>
   bif x0 then (bif zU (r1.length + 1) 56 then (let y0:List zE:=(r1++[(s8.getD aw.toNat (0,0,0,0,0,0,0))])
     rec s8 s9 (zA (aw+1)) aa y0)
    else none)
   else rec s8 s9 (zA (aw+1)) aa r1)
  else none)
 else some r1
def E3 (k:Nat):Nat→Sy
 |0,_,_,_,_,_=>none
 |n+1,s8,s9,aw,aa,r1=>AE k (E3 k n) s8 s9 aw aa r1
def Pg (k:Nat)(a0:List zE)(cf:Int):Option (List zE):=
 (E3 k k a0 (a0.length:Int) 0 cf []).bind fun z=>
 some z
def AB (k:Nat)(a0:List zE)(a1:Int):Option (List zE):=
 (Pg k a0 a1).bind fun x0=>
 some x0
def Pm (k:Nat)(gK cq cO im fe gL fZ VF mQ qb wc td VG VH:Int):Option Bool:=
 bif decide (cq=mQ) then some (!(decide (fe=3)))
 else some false
abbrev SB:Type:=List zE→Int→Int→Int→Int→Int→Int→Int→Int→Int→Option (Unit⊕Int)
def AG (k:Nat)(rec:SB)(s0:List zE)(s7 s8 aa af ag ae aU bb bc:Int):Option (Unit⊕Int):=
 bif decide (s8 < s7) then (bif zD s8 s0.length then ((Pm k (s0.getD s8.toNat (0,0,0,0,0,0,0)).1 (s0.getD s8.toNat (0,0,0,0,0,0,0)).2.1 (s0.getD s8.toNat (0,0,0,0,0,0,0)).2.2.1 (s0.getD s8.toNat (0,0,0,0,0,0,0)).2.2.2.1 (s0.getD s8.toNat (0,0,0,0,0,0,0)).2.2.2.2.1 (s0.getD s8.toNat (0,0,0,0,0,0,0)).2.2.2.2.2.1 (s0.getD s8.toNat (0,0,0,0,0,0,0)).2.2.2.2.2.2 aa af ag ae aU bb bc).bind fun x0=>
   bif x0 then some (.inr s8)
   else rec s0 s7 (zA (s8+1)) aa af ag ae aU bb bc)
  else none)
 else some (.inl ())
def AF (k:Nat):Nat→SB
 |0,_,_,_,_,_,_,_,_,_,_=>none
 |n+1,s0,s7,s8,aa,af,ag,ae,aU,bb,bc=>AG k (AF k n) s0 s7 s8 aa af ag ae aU bb bc
def Pn (k:Nat)(a0:List zE)(VR VT VU VV VW VX VY:Int):Option Int:=
 (AF k k a0 (a0.length:Int) 0 VR VT VU VV VW VX VY).bind fun z=>
 match z with
 |.inl z1=>some (-1)
 |.inr z2=>some z2
def I9 (k:Nat)(a0:List zE)(VR VT VU VV VW VX VY:Int):Option Bool:=
 (Pn k a0 VR VT VU VV VW VX VY).bind fun x0=>
 some (decide (x0≥0))
def Pp (k:Nat)(gK cq cO im fe gL fZ:Int)(a1:List (Int×Bool))(a2:List zE):Option (Bool×(List (Int×Bool))):=
 bif !(Option.getD (List.lookup cq a1) false) then some (true,((cq,true)::a1))
 else bif decide (fe = 3) then ((I9 k a2 gK cq cO im fe gL fZ).bind fun x0=>
  some ((!x0),((cq,true)::a1)))
 else some (false,((cq,true)::a1))
abbrev SG:Type:=(List (Int×Bool))×(List zE)×(List zE)
abbrev SE:Type:=List zE→Int→Int→List (Int×Bool)→List zE→List zE→Option SG
def AI (k:Nat)(rec:SE)(s8:List zE)(s9 aw:Int)(p1:List (Int×Bool))(bG r3:List zE):Option SG:=
 bif decide (aw < s9) then (bif zD aw s8.length then ((Pp k (s8.getD aw.toNat (0,0,0,0,0,0,0)).1 (s8.getD aw.toNat (0,0,0,0,0,0,0)).2.1 (s8.getD aw.toNat (0,0,0,0,0,0,0)).2.2.1 (s8.getD aw.toNat (0,0,0,0,0,0,0)).2.2.2.1 (s8.getD aw.toNat (0,0,0,0,0,0,0)).2.2.2.2.1 (s8.getD aw.toNat (0,0,0,0,0,0,0)).2.2.2.2.2.1 (s8.getD aw.toNat (0,0,0,0,0,0,0)).2.2.2.2.2.2 p1 bG).bind fun x0=>
   bif x0.1 then (bif zU (r3.length + 1) 56 then (let y0:List zE:=(r3++[(s8.getD aw.toNat (0,0,0,0,0,0,0))])
     rec s8 s9 (zA (aw+1)) x0.2 bG y0)
    else none)
   else rec s8 s9 (zA (aw+1)) x0.2 bG r3)
  else none)
 else some (p1,bG,r3)
def AH (k:Nat):Nat→SE
 |0,_,_,_,_,_,_=>none
 |n+1,s8,s9,aw,p1,bG,r3=>AI k (AH k n) s8 s9 aw p1 bG r3
def Po (k:Nat)(a0:List zE)(cf:List (Int×Bool))(VZ:List zE):Option ((List zE)×(List (Int×Bool))):=
 (AH k k a0 (a0.length:Int) 0 cf VZ []).bind fun z=>
 some (z.2.2,z.1)
def E5 (k:Nat)(a0:List zE)(a1:Int):Option (List zE):=
 (AB k a0 a1).bind fun x0=>
 (Po k x0 [] x0).bind fun x1=>
 some x1.1
def zm (k:Nat)(aX:List zM)(bB:EQ)(bA:AC)(bp:EQ)(VF mQ qb wc td VG VH:Int):Option Bool:=
 bif decide (mQ ≥ 0) then (bif decide (mQ < (aX.length : Int)) then (bif decide (qb ≥ 0) then (bif decide (qb < (aX.length : Int)) then (bif !(decide (mQ = qb)) then (bif decide (wc ≥ 1) then (bif decide (wc ≤ 1099511627776) then (bif decide (td≥1) then some (decide (td≤3))
        else some false)
       else some false)
      else some false)
     else some false)
    else some false)
   else some false)
  else some false)
 else some false
def Pd (k:Nat)(gK cq cO im fe gL fZ:Int)(gO:List zM)(qe:EQ)(qg:AC)(qh:EQ):Option Bool:=
 (zm k gO qe qg qh gK cq cO im fe gL fZ).bind fun x0=>
 some (!x0)
abbrev SI:Type:=List zE→Int→Int→List zM→EQ→AC→EQ→Option (Unit⊕Int)
def AA (k:Nat)(rec:SI)(s0:List zE)(s7 s8:Int)(aa:List zM)(af:EQ)(ag:AC)(ae:EQ):Option (Unit⊕Int):=
 bif decide (s8 < s7) then (bif zD s8 s0.length then ((Pd k (s0.getD s8.toNat (0,0,0,0,0,0,0)).1 (s0.getD s8.toNat (0,0,0,0,0,0,0)).2.1 (s0.getD s8.toNat (0,0,0,0,0,0,0)).2.2.1 (s0.getD s8.toNat (0,0,0,0,0,0,0)).2.2.2.1 (s0.getD s8.toNat (0,0,0,0,0,0,0)).2.2.2.2.1 (s0.getD s8.toNat (0,0,0,0,0,0,0)).2.2.2.2.2.1 (s0.getD s8.toNat (0,0,0,0,0,0,0)).2.2.2.2.2.2 aa af ag ae).bind fun x0=>
   bif x0 then some (.inr s8)
   else rec s0 s7 (zA (s8+1)) aa af ag ae)
  else none)
 else some (.inl ())
def E1 (k:Nat):Nat→SI
 |0,_,_,_,_,_,_,_=>none
 |n+1,s0,s7,s8,aa,af,ag,ae=>AA k (E1 k n) s0 s7 s8 aa af ag ae
def Pe (k:Nat)(a0:List zE)(we:List zM)(wg:EQ)(wh:AC)(wi:EQ):Option Int:=
 (E1 k k a0 (a0.length:Int) 0 we wg wh wi).bind fun z=>
 match z with
 |.inl z1=>some (-1)
 |.inr z2=>some z2
def I8 (k:Nat)(a0:List zE)(we:List zM)(wg:EQ)(wh:AC)(wi:EQ):Option Bool:=
 (Pe k a0 we wg wh wi).bind fun x0=>
 some (decide (x0≥0))
abbrev SO:Type:=AC×AC×EQ
abbrev SM:Type:=List zE→Int→Int→AC→AC→EQ→Option SO
def z8 (k:Nat)(rec:SM)(aM:List zE)(bI aT:Int)(r2 r3:AC)(m4:EQ):Option SO:=
 bif decide (aT < bI) then (bif zD aT aM.length then (bif zD (aM.getD aT.toNat (0, 0, 0, 0, 0, 0, 0)).2.1 r2.length then (bif zD (aM.getD aT.toNat (0, 0, 0, 0, 0, 0, 0)).2.1 r2.length then (let y0:AC:=(r2.set (aM.getD aT.toNat (0,0,0,0,0,0,0)).2.1.toNat (zA ((r2.getD (aM.getD aT.toNat (0,0,0,0,0,0,0)).2.1.toNat 0)-(aM.getD aT.toNat (0,0,0,0,0,0,0)).2.2.2.1)))
     bif zD (aM.getD aT.toNat (0, 0, 0, 0, 0, 0, 0)).2.2.1 y0.length then (bif zD (aM.getD aT.toNat (0, 0, 0, 0, 0, 0, 0)).2.2.1 y0.length then (let y1:AC:=(y0.set (aM.getD aT.toNat (0,0,0,0,0,0,0)).2.2.1.toNat (zA ((y0.getD (aM.getD aT.toNat (0,0,0,0,0,0,0)).2.2.1.toNat 0)+(aM.getD aT.toNat (0,0,0,0,0,0,0)).2.2.2.1)))
       bif zD (aM.getD aT.toNat (0, 0, 0, 0, 0, 0, 0)).2.1 m4.length then (bif zD (aM.getD aT.toNat (0, 0, 0, 0, 0, 0, 0)).2.2.1 (m4.getD (aM.getD aT.toNat (0, 0, 0, 0, 0, 0, 0)).2.1.toNat []).length then (bif zD (aM.getD aT.toNat (0, 0, 0, 0, 0, 0, 0)).2.2.1 (m4.getD (aM.getD aT.toNat (0, 0, 0, 0, 0, 0, 0)).2.1.toNat []).length then (let y2:EQ:=(m4.set (aM.getD aT.toNat (0,0,0,0,0,0,0)).2.1.toNat ((m4.getD (aM.getD aT.toNat (0,0,0,0,0,0,0)).2.1.toNat []).set (aM.getD aT.toNat (0,0,0,0,0,0,0)).2.2.1.toNat (zA (((m4.getD (aM.getD aT.toNat (0,0,0,0,0,0,0)).2.1.toNat []).getD (aM.getD aT.toNat (0,0,0,0,0,0,0)).2.2.1.toNat 0)+(aM.getD aT.toNat (0,0,0,0,0,0,0)).2.2.2.1))))
          bif zD (aM.getD aT.toNat (0, 0, 0, 0, 0, 0, 0)).2.2.1 y2.length then (bif zD (aM.getD aT.toNat (0, 0, 0, 0, 0, 0, 0)).2.1 (y2.getD (aM.getD aT.toNat (0, 0, 0, 0, 0, 0, 0)).2.2.1.toNat []).length then (bif zD (aM.getD aT.toNat (0, 0, 0, 0, 0, 0, 0)).2.1 (y2.getD (aM.getD aT.toNat (0, 0, 0, 0, 0, 0, 0)).2.2.1.toNat []).length then (let y3:EQ:=(y2.set (aM.getD aT.toNat (0,0,0,0,0,0,0)).2.2.1.toNat ((y2.getD (aM.getD aT.toNat (0,0,0,0,0,0,0)).2.2.1.toNat []).set (aM.getD aT.toNat (0,0,0,0,0,0,0)).2.1.toNat (zA (((y2.getD (aM.getD aT.toNat (0,0,0,0,0,0,0)).2.2.1.toNat []).getD (aM.getD aT.toNat (0,0,0,0,0,0,0)).2.1.toNat 0)-(aM.getD aT.toNat (0,0,0,0,0,0,0)).2.2.2.1))))
             bif !(decide ((aM.getD aT.toNat (0, 0, 0, 0, 0, 0, 0)).2.2.2.2.1 = 3)) then (bif zD (aM.getD aT.toNat (0, 0, 0, 0, 0, 0, 0)).2.1 r3.length then (bif zD (aM.getD aT.toNat (0, 0, 0, 0, 0, 0, 0)).2.1 r3.length then (let y4:AC:=(r3.set (aM.getD aT.toNat (0,0,0,0,0,0,0)).2.1.toNat (zA ((r3.getD (aM.getD aT.toNat (0,0,0,0,0,0,0)).2.1.toNat 0)+(aM.getD aT.toNat (0,0,0,0,0,0,0)).2.2.2.1)))
                rec aM bI (zA (aT+1)) y1 y4 y3)
               else none)
              else none)
             else rec aM bI (zA (aT+1)) y1 r3 y3)
            else none)
           else none)
          else none)
         else none)
        else none)
       else none)
      else none)
     else none)
    else none)
   else none)
  else none)
 else some (r2,r3,m4)
def EW (k:Nat):Nat→SM
 |0,_,_,_,_,_,_=>none
 |n+1,aM,bI,aT,r2,r3,m4=>z8 k (EW k n) aM bI aT r2 r3 m4
def I3 (k:Nat)(a0:Int)(a1:List zE):Option (AC×AC×EQ):=
 (uH k a0 0).bind fun x0=>
 (uH k a0 0).bind fun x1=>
 (zy k a0 0).bind fun x2=>
 (EW k k a1 (a1.length:Int) 0 x0 x1 x2).bind fun z=>
 some (z.1,z.2.1,z.2.2)
def O6 (k:Nat)(gK cq cO im fe gL fZ a1:Int):Option Bool:=
 some (decide (cq=a1))
abbrev SP:Type:=List zE→Int→Int→Int→Option (Unit⊕Int)
def z9 (k:Nat)(rec:SP)(s0:List zE)(s7 s8 aa:Int):Option (Unit⊕Int):=
 bif decide (s8 < s7) then (bif zD s8 s0.length then ((O6 k (s0.getD s8.toNat (0,0,0,0,0,0,0)).1 (s0.getD s8.toNat (0,0,0,0,0,0,0)).2.1 (s0.getD s8.toNat (0,0,0,0,0,0,0)).2.2.1 (s0.getD s8.toNat (0,0,0,0,0,0,0)).2.2.2.1 (s0.getD s8.toNat (0,0,0,0,0,0,0)).2.2.2.2.1 (s0.getD s8.toNat (0,0,0,0,0,0,0)).2.2.2.2.2.1 (s0.getD s8.toNat (0,0,0,0,0,0,0)).2.2.2.2.2.2 aa).bind fun x0=>
   bif x0 then some (.inr s8)
   else rec s0 s7 (zA (s8+1)) aa)
  else none)
 else some (.inl ())
def EX (k:Nat):Nat→SP
 |0,_,_,_,_=>none
 |n+1,s0,s7,s8,aa=>z9 k (EX k n) s0 s7 s8 aa
def O7 (k:Nat)(a0:List zE)(cf:Int):Option Int:=
 (EX k k a0 (a0.length:Int) 0 cf).bind fun z=>
 match z with
 |.inl z1=>some (-1)
 |.inr z2=>some z2
def I4 (k:Nat)(a0:List zE)(cf:Int):Option Bool:=
 (O7 k a0 cf).bind fun x0=>
 some (decide (x0≥0))
def zw (k:Nat)(rec:Int→AC→Int→Int→Option Int)(s5:Int)(bV:AC)(aZ bx:Int):Option Int:=
 bif decide (bx < aZ) then (bif zD bx bV.length then(rec (zA (s5+(bV.getD bx.toNat 0))) bV aZ (zA (bx+1)))
  else none)
 else some s5
def zv (k:Nat):Nat→Int→AC→Int→Int→Option Int
 |0,_,_,_,_=>none
 |n+1,s5,bV,aZ,bx=>zw k (zv k n) s5 bV aZ bx
def IZ (k:Nat)(aX:List zM)(bB:EQ)(bA:AC)(bp:EQ)(a1:Int):Option Int:=
 bif zD a1 bp.length then ((zv k k 0 (bp.getD a1.toNat []) ((bp.getD a1.toNat []).length:Int) 0).bind fun z=>
  some z)
 else none
def Av (k:Nat)(a0 a1:Int):Option Bool:=
 bif !(decide (a1=(-1))) then some (decide (a0>a1))
 else some false
def O8 (k:Nat)(gK cq cO im fe gL fZ a1 vMa vMb vMc:Int)(V0 kf:AC)(cU:EQ)(a4:Int)(vMd:List zM)(CB:EQ)(vMf:AC)(CC:EQ):Option Bool:=
 bif !(decide (cq=a1)) then some false
 else bif zD a1 kf.length then ((sg k vMa vMb vMc (kf.getD a1.toNat 0)).bind fun x0=>
  bif decide (fe = 3) then (bif decide (a4<x0) then some true
   else bif zD a1 CC.length then (bif zD cO (CC.getD a1.toNat []).length then (bif zD a1 cU.length then (bif zD cO (cU.getD a1.toNat []).length then (bif zD a1 CB.length then (bif zD cO (CB.getD a1.toNat []).length then ((Av k (zA (((CC.getD a1.toNat []).getD cO.toNat 0)+((cU.getD a1.toNat []).getD cO.toNat 0))) ((CB.getD a1.toNat []).getD cO.toNat 0)).bind fun x1=>
         some x1)
        else none)
       else none)
      else none)
     else none)
    else none)
   else none)
  else bif zD a1 CC.length then (bif zD cO (CC.getD a1.toNat []).length then (bif zD a1 cU.length then (bif zD cO (cU.getD a1.toNat []).length then (bif zD a1 CB.length then (bif zD cO (CB.getD a1.toNat []).length then ((Av k (zA (((CC.getD a1.toNat []).getD cO.toNat 0)+((cU.getD a1.toNat []).getD cO.toNat 0))) ((CB.getD a1.toNat []).getD cO.toNat 0)).bind fun x2=>
        some x2)
       else none)
      else none)
     else none)
    else none)
   else none)
  else none)
 else none
abbrev SW:Type:=List zE→Int→Int→Int→Int→Int→Int→AC→AC→EQ→Int→List zM→EQ→AC→EQ→Option (Unit⊕Int)
def Aw (k:Nat)(rec:SW)(s0:List zE)(s7 s8 aa aq ay az:Int)(bG qi:AC)(ql:EQ)(bL:Int)(fE:List zM)(qm:EQ)(qn:AC)(qo:EQ):Option (Unit⊕Int):=
 bif decide (s8 < s7) then (bif zD s8 s0.length then ((O8 k (s0.getD s8.toNat (0,0,0,0,0,0,0)).1 (s0.getD s8.toNat (0,0,0,0,0,0,0)).2.1 (s0.getD s8.toNat (0,0,0,0,0,0,0)).2.2.1 (s0.getD s8.toNat (0,0,0,0,0,0,0)).2.2.2.1 (s0.getD s8.toNat (0,0,0,0,0,0,0)).2.2.2.2.1 (s0.getD s8.toNat (0,0,0,0,0,0,0)).2.2.2.2.2.1 (s0.getD s8.toNat (0,0,0,0,0,0,0)).2.2.2.2.2.2 aa aq ay az bG qi ql bL fE qm qn qo).bind fun x0=>
   bif x0 then some (.inr s8)
   else rec s0 s7 (zA (s8+1)) aa aq ay az bG qi ql bL fE qm qn qo)
  else none)
 else some (.inl ())
def EZ (k:Nat):Nat→SW
 |0,_,_,_,_,_,_,_,_,_,_,_,_,_,_,_=>none
 |n+1,s0,s7,s8,aa,aq,ay,az,bG,qi,ql,bL,fE,qm,qn,qo=>Aw k (EZ k n) s0 s7 s8 aa aq ay az bG qi ql bL fE qm qn qo
def O9 (k:Nat)(a0:List zE)(cf V1 V2 V3:Int)(dz cV:AC)(dA:EQ)(wj:Int)(V4:List zM)(V5:EQ)(V6:AC)(V7:EQ):Option Int:=
 (EZ k k a0 (a0.length:Int) 0 cf V1 V2 V3 dz cV dA wj V4 V5 V6 V7).bind fun z=>
 match z with
 |.inl z1=>some (-1)
 |.inr z2=>some z2
def I5 (k:Nat)(a0:List zE)(cf V1 V2 V3:Int)(dz cV:AC)(dA:EQ)(wj:Int)(V4:List zM)(V5:EQ)(V6:AC)(V7:EQ):Option Bool:=
 (O9 k a0 cf V1 V2 V3 dz cV dA wj V4 V5 V6 V7).bind fun x0=>
 some (decide (x0≥0))
abbrev S1:Type:=(List zE)×Int×AC×AC×EQ×(List zM)×EQ×AC×EQ×Int×Int×Int×Int×Int
abbrev SZ:Type:=List zE→Int→AC→Int→Int→AC→AC→EQ→List zM→EQ→AC→EQ→Int→Int→Int→Int→Int→Option S1
def Ax (k:Nat)(rec:SZ)(s3:List zE)(bC:Int)(il:AC)(dR fD:Int)(aa af:AC)(ag:EQ)(aq:List zM)(ay:EQ)(az:AC)(aD:EQ)(bG bL cg ct fE:Int):Option S1:=
 bif decide (fD < dR) then (bif zD fD il.length then(rec s3 (zA (bC+(il.getD fD.toNat 0))) il dR (zA (fD+1)) aa af ag aq ay az aD bG bL cg ct fE)
  else none)
 else some (s3,bC,aa,af,ag,aq,ay,az,aD,bG,bL,cg,ct,fE)
def uL (k:Nat):Nat→SZ
 |0,_,_,_,_,_,_,_,_,_,_,_,_,_,_,_,_,_=>none
 |n+1,s3,bC,il,dR,fD,aa,af,ag,aq,ay,az,aD,bG,bL,cg,ct,fE=>Ax k (uL k n) s3 bC il dR fD aa af ag aq ay az aD bG bL cg ct fE
def I7 (k:Nat)(fF qp:AC)(fG:EQ)(gO:List zM)(qe:EQ)(qg:AC)(qh:EQ)(a2:Int)(a3:List zE):Option Bool:=
 bif zD a2 gO.length then (bif zD a2 fF.length then (bif decide ((zA ((zA ((gO.getD a2.toNat (0,0,0)).1+(gO.getD a2.toNat (0,0,0)).2.1))+(fF.getD a2.toNat 0)))<0) then some true
   else(IZ k gO qe qg qh a2).bind fun x0=>
   bif zD a2 fG.length then ((uL k k a3 x0 (fG.getD a2.toNat []) ((fG.getD a2.toNat []).length:Int) 0 fF qp fG gO qe qg qh a2 (gO.getD a2.toNat (0,0,0)).1 (gO.getD a2.toNat (0,0,0)).2.1 (gO.getD a2.toNat (0,0,0)).2.2 (zA ((zA ((gO.getD a2.toNat (0,0,0)).1+(gO.getD a2.toNat (0,0,0)).2.1))+(fF.getD a2.toNat 0)))).bind fun z=>
    bif zD z.2.2.2.2.2.2.2.2.2.1 z.2.2.2.2.2.2.2.1.length then ((Av k z.2.1 (z.2.2.2.2.2.2.2.1.getD z.2.2.2.2.2.2.2.2.2.1.toNat 0)).bind fun x1=>
     bif x1 then some true
     else(I5 k z.1 z.2.2.2.2.2.2.2.2.2.1 z.2.2.2.2.2.2.2.2.2.2.1 z.2.2.2.2.2.2.2.2.2.2.2.1 z.2.2.2.2.2.2.2.2.2.2.2.2.1 z.2.2.1 z.2.2.2.1 z.2.2.2.2.1 z.2.2.2.2.2.2.2.2.2.2.2.2.2 z.2.2.2.2.2.1 z.2.2.2.2.2.2.1 z.2.2.2.2.2.2.2.1 z.2.2.2.2.2.2.2.2.1).bind fun x2=>
     some x2)
    else none)
   else none)
  else none)
 else none
abbrev S2:Type:=List zE→Int→Int→List zM→EQ→AC→EQ→AC→AC→EQ→AC→Option AC
def Az (k:Nat)(rec:S2)(s1:List zE)(bI aT:Int)(aa:List zM)(af:EQ)(ag:AC)(ae:EQ)(r2 r3:AC)(m4:EQ)(r5:AC):Option AC:=
 bif decide (aT < bI) then ((I4 k s1 aT).bind fun x1=>
  bif x1 then ((I7 k r2 r3 m4 aa af ag ae aT s1).bind fun x2=>
   bif x2 then (bif zU (r5.length+1) 8 then(rec s1 bI (zA (aT+1)) aa af ag ae r2 r3 m4 (r5++[aT]))
    else none)
   else rec s1 bI (zA (aT+1)) aa af ag ae r2 r3 m4 r5)
  else rec s1 bI (zA (aT+1)) aa af ag ae r2 r3 m4 r5)
 else some r5
def Ay (k:Nat):Nat→S2
 |0,_,_,_,_,_,_,_,_,_,_,_=>none
 |n+1,s1,bI,aT,aa,af,ag,ae,r2,r3,m4,r5=>Az k (Ay k n) s1 bI aT aa af ag ae r2 r3 m4 r5
def uM (k:Nat)(aX:List zM)(bB:EQ)(bA:AC)(bp:EQ)(a1:List zE):Option AC:=
 (I3 k (aX.length:Int) a1).bind fun x0=>
 (Ay k k a1 (aX.length:Int) 0 aX bB bA bp x0.1 x0.2.1 x0.2.2 []).bind fun z=>
 some z
def uN (k:Nat)(aX:List zM)(bB:EQ)(bA:AC)(bp:EQ)(a1:List zE):Option Bool:=
 bif decide ((a1.length : Int) ≤ 64) then ((I8 k a1 aX bB bA bp).bind fun x0=>
  bif !x0 then ((uM k aX bB bA bp a1).bind fun x1=>
   some (decide ((x1.length:Int)=0)))
  else some false)
 else some false
def OP (k:Nat)(gK cq cO im fe gL fZ:Int)(gO:List zM)(qe:EQ)(qg:AC)(qh:EQ):Option Bool:=
 (zm k gO qe qg qh gK cq cO im fe gL fZ).bind fun x0=>
 some (!x0)
abbrev S4:Type:=List zE→Int→Int→List zM→EQ→AC→EQ→Option (Unit⊕Int)
def zo (k:Nat)(rec:S4)(s0:List zE)(s7 s8:Int)(aa:List zM)(af:EQ)(ag:AC)(ae:EQ):Option (Unit⊕Int):=
 bif decide (s8 < s7) then (bif zD s8 s0.length then ((OP k (s0.getD s8.toNat (0,0,0,0,0,0,0)).1 (s0.getD s8.toNat (0,0,0,0,0,0,0)).2.1 (s0.getD s8.toNat (0,0,0,0,0,0,0)).2.2.1 (s0.getD s8.toNat (0,0,0,0,0,0,0)).2.2.2.1 (s0.getD s8.toNat (0,0,0,0,0,0,0)).2.2.2.2.1 (s0.getD s8.toNat (0,0,0,0,0,0,0)).2.2.2.2.2.1 (s0.getD s8.toNat (0,0,0,0,0,0,0)).2.2.2.2.2.2 aa af ag ae).bind fun x0=>
   bif x0 then some (.inr s8)
   else rec s0 s7 (zA (s8+1)) aa af ag ae)
  else none)
 else some (.inl ())
def EI (k:Nat):Nat→S4
 |0,_,_,_,_,_,_,_=>none
 |n+1,s0,s7,s8,aa,af,ag,ae=>zo k (EI k n) s0 s7 s8 aa af ag ae
def OQ (k:Nat)(a0:List zE)(we:List zM)(wg:EQ)(wh:AC)(wi:EQ):Option Int:=
 (EI k k a0 (a0.length:Int) 0 we wg wh wi).bind fun z=>
 match z with
 |.inl z1=>some (-1)
 |.inr z2=>some z2
def IK (k:Nat)(a0:List zE)(we:List zM)(wg:EQ)(wh:AC)(wi:EQ):Option Bool:=
 (OQ k a0 we wg wh wi).bind fun x0=>
 some (decide (x0≥0))
def OB (k:Nat)(qc qd lX:Int):Option Bool:=
 (Ir k qc qd lX).bind fun x0=>
 some (!x0)
abbrev S6:Type:=List zM→Int→Int→Option (Unit⊕Int)
def yz (k:Nat)(rec:S6)(s0:List zM)(s7 s8:Int):Option (Unit⊕Int):=
 bif decide (s8 < s7) then (bif zD s8 s0.length then ((OB k (s0.getD s8.toNat (0,0,0)).1 (s0.getD s8.toNat (0,0,0)).2.1 (s0.getD s8.toNat (0,0,0)).2.2).bind fun x0=>
   bif x0 then some (.inr s8)
   else rec s0 s7 (zA (s8+1)))
  else none)
 else some (.inl ())
def Ep (k:Nat):Nat→S6
 |0,_,_,_=>none
 |n+1,s0,s7,s8=>yz k (Ep k n) s0 s7 s8
def OC (k:Nat)(a0:List zM):Option Int:=
 (Ep k k a0 (a0.length:Int) 0).bind fun z=>
 match z with
 |.inl z1=>some (-1)
 |.inr z2=>some z2
def Iy (k:Nat)(a0:List zM):Option Bool:=
 (OC k a0).bind fun x0=>
 some (decide (x0≥0))
def Ox (k:Nat)(a0:Int):Option Bool:=
 bif decide (a0≥(-1)) then some (decide (a0≤2305843009213693952))
 else some false
def OD (k:Nat)(a0:Int):Option Bool:=
 (Ox k a0).bind fun x0=>
 some (!x0)
abbrev S8:Type:=AC→Int→Int→Option (Unit⊕Int)
def za (k:Nat)(rec:S8)(s0:AC)(s7 s8:Int):Option (Unit⊕Int):=
 bif decide (s8 < s7) then (bif zD s8 s0.length then ((OD k (s0.getD s8.toNat 0)).bind fun x0=>
   bif x0 then some (.inr s8)
   else rec s0 s7 (zA (s8+1)))
  else none)
 else some (.inl ())
def Er (k:Nat):Nat→S8
 |0,_,_,_=>none
 |n+1,s0,s7,s8=>za k (Er k n) s0 s7 s8
def OE (k:Nat)(a0:AC):Option Int:=
 (Er k k a0 (a0.length:Int) 0).bind fun z=>
 match z with
 |.inl z1=>some (-1)
 |.inr z2=>some z2
def Iz (k:Nat)(a0:AC):Option Bool:=
 (OE k a0).bind fun x0=>
 some (decide (x0≥0))
def Et (k:Nat)(a0:AC)(a1:Int):Option Bool:=
 bif decide ((a0.length : Int) = a1) then ((Iz k a0).bind fun x0=>
  some (!x0))
 else some false
abbrev Tb:Type:=Int→EQ→Int→Int→Option (Unit⊕Bool)
def zc (k:Nat)(rec:Tb)(s1:Int)(aZ:EQ)(bx aM:Int):Option (Unit⊕Bool):=
 bif decide (aM < bx) then (bif zD aM aZ.length then ((Et k (aZ.getD aM.toNat []) s1).bind fun x0=>
   bif !x0 then some (.inr false)
   else rec s1 aZ bx (zA (aM+1)))
  else none)
 else some (.inl ())
def Eu (k:Nat):Nat→Tb
 |0,_,_,_,_=>none
 |n+1,s1,aZ,bx,aM=>zc k (Eu k n) s1 aZ bx aM
def IC (k:Nat)(a0:EQ)(a1:Int):Option Bool:=
 bif !(decide ((a0.length:Int)=a1)) then some false
 else(Eu k k a1 a0 (a0.length:Int) 0).bind fun z=>
 match z with
 |.inl z1=>some true
 |.inr z2=>some z2
def Iu (k:Nat)(a0:Int):Option Bool:=
 bif decide (a0>(-72057594037927936)) then some (decide (a0<72057594037927936))
 else some false
def OF (k:Nat)(a0:Int):Option Bool:=
 (Iu k a0).bind fun x0=>
 some (!x0)
abbrev Td:Type:=AC→Int→Int→Option (Unit⊕Int)
def zb (k:Nat)(rec:Td)(s0:AC)(s7 s8:Int):Option (Unit⊕Int):=
 bif decide (s8 < s7) then (bif zD s8 s0.length then ((OF k (s0.getD s8.toNat 0)).bind fun x0=>
   bif x0 then some (.inr s8)
   else rec s0 s7 (zA (s8+1)))
  else none)
 else some (.inl ())
def Es (k:Nat):Nat→Td
 |0,_,_,_=>none
 |n+1,s0,s7,s8=>zb k (Es k n) s0 s7 s8
def OG (k:Nat)(a0:AC):Option Int:=
 (Es k k a0 (a0.length:Int) 0).bind fun z=>
 match z with
 |.inl z1=>some (-1)
 |.inr z2=>some z2
def IA (k:Nat)(a0:AC):Option Bool:=
 (OG k a0).bind fun x0=>
 some (decide (x0≥0))
def IB (k:Nat)(a0:AC)(a1:Int):Option Bool:=
 bif decide ((a0.length : Int) = a1) then ((IA k a0).bind fun x0=>
  some (!x0))
 else some false
abbrev Tf:Type:=Int→EQ→Int→Int→Option (Unit⊕Bool)
def zd (k:Nat)(rec:Tf)(s1:Int)(aZ:EQ)(bx aM:Int):Option (Unit⊕Bool):=
 bif decide (aM < bx) then (bif zD aM aZ.length then ((IB k (aZ.getD aM.toNat []) s1).bind fun x0=>
   bif !x0 then some (.inr false)
   else rec s1 aZ bx (zA (aM+1)))
  else none)
 else some (.inl ())
def Ev (k:Nat):Nat→Tf
 |0,_,_,_,_=>none
 |n+1,s1,aZ,bx,aM=>zd k (Ev k n) s1 aZ bx aM
def ID (k:Nat)(a0:EQ)(a1:Int):Option Bool:=
 bif !(decide ((a0.length:Int)=a1)) then some false
 else(Ev k k a1 a0 (a0.length:Int) 0).bind fun z=>
 match z with
 |.inl z1=>some true
 |.inr z2=>some z2
abbrev Tj:Type:=(EQ×EQ×Int×Int)⊕Bool
abbrev Th:Type:=EQ→Int→EQ→Int→Int→AC→Int→Int→Option Tj
def zg (k:Nat)(rec:Th)(s0:EQ)(s3:Int)(s7:EQ)(s8 s9:Int)(bx:AC)(aM bI:Int):Option Tj:=
 bif decide (bI < aM) then (bif zD bI bx.length then (bif zD bI s0.length then (bif zD s3 (s0.getD bI.toNat []).length then (bif !(decide (((s0.getD bI.toNat []).getD s3.toNat 0)=(zA (0-(bx.getD bI.toNat 0))))) then some (.inr false)
     else rec s0 s3 s7 s8 s9 bx aM (zA (bI+1)))
    else none)
   else none)
  else none)
 else some (.inl (s0,s7,s8,s9))
def ze (k:Nat):Nat→Th
 |0,_,_,_,_,_,_,_,_=>none
 |n+1,s0,s3,s7,s8,s9,bx,aM,bI=>zg k (ze k n) s0 s3 s7 s8 s9 bx aM bI
abbrev Tl:Type:=EQ→EQ→Int→Int→Option (Unit⊕Bool)
def zh (k:Nat)(rec:Tl)(s0 s7:EQ)(s8 s9:Int):Option (Unit⊕Bool):=
 bif decide (s9 < s8) then (bif zD s9 s7.length then ((ze k k s0 s9 s7 s8 s9 (s7.getD s9.toNat []) ((s7.getD s9.toNat []).length:Int) 0).bind fun z=>
   match z with
   |.inl z1=>rec z1.1 z1.2.1 z1.2.2.1 (zA (z1.2.2.2+1))
   |.inr z2=>some (.inr z2))
  else none)
 else some (.inl ())
def Ew (k:Nat):Nat→Tl
 |0,_,_,_,_=>none
 |n+1,s0,s7,s8,s9=>zh k (Ew k n) s0 s7 s8 s9
def IE (k:Nat)(a0:EQ):Option Bool:=
 (Ew k k a0 a0 (a0.length:Int) 0).bind fun z3=>
 match z3 with
 |.inl z4=>some true
 |.inr z5=>some z5
def uF (k:Nat)(aX:List zM)(bB:EQ)(bA:AC)(bp:EQ):Option Bool:=
 bif decide ((aX.length:Int)<1) then some false
 else bif decide ((aX.length:Int)>6) then some false
 else(Iy k aX).bind fun x0=>
 bif x0 then some false
 else(IC k bB (aX.length:Int)).bind fun x1=>
 bif x1 then ((Et k bA (aX.length:Int)).bind fun x2=>
  bif x2 then ((ID k bp (aX.length:Int)).bind fun x3=>
   bif x3 then ((IE k bp).bind fun x4=>
    some x4)
   else some false)
  else some false)
 else some false
abbrev Tq:Type:=(List zM)×EQ×AC×EQ×(List zM)×EQ×AC×EQ
abbrev To:Type:=List zE→Int→Int→List zM→EQ→AC→EQ→List zM→EQ→AC→EQ→Option Tq
def zt (k:Nat)(rec:To)(aY:List zE)(ga aK:Int)(aa:List zM)(af:EQ)(ag:AC)(ae:EQ)(r3:List zM)(m4:EQ)(r5:AC)(m6:EQ):Option Tq:=
 bif decide (aK < ga) then (bif zD aK aY.length then (bif zD (aY.getD aK.toNat (0, 0, 0, 0, 0, 0, 0)).2.1 r3.length then (bif zD (aY.getD aK.toNat (0, 0, 0, 0, 0, 0, 0)).2.2.1 r3.length then (let y0:List zM:=(r3.set (aY.getD aK.toNat (0,0,0,0,0,0,0)).2.1.toNat ((zA ((r3.getD (aY.getD aK.toNat (0,0,0,0,0,0,0)).2.1.toNat (0,0,0)).1-(aY.getD aK.toNat (0,0,0,0,0,0,0)).2.2.2.1)),(r3.getD (aY.getD aK.toNat (0,0,0,0,0,0,0)).2.1.toNat (0,0,0)).2))
     let y1:List zM:=(y0.set (aY.getD aK.toNat (0,0,0,0,0,0,0)).2.2.1.toNat ((zA ((y0.getD (aY.getD aK.toNat (0,0,0,0,0,0,0)).2.2.1.toNat (0,0,0)).1+(aY.getD aK.toNat (0,0,0,0,0,0,0)).2.2.2.1)),(y0.getD (aY.getD aK.toNat (0,0,0,0,0,0,0)).2.2.1.toNat (0,0,0)).2))
     bif !(decide ((aY.getD aK.toNat (0, 0, 0, 0, 0, 0, 0)).2.2.2.2.1 = 3)) then ((sg k (y1.getD (aY.getD aK.toNat (0,0,0,0,0,0,0)).2.1.toNat (0,0,0)).1 (y1.getD (aY.getD aK.toNat (0,0,0,0,0,0,0)).2.1.toNat (0,0,0)).2.1 (y1.getD (aY.getD aK.toNat (0,0,0,0,0,0,0)).2.1.toNat (0,0,0)).2.2 (aY.getD aK.toNat (0,0,0,0,0,0,0)).2.2.2.1).bind fun x2=>
      let y2:List zM:=(y1.set (aY.getD aK.toNat (0,0,0,0,0,0,0)).2.1.toNat ((y1.getD (aY.getD aK.toNat (0,0,0,0,0,0,0)).2.1.toNat (0,0,0)).1,(y1.getD (aY.getD aK.toNat (0,0,0,0,0,0,0)).2.1.toNat (0,0,0)).2.1,x2))
      bif zD (aY.getD aK.toNat (0, 0, 0, 0, 0, 0, 0)).2.1 m6.length then (bif zD (aY.getD aK.toNat (0, 0, 0, 0, 0, 0, 0)).2.2.1 (m6.getD (aY.getD aK.toNat (0, 0, 0, 0, 0, 0, 0)).2.1.toNat []).length then (bif zD (aY.getD aK.toNat (0, 0, 0, 0, 0, 0, 0)).2.2.1 (m6.getD (aY.getD aK.toNat (0, 0, 0, 0, 0, 0, 0)).2.1.toNat []).length then (let y3:EQ:=(m6.set (aY.getD aK.toNat (0,0,0,0,0,0,0)).2.1.toNat ((m6.getD (aY.getD aK.toNat (0,0,0,0,0,0,0)).2.1.toNat []).set (aY.getD aK.toNat (0,0,0,0,0,0,0)).2.2.1.toNat (zA (((m6.getD (aY.getD aK.toNat (0,0,0,0,0,0,0)).2.1.toNat []).getD (aY.getD aK.toNat (0,0,0,0,0,0,0)).2.2.1.toNat 0)+(aY.getD aK.toNat (0,0,0,0,0,0,0)).2.2.2.1))))
         bif zD (aY.getD aK.toNat (0, 0, 0, 0, 0, 0, 0)).2.2.1 y3.length then (bif zD (aY.getD aK.toNat (0, 0, 0, 0, 0, 0, 0)).2.1 (y3.getD (aY.getD aK.toNat (0, 0, 0, 0, 0, 0, 0)).2.2.1.toNat []).length then (bif zD (aY.getD aK.toNat (0, 0, 0, 0, 0, 0, 0)).2.1 (y3.getD (aY.getD aK.toNat (0, 0, 0, 0, 0, 0, 0)).2.2.1.toNat []).length then (let y4:EQ:=(y3.set (aY.getD aK.toNat (0,0,0,0,0,0,0)).2.2.1.toNat ((y3.getD (aY.getD aK.toNat (0,0,0,0,0,0,0)).2.2.1.toNat []).set (aY.getD aK.toNat (0,0,0,0,0,0,0)).2.1.toNat (zA (((y3.getD (aY.getD aK.toNat (0,0,0,0,0,0,0)).2.2.1.toNat []).getD (aY.getD aK.toNat (0,0,0,0,0,0,0)).2.1.toNat 0)-(aY.getD aK.toNat (0,0,0,0,0,0,0)).2.2.2.1))))
            rec aY ga (zA (aK+1)) aa af ag ae y2 m4 r5 y4)
           else none)
          else none)
         else none)
        else none)
       else none)
      else none)
     else bif zD (aY.getD aK.toNat (0, 0, 0, 0, 0, 0, 0)).2.1 m6.length then (bif zD (aY.getD aK.toNat (0, 0, 0, 0, 0, 0, 0)).2.2.1 (m6.getD (aY.getD aK.toNat (0, 0, 0, 0, 0, 0, 0)).2.1.toNat []).length then (bif zD (aY.getD aK.toNat (0, 0, 0, 0, 0, 0, 0)).2.2.1 (m6.getD (aY.getD aK.toNat (0, 0, 0, 0, 0, 0, 0)).2.1.toNat []).length then (let y5:EQ:=(m6.set (aY.getD aK.toNat (0,0,0,0,0,0,0)).2.1.toNat ((m6.getD (aY.getD aK.toNat (0,0,0,0,0,0,0)).2.1.toNat []).set (aY.getD aK.toNat (0,0,0,0,0,0,0)).2.2.1.toNat (zA (((m6.getD (aY.getD aK.toNat (0,0,0,0,0,0,0)).2.1.toNat []).getD (aY.getD aK.toNat (0,0,0,0,0,0,0)).2.2.1.toNat 0)+(aY.getD aK.toNat (0,0,0,0,0,0,0)).2.2.2.1))))
        bif zD (aY.getD aK.toNat (0, 0, 0, 0, 0, 0, 0)).2.2.1 y5.length then (bif zD (aY.getD aK.toNat (0, 0, 0, 0, 0, 0, 0)).2.1 (y5.getD (aY.getD aK.toNat (0, 0, 0, 0, 0, 0, 0)).2.2.1.toNat []).length then (bif zD (aY.getD aK.toNat (0, 0, 0, 0, 0, 0, 0)).2.1 (y5.getD (aY.getD aK.toNat (0, 0, 0, 0, 0, 0, 0)).2.2.1.toNat []).length then (let y6:EQ:=(y5.set (aY.getD aK.toNat (0,0,0,0,0,0,0)).2.2.1.toNat ((y5.getD (aY.getD aK.toNat (0,0,0,0,0,0,0)).2.2.1.toNat []).set (aY.getD aK.toNat (0,0,0,0,0,0,0)).2.1.toNat (zA (((y5.getD (aY.getD aK.toNat (0,0,0,0,0,0,0)).2.2.1.toNat []).getD (aY.getD aK.toNat (0,0,0,0,0,0,0)).2.1.toNat 0)-(aY.getD aK.toNat (0,0,0,0,0,0,0)).2.2.2.1))))
           rec aY ga (zA (aK+1)) aa af ag ae y1 m4 r5 y6)
          else none)
         else none)
        else none)
       else none)
      else none)
     else none)
    else none)
   else none)
  else none)
 else some (aa,af,ag,ae,r3,m4,r5,m6)
def zr (k:Nat):Nat→To
 |0,_,_,_,_,_,_,_,_,_,_,_=>none
 |n+1,aY,ga,aK,aa,af,ag,ae,r3,m4,r5,m6=>zt k (zr k n) aY ga aK aa af ag ae r3 m4 r5 m6
def mC (k:Nat)(aX:List zM)(bB:EQ)(bA:AC)(bp:EQ)(a1:List zE):Option ((List zM)×EQ×AC×EQ×Int):=
 bif decide ((a1.length:Int)>64) then some (aX,bB,bA,bp,1)
 else(IK k a1 aX bB bA bp).bind fun x0=>
 bif x0 then some (aX,bB,bA,bp,1)
 else(dN k aX bB bA bp).bind fun x1=>
 (zr k k a1 (a1.length:Int) 0 aX bB bA bp x1.1 x1.2.1 x1.2.2.1 x1.2.2.2).bind fun z=>
 (uF k z.2.2.2.2.1 z.2.2.2.2.2.1 z.2.2.2.2.2.2.1 z.2.2.2.2.2.2.2).bind fun x3=>
 bif !x3 then some (dy z 8)
 else some (qWs z 0)
abbrev Tu:Type:=((List zM)×EQ×AC×EQ×Int×Int×Int×Int×Int×Int×Int)⊕(Bool×Int×Int×Int×Int×Int×Int×Int×(List zM)×EQ×AC×EQ)
abbrev Ts:Type:=Int→Int→List zM→EQ→AC→EQ→Int→Int→Int→Int→Int→Int→Int→List zE→Option Tu
def A8 (k:Nat)(rec:Ts)(bI aT:Int)(aa:List zM)(af:EQ)(ag:AC)(ae:EQ)(aq ay az aD aN aO aP:Int)(r3:List zE):Option Tu:=
 bif decide (aT < bI) then (bif zD aT r3.length then ((uN k aa af ag ae [(r3.getD aT.toNat (0,0,0,0,0,0,0))]).bind fun x1=>
   bif !x1 then(rec bI (zA (aT+1)) aa af ag ae aq ay az aD aN aO aP r3)
   else(mC k aa af ag ae [(r3.getD aT.toNat (0,0,0,0,0,0,0))]).bind fun x2=>
   bif decide (x2.2.2.2.2=0) then some (.inr (true,(j0 (r3.getD aT.toNat (0,0,0,0,0,0,0)) (wI x2))))
   else rec bI (zA (aT+1)) aa af ag ae aq ay az aD aN aO aP r3)
  else none)
 else some (.inl (aa,af,ag,ae,aq,ay,az,aD,aN,aO,aP))
def Fi (k:Nat):Nat→Ts
 |0,_,_,_,_,_,_,_,_,_,_,_,_,_,_=>none
 |n+1,bI,aT,aa,af,ag,ae,aq,ay,az,aD,aN,aO,aP,r3=>A8 k (Fi k n) bI aT aa af ag ae aq ay az aD aN aO aP r3
def Jr (k:Nat)(aX:List zM)(bB:EQ)(bA:AC)(bp:EQ)(a1:List zE)(a2:Int):Option (Int×Int×Int×Int×Int×Int×Int×(List zM)×EQ×AC×EQ×Bool):=
 (E5 k a1 a2).bind fun x0=>
 (Fi k k (x0.length:Int) 0 aX bB bA bp 0 0 0 0 0 0 0 x0).bind fun z=>
 match z with
 |.inl z1=>some (0,0,0,0,0,0,0,(dy z1 false))
 |.inr z2=>some (vJw z2 z2.1)
abbrev Tz:Type:=(List zE)×(List zM)×EQ×AC×EQ×(List zE)
abbrev Tw:Type:=Int→List zE→List zM→EQ→AC→EQ→List zE→Option Tz
def A9 (k:Nat)(rec:Tw)(s2:Int)(s7:List zE)(aa:List zM)(af:EQ)(ag:AC)(ae:EQ)(r1:List zE):Option Tz:=
 (Jr k aa af ag ae s7 s2).bind fun x0=>
 bif !x0.2.2.2.2.2.2.2.2.2.2.2 then some (s7,aa,af,ag,ae,r1)
 else(mF k s7 x0.1).bind fun x1=>
 bif zU (r1.length + 1) 56 then (let y0:List zE:=(r1++[(dP x0)])
  rec s2 x1.1 x0.2.2.2.2.2.2.2.1 x0.2.2.2.2.2.2.2.2.1 x0.2.2.2.2.2.2.2.2.2.1 x0.2.2.2.2.2.2.2.2.2.2.1 y0)
 else none
def Fj (k:Nat):Nat→Tw
 |0,_,_,_,_,_,_,_=>none
 |n+1,s2,s7,aa,af,ag,ae,r1=>A9 k (Fj k n) s2 s7 aa af ag ae r1
def Jt (k:Nat)(aX:List zM)(bB:EQ)(bA:AC)(bp:EQ)(a1:List zE)(a2:Int):Option GI:=
 (Fj k k a2 a1 aX bB bA bp []).bind fun z=>
 some (lV z (z.1,z.2.2.2.2.2))
abbrev TC:Type:=(Int×Int×(List zM)×EQ×AC×EQ×Int×Int×Int×Int×Int×Int×Int×Int×Int×Int×Int×Int×Int×Int×(List zE))⊕yD5
abbrev TA:Type:=Int→Int→Int→Int→List zM→EQ→AC→EQ→Int→Int→Int→Int→Int→Int→Int→Int→Int→Int→Int→Int→Int→Int→List zE→Int→Int→Int→Int→Int→Int→Int→Option TC
def Ba (k:Nat)(rec:TA)(cE bW ga aK:Int)(aa:List zM)(af:EQ)(ag:AC)(ae:EQ)(aq ay az aD aN aO aP bQ bR bh aJ bM bN bO:Int)(r2:List zE)(bL cg ct ew ez eC eE:Int):Option TC:=
 bif decide (aK < ga) then (bif zD aK r2.length then (bif !(decide ((r2.getD aK.toNat (0,0,0,0,0,0,0)).2.1=ct)) then(rec cE bW ga (zA (aK+1)) aa af ag ae aq ay az aD aN aO aP bQ bR bh aJ bM bN bO r2 bL cg ct ew ez eC eE)
   else bif !(decide ((r2.getD aK.toNat (0,0,0,0,0,0,0)).2.2.1=cg)) then(rec cE bW ga (zA (aK+1)) aa af ag ae aq ay az aD aN aO aP bQ bR bh aJ bM bN bO r2 bL cg ct ew ez eC eE)
   else bif decide (cg≥(r2.getD aK.toNat (0,0,0,0,0,0,0)).2.1) then(rec cE bW ga (zA (aK+1)) aa af ag ae aq ay az aD aN aO aP bQ bR bh aJ bM bN bO r2 bL cg ct ew ez eC eE)
   else(uN k aa af ag ae [(bL,cg,ct,ew,ez,eC,eE),(r2.getD aK.toNat (0,0,0,0,0,0,0))]).bind fun x1=>
   bif !x1 then(rec cE bW ga (zA (aK+1)) aa af ag ae aq ay az aD aN aO aP bQ bR bh aJ bM bN bO r2 bL cg ct ew ez eC eE)
   else(mC k aa af ag ae [(bL,cg,ct,ew,ez,eC,eE),(r2.getD aK.toNat (0,0,0,0,0,0,0))]).bind fun x2=>
   bif decide (x2.2.2.2.2=0) then some (.inr (true,bL,cg,ct,ew,ez,eC,eE,(j0 (r2.getD aK.toNat (0,0,0,0,0,0,0)) (wI x2))))
   else rec cE bW ga (zA (aK+1)) aa af ag ae aq ay az aD aN aO aP bQ bR bh aJ bM bN bO r2 bL cg ct ew ez eC eE)
  else none)
 else some (.inl (cE,bW,aa,af,ag,ae,aq,ay,az,aD,aN,aO,aP,bQ,bR,bh,aJ,bM,bN,bO,r2))
def Fm (k:Nat):Nat→TA
 |0,_,_,_,_,_,_,_,_,_,_,_,_,_,_,_,_,_,_,_,_,_,_,_,_,_,_,_,_,_,_=>none
 |n+1,cE,bW,ga,aK,aa,af,ag,ae,aq,ay,az,aD,aN,aO,aP,bQ,bR,bh,aJ,bM,bN,bO,r2,bL,cg,ct,ew,ez,eC,eE=>Ba k (Fm k n) cE bW ga aK aa af ag ae aq ay az aD aN aO aP bQ bR bh aJ bM bN bO r2 bL cg ct ew ez eC eE
abbrev TG:Type:=(Int×Int×Int×Int×Int×Int×Int×Int×Int×Int×Int×Int×Int×Int)⊕yD5
abbrev TE:Type:=Int→Int→List zM→EQ→AC→EQ→Int→Int→Int→Int→Int→Int→Int→Int→Int→Int→Int→Int→Int→Int→List zE→Option TG
def Bb (k:Nat)(rec:TE)(cE bW:Int)(aa:List zM)(af:EQ)(ag:AC)(ae:EQ)(aq ay az aD aN aO aP bQ bR bh aJ bM bN bO:Int)(r2:List zE):Option TG:=
 bif decide (bW < cE) then (bif zD bW r2.length then ((Fm k k cE bW (r2.length:Int) 0 aa af ag ae aq ay az aD aN aO aP bQ bR bh aJ bM bN bO r2 (r2.getD bW.toNat (0,0,0,0,0,0,0)).1 (r2.getD bW.toNat (0,0,0,0,0,0,0)).2.1 (r2.getD bW.toNat (0,0,0,0,0,0,0)).2.2.1 (r2.getD bW.toNat (0,0,0,0,0,0,0)).2.2.2.1 (r2.getD bW.toNat (0,0,0,0,0,0,0)).2.2.2.2.1 (r2.getD bW.toNat (0,0,0,0,0,0,0)).2.2.2.2.2.1 (r2.getD bW.toNat (0,0,0,0,0,0,0)).2.2.2.2.2.2).bind fun z=>
   match z with
   |.inl z1=>rec z1.1 (zA (z1.2.1+1)) z1.2.2.1 z1.2.2.2.1 z1.2.2.2.2.1 z1.2.2.2.2.2.1 z1.2.2.2.2.2.2.1 z1.2.2.2.2.2.2.2.1 z1.2.2.2.2.2.2.2.2.1 z1.2.2.2.2.2.2.2.2.2.1 z1.2.2.2.2.2.2.2.2.2.2.1 z1.2.2.2.2.2.2.2.2.2.2.2.1 z1.2.2.2.2.2.2.2.2.2.2.2.2.1 z1.2.2.2.2.2.2.2.2.2.2.2.2.2.1 z1.2.2.2.2.2.2.2.2.2.2.2.2.2.2.1 z1.2.2.2.2.2.2.2.2.2.2.2.2.2.2.2.1 z1.2.2.2.2.2.2.2.2.2.2.2.2.2.2.2.2.1 z1.2.2.2.2.2.2.2.2.2.2.2.2.2.2.2.2.2.1 z1.2.2.2.2.2.2.2.2.2.2.2.2.2.2.2.2.2.2.1 z1.2.2.2.2.2.2.2.2.2.2.2.2.2.2.2.2.2.2.2.1 z1.2.2.2.2.2.2.2.2.2.2.2.2.2.2.2.2.2.2.2.2
   |.inr z2=>some (.inr (z2.1,z2.2.1,z2.2.2.1,z2.2.2.2.1,z2.2.2.2.2.1,z2.2.2.2.2.2.1,z2.2.2.2.2.2.2.1,z2.2.2.2.2.2.2.2.1,z2.2.2.2.2.2.2.2.2.1,z2.2.2.2.2.2.2.2.2.2.1,z2.2.2.2.2.2.2.2.2.2.2.1,z2.2.2.2.2.2.2.2.2.2.2.2.1,z2.2.2.2.2.2.2.2.2.2.2.2.2.1,z2.2.2.2.2.2.2.2.2.2.2.2.2.2.1,z2.2.2.2.2.2.2.2.2.2.2.2.2.2.2.1,z2.2.2.2.2.2.2.2.2.2.2.2.2.2.2.2.1,z2.2.2.2.2.2.2.2.2.2.2.2.2.2.2.2.2.1,z2.2.2.2.2.2.2.2.2.2.2.2.2.2.2.2.2.2.1,z2.2.2.2.2.2.2.2.2.2.2.2.2.2.2.2.2.2.2)))
  else none)
 else some (.inl (aq,ay,az,aD,aN,aO,aP,bQ,bR,bh,aJ,bM,bN,bO))
def Fo (k:Nat):Nat→TE
 |0,_,_,_,_,_,_,_,_,_,_,_,_,_,_,_,_,_,_,_,_,_=>none
 |n+1,cE,bW,aa,af,ag,ae,aq,ay,az,aD,aN,aO,aP,bQ,bR,bh,aJ,bM,bN,bO,r2=>Bb k (Fo k n) cE bW aa af ag ae aq ay az aD aN aO aP bQ bR bh aJ bM bN bO r2
def Jv (k:Nat)(aX:List zM)(bB:EQ)(bA:AC)(bp:EQ)(a1:List zE)(a2:Int):Option (Int×Int×Int×Int×Int×Int×Int×Int×Int×Int×Int×Int×Int×Int×(List zM)×EQ×AC×EQ×Bool):=
 (E5 k a1 a2).bind fun x0=>
 (Fo k k (x0.length:Int) 0 aX bB bA bp 0 0 0 0 0 0 0 0 0 0 0 0 0 0 x0).bind fun z3=>
 match z3 with
 |.inl z4=>some (0,0,0,0,0,0,0,0,0,0,0,0,0,0,[],[],[],[],false)
 |.inr z5=>some (TD z5 z5.1)
abbrev TO:Type:=Int×(List zE)×(List zM)×EQ×AC×EQ×(List zE)
abbrev TM:Type:=Int→List zE→Int→Int→List zM→EQ→AC→EQ→List zE→List zE→Option TO
def sA (k:Nat)(rec:TM)(s2:Int)(s7:List zE)(wb ow:Int)(aa:List zM)(af:EQ)(ag:AC)(ae:EQ)(r1 r2:List zE):Option TO:=
 bif decide (ow < wb) then (bif zD ow r2.length then ((mF k s7 (r2.getD ow.toNat (0,0,0,0,0,0,0)).1).bind fun x1=>
   bif zU (r1.length + 1) 56 then (let y0:List zE:=(r1++[(r2.getD ow.toNat (0,0,0,0,0,0,0))])
    rec s2 x1.1 wb (zA (ow+1)) aa af ag ae y0 r2)
   else none)
  else none)
 else some (s2,s7,aa,af,ag,ae,r1)
def sw (k:Nat):Nat→TM
 |0,_,_,_,_,_,_,_,_,_,_=>none
 |n+1,s2,s7,wb,ow,aa,af,ag,ae,r1,r2=>sA k (sw k n) s2 s7 wb ow aa af ag ae r1 r2
abbrev TR:Type:=(List zE)×(List zM)×EQ×AC×EQ×(List zE)
abbrev TP:Type:=Int→List zE→List zM→EQ→AC→EQ→List zE→Option TR
def Bc (k:Nat)(rec:TP)(s2:Int)(s7:List zE)(aa:List zM)(af:EQ)(ag:AC)(ae:EQ)(r1:List zE):Option TR:=
 (Jv k aa af ag ae s7 s2).bind fun x0=>
 bif !x0.2.2.2.2.2.2.2.2.2.2.2.2.2.2.2.2.2.2 then some (s7,aa,af,ag,ae,r1)
 else(sw k k s2 s7 2 0 x0.2.2.2.2.2.2.2.2.2.2.2.2.2.2.1 x0.2.2.2.2.2.2.2.2.2.2.2.2.2.2.2.1 x0.2.2.2.2.2.2.2.2.2.2.2.2.2.2.2.2.1 x0.2.2.2.2.2.2.2.2.2.2.2.2.2.2.2.2.2.1 r1 [(dP x0),(vCn x0)]).bind fun z=>
 rec z.1 z.2.1 z.2.2.1 z.2.2.2.1 z.2.2.2.2.1 z.2.2.2.2.2.1 z.2.2.2.2.2.2
def Fp (k:Nat):Nat→TP
 |0,_,_,_,_,_,_,_=>none
 |n+1,s2,s7,aa,af,ag,ae,r1=>Bc k (Fp k n) s2 s7 aa af ag ae r1
def Jw (k:Nat)(aX:List zM)(bB:EQ)(bA:AC)(bp:EQ)(a1:List zE)(a2:Int):Option GI:=
 (Fp k k a2 a1 aX bB bA bp []).bind fun z1=>
 some (lV z1 (z1.1,z1.2.2.2.2.2))
abbrev TV:Type:=(List zE)×(List zM)×EQ×AC×EQ×(List zE)
abbrev TT:Type:=Int→List zE→List zM→EQ→AC→EQ→List zE→Option TV
def JB (k:Nat)(rec:TT)(s2:Int)(s7:List zE)(aa:List zM)(af:EQ)(ag:AC)(ae:EQ)(r1:List zE):Option TV:=
 (Jt k aa af ag ae s7 s2).bind fun x0=>
 (Jw k x0.1 x0.2.1 x0.2.2.1 x0.2.2.2.1 x0.2.2.2.2.1 s2).bind fun x1=>
 bif zU (r1.length + x0.2.2.2.2.2.length) 56 then (bif zU ((r1 ++ x0.2.2.2.2.2).length + x1.2.2.2.2.2.length) 56 then (let y0:List zE:=((r1++x0.2.2.2.2.2)++x1.2.2.2.2.2)
   bif decide ((x1.2.2.2.2.2.length:Int)=0) then some (x1.2.2.2.2.1,(dy x1 y0))
   else rec s2 x1.2.2.2.2.1 x1.1 x1.2.1 x1.2.2.1 x1.2.2.2.1 y0)
  else none)
 else none
def Fv (k:Nat):Nat→TT
 |0,_,_,_,_,_,_,_=>none
 |n+1,s2,s7,aa,af,ag,ae,r1=>JB k (Fv k n) s2 s7 aa af ag ae r1
def Fw (k:Nat)(aX:List zM)(bB:EQ)(bA:AC)(bp:EQ)(a1:List zE)(a2:Int):Option GI:=
 (Fv k k a2 a1 aX bB bA bp []).bind fun z=>
 some (lV z (z.1,z.2.2.2.2.2))
def PV (k:Nat)(a0:AC):Option AC:=
 bif zU (0+a0.length) 8 then some a0
 else none
def PX (k:Nat)(gK cq cO im fe gL fZ:Int)(a1:AC):Option (Bool×AC):=
 bif decide (cq<0) then some (false,a1)
 else bif decide (cq≥(a1.length:Int)) then some (false,a1)
 else bif zD cq a1.length then (bif decide ((a1.getD cq.toNat 0)<1) then some (false,a1)
  else bif zD cq a1.length then (bif zD cq a1.length then some (true,(a1.set cq.toNat (zA ((a1.getD cq.toNat 0)-1))))
   else none)
  else none)
 else none
abbrev TY:Type:=AC×(List zE)
abbrev TW:Type:=List zE→Int→Int→AC→List zE→Option TY
def Bh (k:Nat)(rec:TW)(s8:List zE)(s9 aw:Int)(r1:AC)(r2:List zE):Option TY:=
 bif decide (aw < s9) then (bif zD aw s8.length then ((PX k (s8.getD aw.toNat (0,0,0,0,0,0,0)).1 (s8.getD aw.toNat (0,0,0,0,0,0,0)).2.1 (s8.getD aw.toNat (0,0,0,0,0,0,0)).2.2.1 (s8.getD aw.toNat (0,0,0,0,0,0,0)).2.2.2.1 (s8.getD aw.toNat (0,0,0,0,0,0,0)).2.2.2.2.1 (s8.getD aw.toNat (0,0,0,0,0,0,0)).2.2.2.2.2.1 (s8.getD aw.toNat (0,0,0,0,0,0,0)).2.2.2.2.2.2 r1).bind fun x0=>
   bif x0.1 then (bif zU (r2.length + 1) 56 then (let y0:List zE:=(r2++[(s8.getD aw.toNat (0,0,0,0,0,0,0))])
     rec s8 s9 (zA (aw+1)) x0.2 y0)
    else none)
   else rec s8 s9 (zA (aw+1)) x0.2 r2)
  else none)
 else some (r1,r2)
def Bg (k:Nat):Nat→TW
 |0,_,_,_,_,_=>none
 |n+1,s8,s9,aw,r1,r2=>Bh k (Bg k n) s8 s9 aw r1 r2
def PW (k:Nat)(a0:List zE)(cf:AC):Option ((List zE)×AC):=
 (Bg k k a0 (a0.length:Int) 0 cf []).bind fun z=>
 some (z.2,z.1)
def Bf (k:Nat)(a0:List zE)(a1:AC):Option (List zE):=
 (PV k a1).bind fun x0=>
 (PW k a0 x0).bind fun x1=>
 some x1.1
abbrev T0:Type:=Int×(List zM)×EQ×AC×EQ×AC×(List zE)
abbrev TZ:Type:=Int→Int→Int→List zM→EQ→AC→EQ→AC→List zE→Option T0
def Bj (k:Nat)(rec:TZ)(s7 gJ cE:Int)(aa:List zM)(af:EQ)(ag:AC)(ae:EQ)(r1:AC)(r2:List zE):Option T0:=
 bif decide (cE < gJ) then ((Fs k r2 cE).bind fun x1=>
  bif zU (r1.length+1) 8 then(rec s7 gJ (zA (cE+1)) aa af ag ae (r1++[(x1.length:Int)]) r2)
  else none)
 else some (s7,aa,af,ag,ae,r1,r2)
def uW (k:Nat):Nat→TZ
 |0,_,_,_,_,_,_,_,_,_=>none
 |n+1,s7,gJ,cE,aa,af,ag,ae,r1,r2=>Bj k (uW k n) s7 gJ cE aa af ag ae r1 r2
abbrev T3:Type:=Int×(List zM)×EQ×AC×EQ×AC×(List zE)
abbrev T1:Type:=Int→Int→Int→List zM→EQ→AC→EQ→AC→List zE→AC→Option T3
def Bl (k:Nat)(rec:T1)(s7 Lu kV:Int)(aa:List zM)(af:EQ)(ag:AC)(ae:EQ)(r1:AC)(r2:List zE)(r3:AC):Option T3:=
 bif decide (kV < Lu) then (bif zD kV r3.length then (bif zD (r3.getD kV.toNat 0) r1.length then (bif zD (r3.getD kV.toNat 0) r1.length then (let y0:AC:=(r1.set (r3.getD kV.toNat 0).toNat (zA ((r1.getD (r3.getD kV.toNat 0).toNat 0)-1)))
     rec s7 Lu (zA (kV+1)) aa af ag ae y0 r2 r3)
    else none)
   else none)
  else none)
 else some (s7,aa,af,ag,ae,r1,r2)
def Bk (k:Nat):Nat→T1
 |0,_,_,_,_,_,_,_,_,_,_=>none
 |n+1,s7,Lu,kV,aa,af,ag,ae,r1,r2,r3=>Bl k (Bk k n) s7 Lu kV aa af ag ae r1 r2 r3
abbrev T4:Type:=Int→List zM→EQ→AC→EQ→AC→List zE→Option (Int×AC)
def Bm (k:Nat)(rec:T4)(s7:Int)(aa:List zM)(af:EQ)(ag:AC)(ae:EQ)(r1:AC)(r2:List zE):Option (Int×AC):=
 (Bf k r2 r1).bind fun x2=>
 (uM k aa af ag ae x2).bind fun x3=>
 bif decide ((x3.length:Int)=0) then some ((zA (s7+1)),r1)
 else(Bk k k (zA (s7+1)) (x3.length:Int) 0 aa af ag ae r1 r2 x3).bind fun z1=>
 rec z1.1 z1.2.1 z1.2.2.1 z1.2.2.2.1 z1.2.2.2.2.1 z1.2.2.2.2.2.1 z1.2.2.2.2.2.2
def Fu (k:Nat):Nat→T4
 |0,_,_,_,_,_,_,_=>none
 |n+1,s7,aa,af,ag,ae,r1,r2=>Bm k (Fu k n) s7 aa af ag ae r1 r2
def Jz (k:Nat)(aX:List zM)(bB:EQ)(bA:AC)(bp:EQ)(a1:List zE)(a2:Int):Option (AC×Int):=
 (AB k a1 a2).bind fun x0=>
 (uW k k 0 (aX.length:Int) 0 aX bB bA bp [] x0).bind fun z=>
 (Fu k k z.1 z.2.1 z.2.2.1 z.2.2.2.1 z.2.2.2.2.1 z.2.2.2.2.2.1 z.2.2.2.2.2.2).bind fun z2=>
 some (z2.2,z2.1)
abbrev T7:Type:=(List zE)×(List zM)×EQ×AC×EQ×(List zE)
abbrev T5:Type:=List zE→Int→Int→List zM→EQ→AC→EQ→List zE→Option T7
def Bn (k:Nat)(rec:T5)(s7:List zE)(il dR:Int)(aa:List zM)(af:EQ)(ag:AC)(ae:EQ)(r1:List zE):Option T7:=
 bif decide (dR < il) then (bif zD dR r1.length then ((mF k s7 (r1.getD dR.toNat (0,0,0,0,0,0,0)).1).bind fun x4=>
   rec x4.1 il (zA (dR+1)) aa af ag ae r1)
  else none)
 else some (s7,aa,af,ag,ae,r1)
def uX (k:Nat):Nat→T5
 |0,_,_,_,_,_,_,_,_=>none
 |n+1,s7,il,dR,aa,af,ag,ae,r1=>Bn k (uX k n) s7 il dR aa af ag ae r1
def Bo (k:Nat)(aX:List zM)(bB:EQ)(bA:AC)(bp:EQ)(a1:List zE)(a2:Int):Option GI:=
 (Jz k aX bB bA bp a1 a2).bind fun x0=>
 (AB k a1 a2).bind fun x1=>
 (Bf k x1 x0.1).bind fun x2=>
 (mC k aX bB bA bp x2).bind fun x3=>
 bif !(decide (x3.2.2.2.2=0)) then some (aX,bB,bA,bp,a1,[])
 else(uX k k a1 (x2.length:Int) 0 x3.1 x3.2.1 x3.2.2.1 x3.2.2.2.1 x2).bind fun z=>
 some (lV z (z.1,z.2.2.2.2.2))
def uY (k:Nat)(aX:List zM)(bB:EQ)(bA:AC)(bp:EQ)(a1:List zE)(a2:Int)(a3:Bool):Option GI:=
 (Fw k aX bB bA bp a1 a2).bind fun x0=>
 bif !a3 then some (x0.1,x0.2.1,x0.2.2.1,x0.2.2.2.1,x0.2.2.2.2.1,x0.2.2.2.2.2)
 else(Bo k x0.1 x0.2.1 x0.2.2.1 x0.2.2.2.1 x0.2.2.2.2.1 a2).bind fun x1=>
 bif decide ((x1.2.2.2.2.2.length:Int)=0) then some (pZ x1 x0.2.2.2.2.2)
 else(Fw k x1.1 x1.2.1 x1.2.2.1 x1.2.2.2.1 x1.2.2.2.2.1 a2).bind fun x2=>
 bif zU (x0.2.2.2.2.2.length + x1.2.2.2.2.2.length) 56 then (bif zU ((x0.2.2.2.2.2 ++ x1.2.2.2.2.2).length + x2.2.2.2.2.2.length) 56 then (let y0:List zE:=((x0.2.2.2.2.2++x1.2.2.2.2.2)++x2.2.2.2.2.2)
   some (pZ x2 y0))
  else none)
 else none
abbrev qOp:Type:=(List zE)×Int×Int×(List qF)
abbrev T8:Type:=List zE→Int→Int→Int→Int→List qF→Int→Int→Int→Int→Int→Int→Int→AC→Option qOp
def sD (k:Nat)(rec:T8)(s8:List zE)(s9 aw cE bW:Int)(r0:List qF)(aq ay az aD aN aO aP:Int)(r2:AC):Option qOp:=
 bif decide (bW < cE) then (bif zD bW r2.length then ((mJ k (r2.getD bW.toNat 0) 18 [aq,ay,az,aD]).bind fun x0=>
   bif zU (r0.length+1) 64 then(rec s8 s9 aw cE (zA (bW+1)) (r0++[x0]) aq ay az aD aN aO aP r2)
   else none)
  else none)
 else some (s8,s9,aw,r0)
def sC (k:Nat):Nat→T8
 |0,_,_,_,_,_,_,_,_,_,_,_,_,_,_=>none
 |n+1,s8,s9,aw,cE,bW,r0,aq,ay,az,aD,aN,aO,aP,r2=>sD k (sC k n) s8 s9 aw cE bW r0 aq ay az aD aN aO aP r2
abbrev Uc:Type:=List qF
abbrev Ua:Type:=List zE→Int→Int→List qF→Option Uc
def Bp (k:Nat)(rec:Ua)(s8:List zE)(s9 aw:Int)(r0:List qF):Option Uc:=
 bif decide (aw < s9) then (bif zD aw s8.length then ((sC k k s8 s9 aw 2 0 r0 (s8.getD aw.toNat (0,0,0,0,0,0,0)).1 (s8.getD aw.toNat (0,0,0,0,0,0,0)).2.1 (s8.getD aw.toNat (0,0,0,0,0,0,0)).2.2.1 (s8.getD aw.toNat (0,0,0,0,0,0,0)).2.2.2.1 (s8.getD aw.toNat (0,0,0,0,0,0,0)).2.2.2.2.1 (s8.getD aw.toNat (0,0,0,0,0,0,0)).2.2.2.2.2.1 (s8.getD aw.toNat (0,0,0,0,0,0,0)).2.2.2.2.2.2 [(s8.getD aw.toNat (0,0,0,0,0,0,0)).2.1,(s8.getD aw.toNat (0,0,0,0,0,0,0)).2.2.1]).bind fun z=>
   rec z.1 z.2.1 (zA (z.2.2.1+1)) z.2.2.2)
  else none)
 else some r0
def Fy (k:Nat):Nat→Ua
 |0,_,_,_,_=>none
 |n+1,s8,s9,aw,r0=>Bp k (Fy k n) s8 s9 aw r0
def JE (k:Nat)(a0:List zE):Option (List qF):=
 (Fy k k a0 (a0.length:Int) 0 []).bind fun z1=>
 some z1
def pQ (k:Nat)(Lt:Int)(VI:List zM)(VJ:EQ)(VK:AC)(VL:EQ)(VM:AC)(VN:EQ)(GJ:List zE)(VO:AC)(VP:Int)(VQ a1:Bool):Option VA:=
 (uY k VI VJ VK VL GJ Lt a1).bind fun x0=>
 (JE k x0.2.2.2.2.2).bind fun x1=>
 some (Lt,(dy x0 (VM,VN,x0.2.2.2.2.1,VO,VP,VQ,x1)))
abbrev Uh:Type:=Int×(List vF)×Int×Int×Int×Int×(List zM)×EQ×AC×EQ×AC×EQ×(List zE)×AC×Int×Bool×Int×Int×Bool×(List qF)×(List zE)
abbrev Uf:Type:=List zE→Int→Int→Int→List vF→Int→Int→Int→Int→List zM→EQ→AC→EQ→AC→EQ→List zE→AC→Int→Bool→Int→Int→Bool→List qF→List zE→Option Uh
def Bx (k:Nat)(rec:Uf)(dj:List zE)(iq dm aa:Int)(af:List vF)(ag ae aU aq:Int)(ay:List zM)(az:EQ)(aD:AC)(aN:EQ)(aO:AC)(aP:EQ)(bQ:List zE)(bR:AC)(bh:Int)(aJ:Bool)(bG mR:Int)(gP:Bool)(r3:List qF)(r4:List zE):Option Uh:=
 bif decide (dm < iq) then (bif zD dm dj.length then ((P1 k (dj.getD dm.toNat (0,0,0,0,0,0,0)).1 (dj.getD dm.toNat (0,0,0,0,0,0,0)).2.1 (dj.getD dm.toNat (0,0,0,0,0,0,0)).2.2.1 (dj.getD dm.toNat (0,0,0,0,0,0,0)).2.2.2.1 (dj.getD dm.toNat (0,0,0,0,0,0,0)).2.2.2.2.1 (dj.getD dm.toNat (0,0,0,0,0,0,0)).2.2.2.2.2.1 (dj.getD dm.toNat (0,0,0,0,0,0,0)).2.2.2.2.2.2 aq).bind fun x2=>
   bif x2 then ((mJ k (dj.getD dm.toNat (0,0,0,0,0,0,0)).2.1 21 [(dj.getD dm.toNat (0,0,0,0,0,0,0)).1]).bind fun x3=>
    bif zU (r3.length+1) 64 then(rec dj iq (zA (dm+1)) aa af ag ae aU aq ay az aD aN aO aP bQ bR bh aJ bG mR gP (r3++[x3]) r4)
    else none)
   else bif zU (r4.length + 1) 56 then (let y0:List zE:=(r4++[(dj.getD dm.toNat (0,0,0,0,0,0,0))])
    rec dj iq (zA (dm+1)) aa af ag ae aU aq ay az aD aN aO aP bQ bR bh aJ bG mR gP r3 y0)
   else none)
  else none)
 else some (aa,af,ag,ae,aU,aq,ay,az,aD,aN,aO,aP,bQ,bR,bh,aJ,bG,mR,gP,r3,r4)
def Bw (k:Nat):Nat→Uf
 |0,_,_,_,_,_,_,_,_,_,_,_,_,_,_,_,_,_,_,_,_,_,_,_,_=>none
 |n+1,dj,iq,dm,aa,af,ag,ae,aU,aq,ay,az,aD,aN,aO,aP,bQ,bR,bh,aJ,bG,mR,gP,r3,r4=>Bx k (Bw k n) dj iq dm aa af ag ae aU aq ay az aD aN aO aP bQ bR bh aJ bG mR gP r3 r4
def vf (k:Nat)(Lq:Int)(Lr:List vF)(Ls Cz CA Lv:Int)(V8:List zM)(V9:EQ)(Wa:AC)(Wb:EQ)(Wc:AC)(Wd:EQ)(GK:List zE)(We:AC)(Wg:Int)(Lw:Bool):Option VA:=
 bif Lw then some (Lv,V8,V9,Wa,Wb,Wc,Wd,GK,We,Wg,Lw,[])
 else(By k Lq Lr Ls Cz CA (zA (Lv+1))).bind fun x0=>
 bif x0 then ((JG k (zA (Lv+1)) V8 V9 Wa Wb Wc Wd GK We Wg Lw).bind fun x1=>
  some (x1.1,x1.2.1,x1.2.2.1,x1.2.2.2.1,x1.2.2.2.2.1,x1.2.2.2.2.2.1,x1.2.2.2.2.2.2.1,x1.2.2.2.2.2.2.2.1,x1.2.2.2.2.2.2.2.2.1,x1.2.2.2.2.2.2.2.2.2.1,x1.2.2.2.2.2.2.2.2.2.2.1,x1.2.2.2.2.2.2.2.2.2.2.2))
 else(Bw k k GK (GK.length:Int) 0 Lq Lr Ls Cz CA (zA (Lv+1)) V8 V9 Wa Wb Wc Wd GK We Wg Lw 0 0 false [] []).bind fun z=>
 (JH k z.1 z.2.1 z.2.2.1 z.2.2.2.1 z.2.2.2.2.1 z.2.2.2.2.2.1).bind fun x4=>
 (pQ k z.2.2.2.2.2.1 z.2.2.2.2.2.2.1 z.2.2.2.2.2.2.2.1 z.2.2.2.2.2.2.2.2.1 z.2.2.2.2.2.2.2.2.2.1 z.2.2.2.2.2.2.2.2.2.2.1 z.2.2.2.2.2.2.2.2.2.2.2.1 z.2.2.2.2.2.2.2.2.2.2.2.2.2.2.2.2.2.2.2.2 z.2.2.2.2.2.2.2.2.2.2.2.2.2.1 z.2.2.2.2.2.2.2.2.2.2.2.2.2.2.1 z.2.2.2.2.2.2.2.2.2.2.2.2.2.2.2.1 x4).bind fun x5=>
 bif zU (z.2.2.2.2.2.2.2.2.2.2.2.2.2.2.2.2.2.2.2.1.length + x5.2.2.2.2.2.2.2.2.2.2.2.length) 64 then (let y1:List qF:=(z.2.2.2.2.2.2.2.2.2.2.2.2.2.2.2.2.2.2.2.1++x5.2.2.2.2.2.2.2.2.2.2.2)
  some (sW x5 y1))
 else none
def qVi (k:Nat)(a0:ik)(a1:(Int×Int×Int×Int×Int×Int)):Option (Int×wS):=
 (yS k a1.2.1 0 (zA (a0.1-1))).bind fun x0=>
 bif !x0 then some (1,(vB a0 []))
 else(yS k a1.2.2.2.1 1 3).bind fun x1=>
 bif !x1 then some (1,(vB a0 []))
 else(BA k (vT a0) a0.2.2.2.2.2.1 (a1.1,a0.2.2.2.2.2.2.2.2.2.2.2.2.2.2.2.2,a1.2)).bind fun x2=>
 bif !(decide (x2=0)) then some (x2,(vB a0 []))
 else(AY k a0.2.2.2.2.2.2.2.2.2.2.2.2.2.1 a1.1).bind fun x3=>
 bif !(decide (x3.2=0)) then some (x3.2,(vB a0 []))
 else(so k a0.2.2.2.2.2.2.2.2.2.2.2.2.1 (a1.1,a0.2.2.2.2.2.2.2.2.2.2.2.2.2.2.2.2,a1.2)).bind fun x4=>
 bif !(decide (x4.2=0)) then some (x4.2,(vB a0 []))
 else some (0,(mP a0 (x4.1,x3.1,a0.2.2.2.2.2.2.2.2.2.2.2.2.2.2.1,a0.2.2.2.2.2.2.2.2.2.2.2.2.2.2.2.1,a0.2.2.2.2.2.2.2.2.2.2.2.2.2.2.2.2,[])))
def K1 (k:Nat)(a0:ik)(a1:zE):Option (Int×wS):=
 (R0 k (vB a0 []) a1.2.1).bind fun x0=>
 bif !(decide (x0.2=0)) then some (x0.2,(vB a0 []))
 else bif decide (a1.1 = 2) then ((mF k a0.2.2.2.2.2.2.2.2.2.2.2.2.1 a1.2.1).bind fun x1=>
  (JZ k (mP a0 (x1.1,a0.2.2.2.2.2.2.2.2.2.2.2.2.2)) 20 [a1.2.1]).bind fun x2=>
  some (x1.2.2.2.2.2.2.2.2,x2))
 else bif decide (a1.1 = 4) then ((yS k a1.2.2.1 1 3).bind fun x3=>
  bif !x3 then some (1,(vB a0 []))
  else(vg k (vT a0) a0.2.2.2.2.2.1 a1.2.2.1).bind fun x4=>
  bif !(decide (x4=0)) then some (x4,(vB a0 []))
  else(AQ k a0.2.2.2.2.2.2.2.2.2.2.2.2.1 a1.2.1 a1.2.2.1).bind fun x5=>
  some (x5.2,(mP a0 (x5.1,(VD a0 [])))))
 else bif decide (a1.2.2.1 = 0) then ((AV k a0.2.2.2.2.2.2.2.2.2.2.2.2.1 a1.2.1).bind fun x6=>
  some (x6.2,(mP a0 (x6.1,(VD a0 [])))))
 else bif decide (a1.2.2.1 = 1) then ((AR k a0.2.2.2.2.2.2.2.2.2.2.2.2.1 a1.2.1).bind fun x7=>
  some (x7.2,(mP a0 (x7.1,(VD a0 [])))))
 else some (1,(vB a0 []))
def K2 (k:Nat)(a0:ik)(a1:zE):Option (Int×wS):=
 (dN k a0.2.2.2.2.2.2.1 a0.2.2.2.2.2.2.2.1 a0.2.2.2.2.2.2.2.2.1 a0.2.2.2.2.2.2.2.2.2.1).bind fun x0=>
 bif decide (a1.1 = 5) then ((R8 k (vB a0 []) a1.2.1).bind fun x1=>
  bif !x1 then some (1,(vB a0 []))
  else(yS k a1.2.2.1 (-1) 1152921504606846976).bind fun x2=>
  bif !x2 then some (1,(vB a0 []))
  else bif zD a0.2.2.2.2.2.2.2.2.2.2.2.2.2.2.2.2 x0.2.1.length then (bif zD a1.2.1 (x0.2.1.getD a0.2.2.2.2.2.2.2.2.2.2.2.2.2.2.2.2.toNat []).length then (let y0:EQ:=(x0.2.1.set a0.2.2.2.2.2.2.2.2.2.2.2.2.2.2.2.2.toNat ((x0.2.1.getD a0.2.2.2.2.2.2.2.2.2.2.2.2.2.2.2.2.toNat []).set a1.2.1.toNat a1.2.2.1))
    some (0,(fx a0 (x0.1,y0,x0.2.2.1,x0.2.2.2,(VE a0 [])))))
   else none)
  else none)
 else bif decide (a1.1 = 6) then ((yS k a1.2.1 (-1) 1152921504606846976).bind fun x3=>
  bif !x3 then some (1,(vB a0 []))
  else bif zD a0.2.2.2.2.2.2.2.2.2.2.2.2.2.2.2.2 x0.2.2.1.length then (let y1:AC:=(x0.2.2.1.set a0.2.2.2.2.2.2.2.2.2.2.2.2.2.2.2.2.toNat a1.2.1)
   some (0,(fx a0 (x0.1,x0.2.1,y1,x0.2.2.2,(VE a0 [])))))
  else none)
 else(yS k a1.2.1 0 1152921504606846976).bind fun x4=>
 bif !x4 then some (1,(vB a0 []))
 else bif zD a0.2.2.2.2.2.2.2.2.2.2.2.2.2.2.2.2 x0.1.length then (let y2:List zM:=(x0.1.set a0.2.2.2.2.2.2.2.2.2.2.2.2.2.2.2.2.toNat ((x0.1.getD a0.2.2.2.2.2.2.2.2.2.2.2.2.2.2.2.2.toNat (0,0,0)).1,(x0.1.getD a0.2.2.2.2.2.2.2.2.2.2.2.2.2.2.2.2.toNat (0,0,0)).2.1,a1.2.1))
  some (0,(fx a0 (y2,x0.2.1,x0.2.2.1,x0.2.2.2,(VE a0 [])))))
 else none
def yCt (k:Nat)(a0:ik)(a1 a2:Int):Option (Int×wS):=
 (Gu k (vB a0 []) a1).bind fun x0=>
 bif !x0 then some (1,(vB a0 []))
 else(yS k a2 0 1099511627776).bind fun x1=>
 bif !x1 then some (1,(vB a0 []))
 else(BC k a0.2.2.2.2.2.2.2.2.2.2.2.1).bind fun x2=>
 bif zD a0.2.2.2.2.2.2.2.2.2.2.2.2.2.2.2.2 x2.length then ((mI k (x2.getD a0.2.2.2.2.2.2.2.2.2.2.2.2.2.2.2.2.toNat []) a1 a2).bind fun x3=>
  bif zD a0.2.2.2.2.2.2.2.2.2.2.2.2.2.2.2.2 x2.length then (let y0:EQ:=(x2.set a0.2.2.2.2.2.2.2.2.2.2.2.2.2.2.2.2.toNat x3)
   bif zD a0.2.2.2.2.2.2.2.2.2.2.2.2.2.2.2.2 y0.length then ((nS k a0.2.1 a0.2.2.2.2.2.2.2.2.2.2.1 (y0.getD a0.2.2.2.2.2.2.2.2.2.2.2.2.2.2.2.2.toNat [])).bind fun x4=>
    bif zD a0.2.2.2.2.2.2.2.2.2.2.2.2.2.2.2.2 a0.2.2.2.2.2.2.1.length then (bif !x4.2 then some (8,(vB a0 []))
     else bif decide (x4.1>1152921504606846976) then some (8,(vB a0 []))
     else bif decide (x4.1 < (a0.2.2.2.2.2.2.1.getD a0.2.2.2.2.2.2.2.2.2.2.2.2.2.2.2.2.toNat (0, 0, 0)).2.1) then (bif decide ((zA ((a0.2.2.2.2.2.2.1.getD a0.2.2.2.2.2.2.2.2.2.2.2.2.2.2.2.2.toNat (0,0,0)).1+x4.1))<0) then some (9,(vB a0 []))
      else(dN k a0.2.2.2.2.2.2.1 a0.2.2.2.2.2.2.2.1 a0.2.2.2.2.2.2.2.2.1 a0.2.2.2.2.2.2.2.2.2.1).bind fun x5=>
      bif zD a0.2.2.2.2.2.2.2.2.2.2.2.2.2.2.2.2 x5.1.length then (let y1:List zM:=(x5.1.set a0.2.2.2.2.2.2.2.2.2.2.2.2.2.2.2.2.toNat ((x5.1.getD a0.2.2.2.2.2.2.2.2.2.2.2.2.2.2.2.2.toNat (0,0,0)).1,x4.1,(x5.1.getD a0.2.2.2.2.2.2.2.2.2.2.2.2.2.2.2.2.toNat (0,0,0)).2.2))
       some (0,(fx a0 (y1,x5.2.1,x5.2.2.1,x5.2.2.2,a0.2.2.2.2.2.2.2.2.2.2.1,y0,(qTl a0 [])))))
      else none)
     else(dN k a0.2.2.2.2.2.2.1 a0.2.2.2.2.2.2.2.1 a0.2.2.2.2.2.2.2.2.1 a0.2.2.2.2.2.2.2.2.2.1).bind fun x6=>
     bif zD a0.2.2.2.2.2.2.2.2.2.2.2.2.2.2.2.2 x6.1.length then (let y2:List zM:=(x6.1.set a0.2.2.2.2.2.2.2.2.2.2.2.2.2.2.2.2.toNat ((x6.1.getD a0.2.2.2.2.2.2.2.2.2.2.2.2.2.2.2.2.toNat (0,0,0)).1,x4.1,(x6.1.getD a0.2.2.2.2.2.2.2.2.2.2.2.2.2.2.2.2.toNat (0,0,0)).2.2))
      some (0,(fx a0 (y2,x6.2.1,x6.2.2.1,x6.2.2.2,a0.2.2.2.2.2.2.2.2.2.2.1,y0,(qTl a0 [])))))
     else none)
    else none)
   else none)
  else none)
 else none
def BG (k:Nat)(a0:ik)(a1 a2 a3:Int):Option (Int×wS):=
 (yS k a2 0 (zA (a0.1-1))).bind fun x0=>
 bif !x0 then some (1,(vB a0 []))
 else(yS k a3 1 1099511627776).bind fun x1=>
 bif !x1 then some (1,(vB a0 []))
 else bif zD a2 a0.2.2.2.2.2.2.1.length then ((BH k (a0.2.2.2.2.2.2.1.getD a2.toNat (0,0,0)) a3).bind fun x2=>
  bif decide (a1 = 11) then ((BI k (a0.2.2.2.2.2.2.1.getD a2.toNat (0,0,0)) a3 3).bind fun x3=>
   (BJ k (a0.2.2.2.2.2.2.1.getD a2.toNat (0,0,0)) 3).bind fun x4=>
   bif decide (x4<a3) then some (9,(vB a0 []))
   else bif decide ((zA (a0.2.2.2.2.2.2.2.2.2.2.2.2.2.2.1-a3))<0) then some (9,(vB a0 []))
   else bif !(decide (x3.2=0)) then some (x3.2,(vB a0 []))
   else bif decide ((zA (a0.2.2.2.2.2.2.2.2.2.2.2.2.2.2.1-a3))>1152921504606846976) then some (8,(vB a0 []))
   else(dN k a0.2.2.2.2.2.2.1 a0.2.2.2.2.2.2.2.1 a0.2.2.2.2.2.2.2.2.1 a0.2.2.2.2.2.2.2.2.2.1).bind fun x5=>
   bif zD a2 x5.1.length then some (0,(fx a0 ((x5.1.set a2.toNat x3.1),x5.2.1,x5.2.2.1,x5.2.2.2,(Ln a0 ((zA (a0.2.2.2.2.2.2.2.2.2.2.2.2.2.2.1-a3)),a0.2.2.2.2.2.2.2.2.2.2.2.2.2.2.2.1,a0.2.2.2.2.2.2.2.2.2.2.2.2.2.2.2.2,[])))))
   else none)
  else bif !(decide (x2.2=0)) then some (x2.2,(vB a0 []))
  else bif decide ((zA (a0.2.2.2.2.2.2.2.2.2.2.2.2.2.2.1+a3))>1152921504606846976) then some (8,(vB a0 []))
  else(dN k a0.2.2.2.2.2.2.1 a0.2.2.2.2.2.2.2.1 a0.2.2.2.2.2.2.2.2.1 a0.2.2.2.2.2.2.2.2.2.1).bind fun x6=>
  bif zD a2 x6.1.length then some (0,(fx a0 ((x6.1.set a2.toNat x2.1),x6.2.1,x6.2.2.1,x6.2.2.2,(Ln a0 ((zA (a0.2.2.2.2.2.2.2.2.2.2.2.2.2.2.1+a3)),a0.2.2.2.2.2.2.2.2.2.2.2.2.2.2.2.1,a0.2.2.2.2.2.2.2.2.2.2.2.2.2.2.2.2,[])))))
  else none)
 else none
abbrev Ul:Type:=(ik×AC×(List zM)×EQ×AC×EQ)⊕(Int×ik)
abbrev Uj:Type:=EQ→Int→Int→ik→AC→List zM→EQ→AC→EQ→Option Ul
def BL (k:Nat)(rec:Uj)(dR:EQ)(fD gM:Int)(b0:ik)(r1:AC)(r3:List zM)(m4:EQ)(r5:AC)(m6:EQ):Option Ul:=
 bif decide (gM < fD) then (bif zD gM dR.length then ((nS k b0.2.1 r1 (dR.getD gM.toNat [])).bind fun x4=>
   bif !x4.2 then some (.inr (8,b0))
   else bif decide (x4.1>1152921504606846976) then some (.inr (8,b0))
   else bif zD gM r3.length then (let y0:List zM:=(r3.set gM.toNat ((r3.getD gM.toNat (0,0,0)).1,x4.1,(r3.getD gM.toNat (0,0,0)).2.2))
    rec dR fD (zA (gM+1)) b0 r1 y0 m4 r5 m6)
   else none)
  else none)
 else some (.inl (b0,r1,r3,m4,r5,m6))
def pU (k:Nat):Nat→Uj:=vK (fun _ _ _ _ _ _ _ _ _=>none) (BL k)
def JU (k:Nat)(a0:ik)(a1 a2:Int):Option (Int×wS):=
 (Gu k (vB a0 []) a1).bind fun x0=>
 bif !x0 then some (1,(vB a0 []))
 else(yS k a2 0 1048576).bind fun x1=>
 bif !x1 then some (1,(vB a0 []))
 else(mI k a0.2.2.2.2.2.2.2.2.2.2.1 a1 a2).bind fun x2=>
 (dN k a0.2.2.2.2.2.2.1 a0.2.2.2.2.2.2.2.1 a0.2.2.2.2.2.2.2.2.1 a0.2.2.2.2.2.2.2.2.2.1).bind fun x3=>
 (pU k k a0.2.2.2.2.2.2.2.2.2.2.2.1 (a0.2.2.2.2.2.2.2.2.2.2.2.1.length:Int) 0 a0 x2 x3.1 x3.2.1 x3.2.2.1 x3.2.2.2).bind fun z=>
 match z with
 |.inl z1=>some (0,(fx z1.1 (qUp z1 (z1.2.1,(P6 z1.1 [])))))
 |.inr z2=>some (wR z2 [])
def JX (k:Nat)(a0:ik)(a1:zE):Option (Int×wS):=
 bif decide (a1.1 = 1) then ((qVi k a0 a1.2).bind fun x0=>
  some (x0.1,x0.2))
 else bif decide (a1.1 = 2) then ((K1 k a0 a1).bind fun x1=>
  some (x1.1,x1.2))
 else bif decide (a1.1 = 3) then ((K1 k a0 a1).bind fun x2=>
  some (x2.1,x2.2))
 else bif decide (a1.1 = 4) then ((K1 k a0 a1).bind fun x3=>
  some (x3.1,x3.2))
 else bif decide (a1.1 = 5) then ((K2 k a0 a1).bind fun x4=>
  some (x4.1,x4.2))
 else bif decide (a1.1 = 6) then ((K2 k a0 a1).bind fun x5=>
  some (x5.1,x5.2))
 else bif decide (a1.1 = 7) then ((K2 k a0 a1).bind fun x6=>
  some (x6.1,x6.2))
 else bif decide (a1.1 = 8) then ((yCt k a0 a1.2.1 a1.2.2.1).bind fun x7=>
  some (x7.1,x7.2))
 else bif decide (a1.1 = 10) then ((BG k a0 a1.1 a1.2.1 a1.2.2.1).bind fun x8=>
  some (x8.1,x8.2))
 else bif decide (a1.1 = 11) then ((BG k a0 a1.1 a1.2.1 a1.2.2.1).bind fun x9=>
  some (x9.1,x9.2))
 else bif decide (a1.1 = 12) then ((JU k a0 a1.2.1 a1.2.2.1).bind fun cn=>
  some (cn.1,cn.2))
 else some (0,(vB a0 []))
def eZ (k:Nat)(a0:wA)(a1:vV)(a2:qF):Option (vV×(List qF)×Int):=
 (BD k a0 a1 a2).bind fun x0=>
 bif !(decide (x0=0)) then some (a1,[],x0)
 else bif decide (a2.2.1 = 9) then ((FP k a1 a2.1).bind fun x1=>
  some (a1,x1,0))
 else bif !(decide (a2.1 = (-1))) then ((JZ k (eu a0 (jN a1 a2.1)) 15 []).bind fun x2=>
  (JW k x2 a2.2).bind fun x3=>
  bif !(decide (x3.1=0)) then some (a1,[],x3.1)
  else bif decide (a2.2.1 = 14) then ((vf k a0.1 a0.2.1 a0.2.2.1 a0.2.2.2.1 a0.2.2.2.2 a1.1 a1.2.1 a1.2.2.1 a1.2.2.2.1 a1.2.2.2.2.1 a1.2.2.2.2.2.1 a1.2.2.2.2.2.2.1 a1.2.2.2.2.2.2.2.1 a1.2.2.2.2.2.2.2.2.1 a1.2.2.2.2.2.2.2.2.2.1 a1.2.2.2.2.2.2.2.2.2.2).bind fun x4=>
   some ((vH x4),x4.2.2.2.2.2.2.2.2.2.2.2,0))
  else(pQ k x3.2.2.2.2.2.2.1 x3.2.2.2.2.2.2.2.1 x3.2.2.2.2.2.2.2.2.1 x3.2.2.2.2.2.2.2.2.2.1 x3.2.2.2.2.2.2.2.2.2.2.1 x3.2.2.2.2.2.2.2.2.2.2.2.1 x3.2.2.2.2.2.2.2.2.2.2.2.2.1 x3.2.2.2.2.2.2.2.2.2.2.2.2.2.1 x3.2.2.2.2.2.2.2.2.2.2.2.2.2.2.1 x3.2.2.2.2.2.2.2.2.2.2.2.2.2.2.2.1 x3.2.2.2.2.2.2.2.2.2.2.2.2.2.2.2.2.1 (decide (a2.2.1=13))).bind fun x5=>
  bif zU (x3.2.2.2.2.2.2.2.2.2.2.2.2.2.2.2.2.2.2.length + x5.2.2.2.2.2.2.2.2.2.2.2.length) 64 then (let y0:List qF:=(x3.2.2.2.2.2.2.2.2.2.2.2.2.2.2.2.2.2.2++x5.2.2.2.2.2.2.2.2.2.2.2)
   bif decide (a2.2.1 = 1) then ((lG k x5.2.2.2.2.2.2.2.1 a2.2.2.1).bind fun x6=>
    bif decide (x6 ≥ 0) then ((sH k (JY x3 y0) 19 [a2.2.2.1]).bind fun x7=>
     some ((vH x5),x7.2.2.2.2.2.2.2.2.2.2.2.2.2.2.2.2.2,0))
    else some ((vH x5),y0,0))
   else some ((vH x5),y0,0))
  else none)
 else(JX k (eu a0 (jN a1 a2.1)) a2.2).bind fun x8=>
 bif !(decide (x8.1=0)) then some (a1,[],x8.1)
 else bif decide (a2.2.1 = 14) then ((vf k a0.1 a0.2.1 a0.2.2.1 a0.2.2.2.1 a0.2.2.2.2 a1.1 a1.2.1 a1.2.2.1 a1.2.2.2.1 a1.2.2.2.2.1 a1.2.2.2.2.2.1 a1.2.2.2.2.2.2.1 a1.2.2.2.2.2.2.2.1 a1.2.2.2.2.2.2.2.2.1 a1.2.2.2.2.2.2.2.2.2.1 a1.2.2.2.2.2.2.2.2.2.2).bind fun x9=>
  some ((vH x9),x9.2.2.2.2.2.2.2.2.2.2.2,0))
 else(pQ k x8.2.2.2.2.2.2.1 x8.2.2.2.2.2.2.2.1 x8.2.2.2.2.2.2.2.2.1 x8.2.2.2.2.2.2.2.2.2.1 x8.2.2.2.2.2.2.2.2.2.2.1 x8.2.2.2.2.2.2.2.2.2.2.2.1 x8.2.2.2.2.2.2.2.2.2.2.2.2.1 x8.2.2.2.2.2.2.2.2.2.2.2.2.2.1 x8.2.2.2.2.2.2.2.2.2.2.2.2.2.2.1 x8.2.2.2.2.2.2.2.2.2.2.2.2.2.2.2.1 x8.2.2.2.2.2.2.2.2.2.2.2.2.2.2.2.2.1 (decide (a2.2.1=13))).bind fun cn=>
 bif zU (x8.2.2.2.2.2.2.2.2.2.2.2.2.2.2.2.2.2.2.length + cn.2.2.2.2.2.2.2.2.2.2.2.length) 64 then (let y1:List qF:=(x8.2.2.2.2.2.2.2.2.2.2.2.2.2.2.2.2.2.2++cn.2.2.2.2.2.2.2.2.2.2.2)
  bif decide (a2.2.1 = 1) then ((lG k cn.2.2.2.2.2.2.2.1 a2.2.2.1).bind fun eF=>
   bif decide (eF ≥ 0) then ((sH k (JY x8 y1) 19 [a2.2.2.1]).bind fun kW=>
    some ((vH cn),kW.2.2.2.2.2.2.2.2.2.2.2.2.2.2.2.2.2,0))
   else some ((vH cn),y1,0))
  else some ((vH cn),y1,0))
 else none
def pW (k:Nat)(aR:jP)(cz:vC)(a1:AC):Option (Int×jP×vC):=
 (F5 k cz (zA (1-aR.1)) (zA (aR.2.1+1)) a1).bind fun x0=>
 bif decide (x0.1=0) then some (x0.1,((zA (1-aR.1)),(zA (aR.2.1+1)),0,false),x0.2)
 else some (x0.1,aR,x0.2)
def Qi (k:Nat)(a0:Int):Option Bool:=
 (yS k a0 0 1048576).bind fun x0=>
 some (!x0)
abbrev Uq:Type:=AC→Int→Int→Option (Unit⊕Int)
def BQ (k:Nat)(rec:Uq)(s0:AC)(s7 s8:Int):Option (Unit⊕Int):=
 bif decide (s8 < s7) then (bif zD s8 s0.length then ((Qi k (s0.getD s8.toNat 0)).bind fun x0=>
   bif x0 then some (.inr s8)
   else rec s0 s7 (zA (s8+1)))
  else none)
 else some (.inl ())
def vp (k:Nat):Nat→Uq
 |0,_,_,_=>none
 |n+1,s0,s7,s8=>BQ k (vp k n) s0 s7 s8
def Qj (k:Nat)(a0:AC):Option Int:=
 (vp k k a0 (a0.length:Int) 0).bind fun z=>
 match z with
 |.inl z1=>some (-1)
 |.inr z2=>some z2
def FY (k:Nat)(a0:AC):Option Bool:=
 (Qj k a0).bind fun x0=>
 some (decide (x0≥0))
def Qk (k:Nat)(a0:Int):Option Bool:=
 some (decide (a0>1099511627776))
abbrev Us:Type:=AC→Int→Int→Option (Unit⊕Int)
def BR (k:Nat)(rec:Us)(s0:AC)(s7 s8:Int):Option (Unit⊕Int):=
 bif decide (s8 < s7) then (bif zD s8 s0.length then ((Qk k (s0.getD s8.toNat 0)).bind fun x0=>
   bif x0 then some (.inr s8)
   else rec s0 s7 (zA (s8+1)))
  else none)
 else some (.inl ())
def vq (k:Nat):Nat→Us
 |0,_,_,_=>none
 |n+1,s0,s7,s8=>BR k (vq k n) s0 s7 s8
def Ql (k:Nat)(a0:AC):Option Int:=
 (vq k k a0 (a0.length:Int) 0).bind fun z=>
 match z with
 |.inl z1=>some (-1)
 |.inr z2=>some z2
def J4 (k:Nat)(a0:AC):Option Bool:=
 (Ql k a0).bind fun x0=>
 some (decide (x0≥0))
abbrev Uu:Type:=EQ→Int→Int→wA→vV→Option (Unit⊕Bool)
def BS (k:Nat)(rec:Uu)(iq:EQ)(dm iX:Int)(b0:wA)(b1:vV):Option (Unit⊕Bool):=
 bif decide (iX < dm) then (bif zD iX iq.length then ((nS k b0.2.1 b1.2.2.2.2.2.1 (iq.getD iX.toNat [])).bind fun x1=>
   bif !x1.2 then some (.inr false)
   else bif decide (x1.1>1152921504606846976) then some (.inr false)
   else bif zD iX b1.2.1.length then (bif !(decide (x1.1=(b1.2.1.getD iX.toNat (0,0,0)).2.1)) then some (.inr false)
    else(J4 k (iq.getD iX.toNat [])).bind fun x2=>
    bif x2 then some (.inr false)
    else rec iq dm (zA (iX+1)) b0 b1)
   else none)
  else none)
 else some (.inl ())
def sJ (k:Nat):Nat→Uu:=vK (fun _ _ _ _ _=>none) (BS k)
def FZ (k:Nat)(a0:wA)(a1:vV):Option Bool:=
 bif !(decide ((a1.2.2.2.2.2.1.length:Int)=(a0.2.1.length:Int))) then some false
 else bif !(decide ((a1.2.2.2.2.2.2.1.length:Int)=a0.1)) then some false
 else(FY k a1.2.2.2.2.2.1).bind fun x0=>
 bif x0 then some false
 else(sJ k k a1.2.2.2.2.2.2.1 (a1.2.2.2.2.2.2.1.length:Int) 0 a0 a1).bind fun z=>
 match z with
 |.inl z1=>some true
 |.inr z2=>some z2
abbrev Uw:Type:=List zE→Int→Option (Unit⊕Bool)
def J1 (k:Nat)(rec:Uw)(s0:List zE)(s5:Int):Option (Unit⊕Bool):=
 bif decide (s5 > 0) then (bif zD s5 s0.length then (bif zD (zA (s5 - 1)) s0.length then ((AN k (s0.getD s5.toNat (0,0,0,0,0,0,0)).1 (s0.getD s5.toNat (0,0,0,0,0,0,0)).2.1 (s0.getD s5.toNat (0,0,0,0,0,0,0)).2.2.1 (s0.getD s5.toNat (0,0,0,0,0,0,0)).2.2.2.1 (s0.getD s5.toNat (0,0,0,0,0,0,0)).2.2.2.2.1 (s0.getD s5.toNat (0,0,0,0,0,0,0)).2.2.2.2.2.1 (s0.getD s5.toNat (0,0,0,0,0,0,0)).2.2.2.2.2.2 (s0.getD (zA (s5-1)).toNat (0,0,0,0,0,0,0)).1 (s0.getD (zA (s5-1)).toNat (0,0,0,0,0,0,0)).2.1 (s0.getD (zA (s5-1)).toNat (0,0,0,0,0,0,0)).2.2.1 (s0.getD (zA (s5-1)).toNat (0,0,0,0,0,0,0)).2.2.2.1 (s0.getD (zA (s5-1)).toNat (0,0,0,0,0,0,0)).2.2.2.2.1 (s0.getD (zA (s5-1)).toNat (0,0,0,0,0,0,0)).2.2.2.2.2.1 (s0.getD (zA (s5-1)).toNat (0,0,0,0,0,0,0)).2.2.2.2.2.2).bind fun x0=>
    bif decide (x0<0) then some (.inr false)
    else rec s0 (zA (s5-1)))
   else none)
  else none)
 else some (.inl ())
def FT (k:Nat):Nat→Uw:=vK (fun _ _=>none) (J1 k)
def J0 (k:Nat)(a0:List zE):Option Bool:=
 (FT k k a0 (zA ((a0.length:Int)-1))).bind fun z=>
 match z with
 |.inl z1=>some true
 |.inr z2=>some z2
abbrev UA:Type:=(List zE)⊕Bool
abbrev Uy:Type:=List zE→List zE→Int→Int→Option UA
def BN (k:Nat)(rec:Uy)(s0 s5:List zE)(s6 s7:Int):Option UA:=
 bif decide (s7 < s6) then (bif zD s7 s5.length then ((lG k s0 (s5.getD s7.toNat (0,0,0,0,0,0,0)).1).bind fun x0=>
   bif !(decide (x0=s7)) then some (.inr false)
   else rec s0 s5 s6 (zA (s7+1)))
  else none)
 else some (.inl s0)
def vm (k:Nat):Nat→Uy
 |0,_,_,_,_=>none
 |n+1,s0,s5,s6,s7=>BN k (vm k n) s0 s5 s6 s7
def FR (k:Nat)(a0:List zE):Option Bool:=
 (vm k k a0 a0 (a0.length:Int) 0).bind fun z=>
 match z with
 | .inl z1 => bif decide ((z1.length : Int) ≤ 40) then ((J0 k z1).bind fun x1=>
   some x1)
  else some false
 |.inr z2=>some z2
abbrev UB:Type:=AC→Int→AC→Int→Int→Option (AC⊕Bool)
def BO (k:Nat)(rec:UB)(s0:AC)(s3:Int)(s6:AC)(s7 s8:Int):Option (AC⊕Bool):=
 bif decide (s8 < s7) then (bif zD s8 s6.length then (bif decide ((s6.getD s8.toNat 0)≤s3) then some (.inr false)
   else rec s0 (s6.getD s8.toNat 0) s6 s7 (zA (s8+1)))
  else none)
 else some (.inl s0)
def FV (k:Nat):Nat→UB:=vK (fun _ _ _ _ _=>none) (BO k)
def FU (k:Nat)(a0:AC):Option Bool:=
 (FV k k a0 0 a0 (a0.length:Int) 0).bind fun z=>
 match z with
 |.inl z1=>some (decide ((z1.length:Int)≤200))
 |.inr z2=>some z2
def Jk (k:Nat)(a0:AC)(a1:Int):Option Bool:=
 (AW k a0 a1).bind fun x0=>
 some x0.2
def J3 (k:Nat)(a0:zE)(a1:vV):Option Bool:=
 (zm k a1.2.1 a1.2.2.1 a1.2.2.2.1 a1.2.2.2.2.1 a0.1 a0.2.1 a0.2.2.1 a0.2.2.2.1 a0.2.2.2.2.1 a0.2.2.2.2.2.1 a0.2.2.2.2.2.2).bind fun x0=>
 bif !x0 then some true
 else bif decide (a0.2.2.2.2.2.1<0) then some true
 else(yS k a0.2.2.2.2.2.2 a0.2.2.2.2.2.1 1048576).bind fun x1=>
 bif !x1 then some true
 else(Jk k a1.2.2.2.2.2.2.2.2.1 a0.1).bind fun x2=>
 some (!x2)
abbrev UD:Type:=List zE→Int→Int→Int→List zM→EQ→AC→EQ→AC→EQ→List zE→AC→Int→Bool→Option (Unit⊕Int)
def BP (k:Nat)(rec:UD)(s0:List zE)(s7 s8 aa:Int)(af:List zM)(ag:EQ)(ae:AC)(aU:EQ)(bb:AC)(bc:EQ)(cJ:List zE)(cL:AC)(cM:Int)(bJ:Bool):Option (Unit⊕Int):=
 bif decide (s8 < s7) then (bif zD s8 s0.length then ((J3 k (s0.getD s8.toNat (0,0,0,0,0,0,0)) (aa,af,ag,ae,aU,bb,bc,cJ,cL,cM,bJ)).bind fun x0=>
   bif x0 then some (.inr s8)
   else rec s0 s7 (zA (s8+1)) aa af ag ae aU bb bc cJ cL cM bJ)
  else none)
 else some (.inl ())
def vn (k:Nat):Nat→UD
 |0,_,_,_,_,_,_,_,_,_,_,_,_,_,_=>none
 |n+1,s0,s7,s8,aa,af,ag,ae,aU,bb,bc,cJ,cL,cM,bJ=>BP k (vn k n) s0 s7 s8 aa af ag ae aU bb bc cJ cL cM bJ
def Qh (k:Nat)(a0:List zE)(Wh:Int)(Wi:List zM)(Wj:EQ)(Wk:AC)(Wl:EQ)(Wm:AC)(Wn:EQ)(Wo:List zE)(Wp:AC)(Wq:Int)(Wr:Bool):Option Int:=
 (vn k k a0 (a0.length:Int) 0 Wh Wi Wj Wk Wl Wm Wn Wo Wp Wq Wr).bind fun z=>
 match z with
 |.inl z1=>some (-1)
 |.inr z2=>some z2
def J2 (k:Nat)(a0:List zE)(Wh:Int)(Wi:List zM)(Wj:EQ)(Wk:AC)(Wl:EQ)(Wm:AC)(Wn:EQ)(Wo:List zE)(Wp:AC)(Wq:Int)(Wr:Bool):Option Bool:=
 (Qh k a0 Wh Wi Wj Wk Wl Wm Wn Wo Wp Wq Wr).bind fun x0=>
 some (decide (x0≥0))
def FW (k:Nat)(a0:vV):Option Bool:=
 (FR k a0.2.2.2.2.2.2.2.1).bind fun x0=>
 bif x0 then ((FU k a0.2.2.2.2.2.2.2.2.1).bind fun x1=>
  bif x1 then ((J2 k a0.2.2.2.2.2.2.2.1 a0.1 a0.2.1 a0.2.2.1 a0.2.2.2.1 a0.2.2.2.2.1 a0.2.2.2.2.2.1 a0.2.2.2.2.2.2.1 a0.2.2.2.2.2.2.2.1 a0.2.2.2.2.2.2.2.2.1 a0.2.2.2.2.2.2.2.2.2.1 a0.2.2.2.2.2.2.2.2.2.2).bind fun x2=>
   some (!x2))
  else some false)
 else some false
abbrev UH:Type:=wA×vV×AC
abbrev UF:Type:=List zM→Int→Int→wA→vV→AC→Option UH
def BW (k:Nat)(rec:UF)(kV:List zM)(s45 Lx:Int)(b0:wA)(b1:vV)(r2:AC):Option UH:=
 bif decide (Lx < s45) then (bif zD Lx kV.length then (bif zU (r2.length+1) 8 then(rec kV s45 (zA (Lx+1)) b0 b1 (r2++[(kV.getD Lx.toNat (0,0,0)).1]))
   else none)
  else none)
 else some (b0,b1,r2)
def BV (k:Nat):Nat→UF:=vK (fun _ _ _ _ _ _=>none) (BW k)
def BU (k:Nat)(a0:wA)(a1:vV):Option Bool:=
 (yS k a1.1 0 a0.2.2.2.1).bind fun x0=>
 bif !x0 then some false
 else(uF k a1.2.1 a1.2.2.1 a1.2.2.2.1 a1.2.2.2.2.1).bind fun x1=>
 bif !x1 then some false
 else bif !(decide ((a1.2.1.length:Int)=a0.1)) then some false
 else(FZ k a0 a1).bind fun x2=>
 bif !x2 then some false
 else(FW k a1).bind fun x3=>
 bif !x3 then some false
 else(BV k k a1.2.1 (a1.2.1.length:Int) 0 a0 a1 []).bind fun z=>
 (AZ k z.2.2).bind fun x4=>
 bif !x4.2 then some false
 else bif !(decide (x4.1=z.2.1.2.2.2.2.2.2.2.2.2.1)) then some false
 else(yS k x4.1 0 1152921504606846976).bind fun x5=>
 bif !x5 then some false
 else(By k z.1.1 z.1.2.1 z.1.2.2.1 z.1.2.2.2.1 z.1.2.2.2.2 z.2.1.1).bind fun x6=>
 bif kh z.2.1.2.2.2.2.2.2.2.2.2.2 x6 then (bif !z.2.1.2.2.2.2.2.2.2.2.2.2 then some true
  else some (decide ((z.2.1.2.2.2.2.2.2.2.1.length:Int)=0)))
 else some false
abbrev UK:Type:=Int×Bool×ke×AC×AC×wA×jP×vV
abbrev UI:Type:=Int→Bool→EQ→Int→Int→ke→AC→AC→wA→jP→vV→Option UK
def B5 (k:Nat)(rec:UI)(s2:Int)(bV:Bool)(Ly:EQ)(wk mS:Int)(b0:ke)(r1 r2:AC)(b3:wA)(b4:jP)(b5:vV):Option UK:=
 bif decide (mS < wk) then (bif zD mS Ly.length then ((pT k (Ly.getD mS.toNat [])).bind fun x8=>
   bif decide (x8.2 = 0) then ((eZ k b3 b5 x8.1).bind fun x9=>
    rec s2 bV Ly wk (zA (mS+1)) b0 r1 r2 b3 b4 x9.1)
   else rec s2 bV Ly wk (zA (mS+1)) b0 r1 r2 b3 b4 b5)
  else none)
 else some (s2,bV,b0,r1,r2,b3,b4,b5)
def vx (k:Nat):Nat→UI:=vK (fun _ _ _ _ _ _ _ _ _ _ _=>none) (B5 k)
def fy (k:Nat)(a0:wA)(a1:vC)(a2:Int):Option ((Int×vC×iW×jP)⊕(Int×vC)):=
 (kR k a0).bind fun x0=>
 bif !x0 then some (.inr (1,a1))
 else bif decide (a2<1) then some (.inr (1,a1))
 else bif decide (a2>1000) then some (.inr (1,a1))
 else(F9 k a1).bind fun x1=>
 (iU k a0).bind fun x2=>
 (ft k x2).bind fun x3=>
 (J8 k a1 x3).bind fun x4=>
 match x4 with
 |.inl x5=>bif !(decide (x5.2.2.1=0)) then some (.inr (x5.2.2.1,x5.2.2.2.1))
  else(B4 k x5.1).bind fun x6=>
  bif !x6.2 then ((iU k a0).bind fun x7=>
   (vx k k a2 x1.2.2.2.2 x5.2.1 (x5.2.1.length:Int) 0 (x5.2.2.2.1.1,x5.2.2.2.1.2.2.1,x5.2.2.2.1.2.2.2.2) x5.2.2.2.1.2.1 x5.2.2.2.1.2.2.2.1 a0 x5.2.2.2.2 x7).bind fun z=>
   bif z.2.1 then ((ft k z.2.2.2.2.2.2.2).bind fun cn=>
    (pW k z.2.2.2.2.2.2.1 (z.2.2.1.1,z.2.2.2.1,z.2.2.1.2.1,z.2.2.2.2.1,z.2.2.1.2.2) cn).bind fun eF=>
    bif !(decide (eF.1=0)) then some (.inr (eF.1,eF.2.2))
    else some (.inl (0,eF.2.2,(eu z.2.2.2.2.2.1 (Cx z (z.1,false))),eF.2.1)))
   else some (.inl (0,(z.2.2.1.1,z.2.2.2.1,z.2.2.1.2.1,z.2.2.2.2.1,z.2.2.1.2.2),(eu z.2.2.2.2.2.1 (Cx z (z.1,false))),z.2.2.2.2.2.2.1)))
  else(BU k a0 x6.1).bind fun kW=>
  bif !kW then ((iU k a0).bind fun gQ=>
   (vx k k a2 x1.2.2.2.2 x5.2.1 (x5.2.1.length:Int) 0 (x5.2.2.2.1.1,x5.2.2.2.1.2.2.1,x5.2.2.2.1.2.2.2.2) x5.2.2.2.1.2.1 x5.2.2.2.1.2.2.2.1 a0 x5.2.2.2.2 gQ).bind fun z1=>
   bif z1.2.1 then ((ft k z1.2.2.2.2.2.2.2).bind fun kg=>
    (pW k z1.2.2.2.2.2.2.1 (z1.2.2.1.1,z1.2.2.2.1,z1.2.2.1.2.1,z1.2.2.2.2.1,z1.2.2.1.2.2) kg).bind fun iY=>
    bif !(decide (iY.1=0)) then some (.inr (iY.1,iY.2.2))
    else some (.inl (0,iY.2.2,(eu z1.2.2.2.2.2.1 (Cx z1 (z1.1,false))),iY.2.1)))
   else some (.inl (0,(z1.2.2.1.1,z1.2.2.2.1,z1.2.2.1.2.1,z1.2.2.2.2.1,z1.2.2.1.2.2),(eu z1.2.2.2.2.2.1 (Cx z1 (z1.1,false))),z1.2.2.2.2.2.2.1)))
  else(vx k k a2 x1.2.2.2.2 x5.2.1 (x5.2.1.length:Int) 0 (x5.2.2.2.1.1,x5.2.2.2.1.2.2.1,x5.2.2.2.1.2.2.2.2) x5.2.2.2.1.2.1 x5.2.2.2.1.2.2.2.1 a0 x5.2.2.2.2 x6.1).bind fun z2=>
  bif z2.2.1 then ((ft k z2.2.2.2.2.2.2.2).bind fun lY=>
   (pW k z2.2.2.2.2.2.2.1 (z2.2.2.1.1,z2.2.2.2.1,z2.2.2.1.2.1,z2.2.2.2.2.1,z2.2.2.1.2.2) lY).bind fun gT=>
   bif !(decide (gT.1=0)) then some (.inr (gT.1,gT.2.2))
   else some (.inl (0,gT.2.2,(eu z2.2.2.2.2.2.1 (Cx z2 (z2.1,false))),gT.2.1)))
  else some (.inl (0,(z2.2.2.1.1,z2.2.2.2.1,z2.2.2.1.2.1,z2.2.2.2.2.1,z2.2.2.1.2.2),(eu z2.2.2.2.2.2.1 (Cx z2 (z2.1,false))),z2.2.2.2.2.2.2.1))
 |.inr lZ=>bif !(decide (lZ.2.2.1=0)) then some (.inr (lZ.2.2.1,lZ.2.2.2))
  else(B4 k lZ.1).bind fun oA=>
  bif !oA.2 then ((iU k a0).bind fun oB=>
   none)
  else(BU k a0 oA.1).bind fun l0=>
  bif !l0 then ((iU k a0).bind fun LA=>
   none)
  else none
def Ee (k:Nat)(a0:Int):Option Int:=
 bif decide (a0<0) then some (-1)
 else bif decide (a0≥24) then some (-1)
 else bif zD a0 24 then some (List.getD [(-1),6,1,2,2,2,1,1,2,0,2,2,2,0,0,0,1,5,4,1,1,1,1,1] a0.toNat 0)
 else none
abbrev UN:Type:=Int→Int→zE→Option (Int⊕Bool)
def yAg (k:Nat)(rec:UN)(s3 s4:Int)(b0:zE):Option (Int⊕Bool):=
 bif decide (s4 < 6) then (bif decide (s4 = 0) then (bif !(decide (b0.2.1=0)) then some (.inr false)
   else rec s3 (zA (s4+1)) b0)
  else bif decide (s4 = 1) then (bif !(decide (b0.2.2.1=0)) then some (.inr false)
   else rec s3 (zA (s4+1)) b0)
  else bif decide (s4 = 2) then (bif !(decide (b0.2.2.2.1=0)) then some (.inr false)
   else rec s3 (zA (s4+1)) b0)
  else bif decide (s4 = 3) then (bif !(decide (b0.2.2.2.2.1=0)) then some (.inr false)
   else rec s3 (zA (s4+1)) b0)
  else bif decide (s4 = 4) then (bif !(decide (b0.2.2.2.2.2.1=0)) then some (.inr false)
   else rec s3 (zA (s4+1)) b0)
  else bif decide (s4 = 5) then (bif !(decide (b0.2.2.2.2.2.2=0)) then some (.inr false)
   else rec s3 (zA (s4+1)) b0)
  else none)
 else some (.inl s3)
def FE (k:Nat):Nat→UN:=vK (fun _ _ _=>none) (yAg k)
def JP (k:Nat)(a0:zE):Option Bool:=
 (Ee k a0.1).bind fun x0=>
 (FE k k x0 (vR false x0 0) a0).bind fun z=>
 match z with
 |.inl z1=>some (decide (z1≥0))
 |.inr z2=>some z2
abbrev UR:Type:=AC×Int×AC
abbrev UP:Type:=AC→Int→Int→AC→Option UR
def JR (k:Nat)(rec:UP)(s0:AC)(s4 s5:Int)(r0:AC):Option UR:=
 bif decide (s5 ≥ 0) then (bif zD s4 s0.length then (bif !(decide ((IntKind.wrap .u64 (s5)) < 0)) then (bif zU (r0.length+1) 1 then(rec s0 s4 (zA (s5-8)) (r0++[(IntKind.wrap .u8 ((shr .u64 (IntKind.wrap .u64 ((s0.getD s4.toNat 0))) (IntKind.wrap .u64 (s5)))))]))
    else none)
   else none)
  else none)
 else some (s0,s4,r0)
def BE (k:Nat):Nat→UP:=vK (fun _ _ _ _=>none) (JR k)
abbrev US:Type:=AC→Int→AC→Option AC
def BF (k:Nat)(rec:US)(s0:AC)(s4:Int)(r0:AC):Option AC:=
 bif decide (s4 < (s0.length : Int)) then ((BE k k s0 s4 56 r0).bind fun z=>
  rec z.1 (zA (z.2.1+1)) z.2.2)
 else some r0
def vk (k:Nat):Nat→US:=vK (fun _ _ _=>none) (BF k)
def JQ (k:Nat)(a0:AC):Option AC:=
 (vk k k a0 0 []).bind fun z1=>
 some z1
def FF (k:Nat)(a0:zE):Option AC:=
 (JP k a0).bind fun x0=>
 bif !x0 then some []
 else(Ee k a0.1).bind fun x1=>
 bif (decide (0 ≤ x1)) && (decide (x1 ≤ 6)) then ((JQ k (qS [a0.2.1,a0.2.2.1,a0.2.2.2.1,a0.2.2.2.2.1,a0.2.2.2.2.2.1,a0.2.2.2.2.2.2] 0 (x1.toNat-0))).bind fun x2=>
  bif zU (1+x2.length) 1 then some ([(IntKind.wrap .u8 (a0.1))]++x2)
  else none)
 else none
def B9 (k:Nat)(aR:iW)(cz:jP)(iZ:vC):Option (Bool×iW×jP×vC):=
 some (aR.2.2.2.2.2.2.2.2.2.2.2.2.2.2.2.2.2,aR,cz,iZ)
def GB (k:Nat)(a0 a1:Int):Option (List qF):=
 some [(a0,16,a1,0,0,0,0,0)]
def P4 (k:Nat)(a0:zE):Option AC:=
 (kQ k a0).bind fun x0=>
 bif !x0 then some []
 else(rZ k a0.1).bind fun x1=>
 bif (decide (0 ≤ x1)) && (decide (x1 ≤ 6)) then ((sd k (qS [a0.2.1,a0.2.2.1,a0.2.2.2.1,a0.2.2.2.2.1,a0.2.2.2.2.2.1,a0.2.2.2.2.2.2] 0 (x1.toNat-0))).bind fun x2=>
  bif zU (1+x2.length) 1 then some ([(IntKind.wrap .u8 (a0.1))]++x2)
  else none)
 else none
def JN (k:Nat)(a0:qF):Option AC:=
 (P4 k a0.2).bind fun x0=>
 bif decide ((x0.length:Int)=0) then some []
 else(sd k [a0.1]).bind fun x1=>
 bif zU (x1.length+x0.length) 1 then some (x1++x0)
 else none
def F7 (k:Nat)(aR:jP)(cz:vC)(a1:AC):Option (Int×jP×vC):=
 (Ej k a1).bind fun x0=>
 bif !x0.2 then some (10,aR,cz)
 else bif aR.2.2.2 then some (10,aR,cz)
 else(sK k cz aR.1 x0.1).bind fun x1=>
 bif decide (x1.1=3) then some (10,aR,x1.2)
 else bif decide (x1.1 = 0) then ((pV k x1.2).bind fun x2=>
  bif decide (x2.1=0) then some (x2.1,(aR.1,aR.2.1,(zA (aR.2.2.1+1)),aR.2.2.2),x2.2)
  else some (x2.1,aR,x2.2))
 else bif decide (x1.1=0) then some (x1.1,(aR.1,aR.2.1,(zA (aR.2.2.1+1)),aR.2.2.2),x1.2)
 else some (x1.1,aR,x1.2)
def Ke (k:Nat)(aR:iW)(cz:jP)(iZ:vC)(a1:AC):Option (Int×iW×jP×vC):=
 (F7 k cz iZ a1).bind fun x0=>
 bif !(decide (x0.1=10)) then some (x0.1,aR,x0.2.1,x0.2.2)
 else(ft k (oc aR)).bind fun x1=>
 (pW k x0.2.1 x0.2.2 x1).bind fun x2=>
 bif !(decide (x2.1=0)) then some (x2.1,aR,x2.2.1,x2.2.2)
 else(F7 k x2.2.1 x2.2.2 a1).bind fun x3=>
 some (x3.1,aR,x3.2.1,x3.2.2)
def Kf (k:Nat)(aR:jP)(cz:vC):Option (Int×jP×vC):=
 some (aR.2.2.1,aR,cz)
def B8 (k:Nat)(aR:iW)(cz:jP)(iZ:vC)(a1:Int)(a2:AC):Option ((List qF)×iW×jP×vC):=
 (B9 k aR cz iZ).bind fun x0=>
 bif x0.1 then some ([],x0.2.1,x0.2.2.1,x0.2.2.2)
 else(pC k a2).bind fun x1=>
 bif !(decide (x1.2 = 0)) then ((GB k a1 x1.2).bind fun x2=>
  some (x2,x0.2.1,x0.2.2.1,x0.2.2.2))
 else(eZ k (vT x0.2.1) (oc x0.2.1) (a1,x1.1)).bind fun x3=>
 bif !(decide (x3.2.2 = 0)) then ((GB k a1 x3.2.2).bind fun x4=>
  some (x4,x0.2.1,x0.2.2.1,x0.2.2.2))
 else bif decide (x1.1.1=9) then some (x3.2.1,x0.2.1,x0.2.2.1,x0.2.2.2)
 else(JN k (a1,x1.1)).bind fun x5=>
 (Ke k x0.2.1 x0.2.2.1 x0.2.2.2 x5).bind fun x6=>
 bif decide (x6.1 = 0) then ((Kf k x6.2.2.1 x6.2.2.2).bind fun x7=>
  bif decide (x7.1 ≥ x6.2.1.2.2.2.2.2.2.2.2.2.2.2.2.2.2.2.2.1) then ((ft k x3.1).bind fun x8=>
   (pW k x7.2.1 x7.2.2 x8).bind fun x9=>
   bif decide (x9.1=11) then some (x3.2.1,(pZ x6.2.1 (jN x3.1 (x6.2.1.2.2.2.2.2.2.2.2.2.2.2.2.2.2.2.2.1,true))),x9.2.1,x9.2.2)
   else some (x3.2.1,(pZ x6.2.1 (jN x3.1 x6.2.1.2.2.2.2.2.2.2.2.2.2.2.2.2.2.2.2)),x9.2.1,x9.2.2))
  else some (x3.2.1,(pZ x6.2.1 (jN x3.1 x6.2.1.2.2.2.2.2.2.2.2.2.2.2.2.2.2.2.2)),x7.2.1,x7.2.2))
 else bif decide (x6.1 = 10) then ((GB k a1 10).bind fun cn=>
  some (cn,x6.2.1,x6.2.2.1,x6.2.2.2))
 else some ([],(VC x6.2.1 true),x6.2.2.1,x6.2.2.2)
def vz (k:Nat)(aR:iW)(cz:jP)(iZ:vC):Option (vV×iW×jP×vC):=
 some ((oc aR),aR,cz,iZ)
def Gh (k:Nat)(a0:vC)(a1:vF):Option vC:=
 some (pZ a0 (a1.1,a1.2,true,a0.2.2.2.2.2.2.2.2))
abbrev U3:Type:=AC→AC→Int→Option (Unit⊕Bool)
def zj (k:Nat)(rec:U3)(s0 s1:AC)(s5:Int):Option (Unit⊕Bool):=
 bif decide (s5 < (s0.length : Int)) then (bif zD s5 s0.length then (bif zD s5 s1.length then (bif !(decide ((s0.getD s5.toNat 0)=(s1.getD s5.toNat 0))) then some (.inr false)
    else rec s0 s1 (zA (s5+1)))
   else none)
  else none)
 else some (.inl ())
def EE (k:Nat):Nat→U3
 |0,_,_,_=>none
 |n+1,s0,s1,s5=>zj k (EE k n) s0 s1 s5
def pF (k:Nat)(a0 a1:AC):Option Bool:=
 bif !(decide ((a0.length:Int)=(a1.length:Int))) then some false
 else(EE k k a0 a1 0).bind fun z=>
 match z with
 |.inl z1=>some true
 |.inr z2=>some z2
abbrev U6:Type:=EQ→EQ→Int→Option (Unit⊕Bool)
def zk (k:Nat)(rec:U6)(s0 s1:EQ)(s5:Int):Option (Unit⊕Bool):=
 bif decide (s5 < (s0.length : Int)) then (bif zD s5 s0.length then (bif zD s5 s1.length then ((pF k (s0.getD s5.toNat []) (s1.getD s5.toNat [])).bind fun x0=>
    bif !x0 then some (.inr false)
    else rec s0 s1 (zA (s5+1)))
   else none)
  else none)
 else some (.inl ())
def EF (k:Nat):Nat→U6
 |0,_,_,_=>none
 |n+1,s0,s1,s5=>zk k (EF k n) s0 s1 s5
def uG (k:Nat)(a0 a1:EQ):Option Bool:=
 bif !(decide ((a0.length:Int)=(a1.length:Int))) then some false
 else(EF k k a0 a1 0).bind fun z=>
 match z with
 |.inl z1=>some true
 |.inr z2=>some z2
abbrev U9:Type:=Int→List zM→EQ→AC→EQ→List zM→EQ→AC→EQ→Option (Unit⊕Bool)
def zl (k:Nat)(rec:U9)(s5:Int)(aa:List zM)(af:EQ)(ag:AC)(ae:EQ)(aq:List zM)(ay:EQ)(az:AC)(aD:EQ):Option (Unit⊕Bool):=
 bif decide (s5 < (aa.length : Int)) then (bif zD s5 aa.length then (bif zD s5 aq.length then (bif !((decide ((aa.getD s5.toNat (0,0,0)).1=(aq.getD s5.toNat (0,0,0)).1))&&((decide ((aa.getD s5.toNat (0,0,0)).2.1=(aq.getD s5.toNat (0,0,0)).2.1))&&(decide ((aa.getD s5.toNat (0,0,0)).2.2=(aq.getD s5.toNat (0,0,0)).2.2)))) then some (.inr false)
    else rec (zA (s5+1)) aa af ag ae aq ay az aD)
   else none)
  else none)
 else some (.inl ())
def EH (k:Nat):Nat→U9
 |0,_,_,_,_,_,_,_,_,_=>none
 |n+1,s5,aa,af,ag,ae,aq,ay,az,aD=>zl k (EH k n) s5 aa af ag ae aq ay az aD
def EG (k:Nat)(aX:List zM)(bB:EQ)(bA:AC)(bp:EQ)(gO:List zM)(qe:EQ)(qg:AC)(qh:EQ):Option Bool:=
 bif !(decide ((aX.length:Int)=(gO.length:Int))) then some false
 else(uG k bB qe).bind fun x0=>
 bif !x0 then some false
 else(uG k bp qh).bind fun x1=>
 bif !x1 then some false
 else(pF k bA qg).bind fun x2=>
 bif !x2 then some false
 else(EH k k 0 aX bB bA bp gO qe qg qh).bind fun z=>
 match z with
 |.inl z1=>some true
 |.inr z2=>some z2
abbrev Vb:Type:=List zE→List zE→Int→Option (Unit⊕Bool)
def BX (k:Nat)(rec:Vb)(s0 s1:List zE)(s5:Int):Option (Unit⊕Bool):=
 bif decide (s5 < (s0.length : Int)) then (bif zD s5 s0.length then (bif zD s5 s1.length then (bif !((decide ((s0.getD s5.toNat (0,0,0,0,0,0,0)).1=(s1.getD s5.toNat (0,0,0,0,0,0,0)).1))&&((decide ((s0.getD s5.toNat (0,0,0,0,0,0,0)).2.1=(s1.getD s5.toNat (0,0,0,0,0,0,0)).2.1))&&((decide ((s0.getD s5.toNat (0,0,0,0,0,0,0)).2.2.1=(s1.getD s5.toNat (0,0,0,0,0,0,0)).2.2.1))&&((decide ((s0.getD s5.toNat (0,0,0,0,0,0,0)).2.2.2.1=(s1.getD s5.toNat (0,0,0,0,0,0,0)).2.2.2.1))&&((decide ((s0.getD s5.toNat (0,0,0,0,0,0,0)).2.2.2.2.1=(s1.getD s5.toNat (0,0,0,0,0,0,0)).2.2.2.2.1))&&((decide ((s0.getD s5.toNat (0,0,0,0,0,0,0)).2.2.2.2.2.1=(s1.getD s5.toNat (0,0,0,0,0,0,0)).2.2.2.2.2.1))&&(decide ((s0.getD s5.toNat (0,0,0,0,0,0,0)).2.2.2.2.2.2=(s1.getD s5.toNat (0,0,0,0,0,0,0)).2.2.2.2.2.2)))))))) then some (.inr false)
    else rec s0 s1 (zA (s5+1)))
   else none)
  else none)
 else some (.inl ())
def F2 (k:Nat):Nat→Vb
 |0,_,_,_=>none
 |n+1,s0,s1,s5=>BX k (F2 k n) s0 s1 s5
def F1 (k:Nat)(a0 a1:List zE):Option Bool:=
 bif !(decide ((a0.length:Int)=(a1.length:Int))) then some false
 else(F2 k k a0 a1 0).bind fun z=>
 match z with
 |.inl z1=>some true
 |.inr z2=>some z2
def F3 (k:Nat)(a0 a1:vV):Option Bool:=
 bif decide (a0.1 = a1.1) then (bif decide (a0.2.2.2.2.2.2.2.2.2.1 = a1.2.2.2.2.2.2.2.2.2.1) then (bif kh a0.2.2.2.2.2.2.2.2.2.2 a1.2.2.2.2.2.2.2.2.2.2 then ((EG k a0.2.1 a0.2.2.1 a0.2.2.2.1 a0.2.2.2.2.1 a1.2.1 a1.2.2.1 a1.2.2.2.1 a1.2.2.2.2.1).bind fun x0=>
    bif x0 then ((pF k a0.2.2.2.2.2.1 a1.2.2.2.2.2.1).bind fun x1=>
     bif x1 then ((uG k a0.2.2.2.2.2.2.1 a1.2.2.2.2.2.2.1).bind fun x2=>
      bif x2 then ((F1 k a0.2.2.2.2.2.2.2.1 a1.2.2.2.2.2.2.2.1).bind fun x3=>
       bif x3 then ((pF k a0.2.2.2.2.2.2.2.2.1 a1.2.2.2.2.2.2.2.2.1).bind fun x4=>
        some x4)
       else some false)
      else some false)
     else some false)
    else some false)
   else some false)
  else some false)
 else some false
def kS (k:Nat)(a0:vC):Option vC:=
 bif (decide (0 ≤ a0.2.2.1)) && (decide (a0.2.2.1 ≤ (a0.2.1.length : Int))) then (bif (decide (0≤a0.2.2.2.2.1))&&(decide (a0.2.2.2.2.1≤(a0.2.2.2.1.length:Int))) then some (a0.1,(List.take (a0.2.2.1.toNat-0) a0.2.1),a0.2.2.1,(List.take (a0.2.2.2.2.1.toNat-0) a0.2.2.2.1),a0.2.2.2.2.1,a0.2.2.2.2.2.1,a0.2.2.2.2.2.2.1,false,false,0)
  else none)
 else none
abbrev Vg:Type:=Int×Int×Int×Int×Int×Int×Int×Int×Int×Int×Int×Int×Int×Int
abbrev Ve:Type:=AC→Int→Int→Int→Int→Int→Int→Int→Int→Int→Int→Int→Int→Int→Int→Int→Option Vg
def yFw (k:Nat)(rec:Ve)(s1:AC)(s6 aa af ag ae aU bb bc aq ay az aD aN aO aP:Int):Option Vg:=
 bif decide (s6 < (s1.length : Int)) then (bif decide (s6 < 6) then (bif zD s6 s1.length then (bif decide (s6=0) then(rec s1 (zA (s6+1)) aa af ag ae aU bb bc aq (s1.getD s6.toNat 0) az aD aN aO aP)
    else bif decide (s6=1) then(rec s1 (zA (s6+1)) aa af ag ae aU bb bc aq ay (s1.getD s6.toNat 0) aD aN aO aP)
    else bif decide (s6=2) then(rec s1 (zA (s6+1)) aa af ag ae aU bb bc aq ay az (s1.getD s6.toNat 0) aN aO aP)
    else bif decide (s6=3) then(rec s1 (zA (s6+1)) aa af ag ae aU bb bc aq ay az aD (s1.getD s6.toNat 0) aO aP)
    else bif decide (s6=4) then(rec s1 (zA (s6+1)) aa af ag ae aU bb bc aq ay az aD aN (s1.getD s6.toNat 0) aP)
    else bif decide (s6=5) then(rec s1 (zA (s6+1)) aa af ag ae aU bb bc aq ay az aD aN aO (s1.getD s6.toNat 0))
    else none)
   else none)
  else some (aa,af,ag,ae,aU,bb,bc,aq,ay,az,aD,aN,aO,aP))
 else some (aa,af,ag,ae,aU,bb,bc,aq,ay,az,aD,aN,aO,aP)
def Le (k:Nat):Nat→Ve
 |0,_,_,_,_,_,_,_,_,_,_,_,_,_,_,_,_=>none
 |n+1,s1,s6,aa,af,ag,ae,aU,bb,bc,aq,ay,az,aD,aN,aO,aP=>yFw k (Le k n) s1 s6 aa af ag ae aU bb bc aq ay az aD aN aO aP
def yGt (k:Nat)(a0:Int)(a1:AC):Option zE:=
 (Le k k a1 0 0 0 0 0 0 0 0 a0 0 0 0 0 0 0).bind fun z=>
 some (z.2.2.2.2.2.2.2.1,z.2.2.2.2.2.2.2.2.1,z.2.2.2.2.2.2.2.2.2.1,z.2.2.2.2.2.2.2.2.2.2.1,z.2.2.2.2.2.2.2.2.2.2.2.1,z.2.2.2.2.2.2.2.2.2.2.2.2.1,z.2.2.2.2.2.2.2.2.2.2.2.2.2)
def GC (k:Nat)(a0 a1:Int)(a2:AC):Option qF:=
 (yGt k a1 a2).bind fun x0=>
 some (a0,x0)
def GD (k:Nat)(a0:qF):Option Cw:=
 (FF k a0.2).bind fun x0=>
 some (1,a0.1,x0,0,0)
def yAr (k:Nat)(a0:qF):Option Bool:=
 some (decide (a0.2.1=16))
abbrev Vh:Type:=List qF→Int→Int→Option (Unit⊕Int)
def yFi (k:Nat)(rec:Vh)(s0:List qF)(s7 s8:Int):Option (Unit⊕Int):=
 bif decide (s8 < s7) then (bif zD s8 s0.length then ((yAr k (s0.getD s8.toNat (0,0,0,0,0,0,0,0))).bind fun x0=>
   bif x0 then some (.inr s8)
   else rec s0 s7 (zA (s8+1)))
  else none)
 else some (.inl ())
def Vj (k:Nat):Nat→Vh:=vK (fun _ _ _=>none) (yFi k)
def qRr (k:Nat)(a0:List qF):Option Int:=
 (Vj k k a0 (a0.length:Int) 0).bind fun z=>
 match z with
 |.inl z1=>some (-1)
 |.inr z2=>some z2
def yI8 (k:Nat)(a0:List qF):Option Bool:=
 (qRr k a0).bind fun x0=>
 some (decide (x0≥0))
def Vk (k:Nat)(a0:List qF):Option Bool:=
 (yI8 k a0).bind fun x0=>
 some x0
def GG (k:Nat):Option Bool:=
 some true
def yDl (k:Nat)(a1:Int)(a2:AC):Option (List qF):=
 (GG k).bind fun x0=>
 bif x0 then some []
 else(pC k a2).bind fun x1=>
 bif !(decide (x1.2 = 0)) then ((GB k a1 x1.2).bind fun x2=>
  some x2)
 else none
def Vm (k:Nat):Option vV:=
 some (0,[],[],[],[],[],[],[],[],0,false)
def qSw (k:Nat)(a1:Int):Option AC:=
 some []
def Lf (k:Nat)(a1:Int):Option (Int×AC×EQ):=
 (qSw k a1).bind fun x0=>
 (El k x0).bind fun x1=>
 bif decide ((x1.1.length:Int)=0) then some (0,[],[])
 else bif zD 0 x1.1.length then (bif decide (((x1.1.getD 0 []).length:Int)<8) then some (0,[],[])
  else bif zD 0 x1.1.length then (bif decide (8 ≤ ((x1.1.getD 0 []).length : Int)) then ((mw k (List.take 8 (x1.1.getD 0 []))).bind fun x2=>
    bif zD 0 x2.1.length then (bif decide ((x2.1.getD 0 0)<1) then some (0,[],[])
     else bif zD 0 x2.1.length then (bif decide ((x2.1.getD 0 0)>4611686018427387904) then some (0,[],[])
      else bif zD 0 x2.1.length then (bif zD 0 x1.1.length then (bif decide (8 ≤ ((x1.1.getD 0 []).length : Int)) then (bif decide (1≤(x1.1.length:Int)) then some ((x2.1.getD 0 0),(List.drop 8 (x1.1.getD 0 [])),(qS x1.1 1 (x1.1.length-1)))
         else none)
        else none)
       else none)
      else none)
     else none)
    else none)
   else none)
  else none)
 else none
def qVs (k:Nat):Option (Int×Int×AC×EQ×Bool):=
 (Lf k 0).bind fun x0=>
 bif decide (x0.1 > 0) then ((Lf k 1).bind fun x1=>
  bif decide (x1.1>x0.1) then some (x1.1,1,x1.2.1,x1.2.2,true)
  else some (x0.1,0,x0.2.1,x0.2.2,true))
 else(Lf k 1).bind fun x2=>
 bif decide (x2.1>0) then some (x2.1,1,x2.2.1,x2.2.2,true)
 else some (0,0,[],[],false)
def yK2 (k:Nat)(a1:AC):Option (AC×EQ×Int):=
 some ([],[],11)
def Lg (k:Nat)(a1:AC):Option Int:=
 some 11
abbrev Vp:Type:=Int×Bool×wA×vV
abbrev Vn:Type:=Int→Bool→Int→Int→wA→vV→EQ→Option Vp
def qU1 (k:Nat)(rec:Vn)(s2:Int)(bV:Bool)(wk mS:Int)(b0:wA)(b1:vV)(r2:EQ):Option Vp:=
 bif decide (mS < wk) then (bif zD mS r2.length then ((pT k (r2.getD mS.toNat [])).bind fun x7=>
   bif decide (x7.2 = 0) then ((eZ k b0 b1 x7.1).bind fun x8=>
    rec s2 bV wk (zA (mS+1)) b0 x8.1 r2)
   else rec s2 bV wk (zA (mS+1)) b0 b1 r2)
  else none)
 else some (s2,bV,b0,b1)
def GH (k:Nat):Nat→Vn:=vK (fun _ _ _ _ _ _ _=>none) (qU1 k)
def Vq (k:Nat)(a0:wA)(a2:Int):Option Int:=
 (kR k a0).bind fun x0=>
 bif !x0 then some 1
 else bif decide (a2<1) then some 1
 else bif decide (a2>1000) then some 1
 else(qVs k).bind fun x1=>
 (iU k a0).bind fun x2=>
 (ft k x2).bind fun x3=>
 (yK2 k x3).bind fun x4=>
 bif !(decide (x4.2.2=0)) then some x4.2.2
 else(B4 k x4.1).bind fun x5=>
 bif !x5.2 then ((iU k a0).bind fun x6=>
  (GH k k a2 x1.2.2.2.2 (x4.2.1.length:Int) 0 a0 x6 x4.2.1).bind fun z=>
  bif z.2.1 then ((ft k z.2.2.2).bind fun x9=>
   (Lg k x9).bind fun cn=>
   bif !(decide (cn=0)) then some cn
   else none)
  else none)
 else(BU k a0 x5.1).bind fun eF=>
 bif !eF then ((iU k a0).bind fun kW=>
  (GH k k a2 x1.2.2.2.2 (x4.2.1.length:Int) 0 a0 kW x4.2.1).bind fun z1=>
  bif z1.2.1 then ((ft k z1.2.2.2).bind fun gQ=>
   (Lg k gQ).bind fun kg=>
   bif !(decide (kg=0)) then some kg
   else none)
  else none)
 else(GH k k a2 x1.2.2.2.2 (x4.2.1.length:Int) 0 a0 x5.1 x4.2.1).bind fun z2=>
 bif z2.2.1 then ((ft k z2.2.2.2).bind fun iY=>
  (Lg k iY).bind fun lY=>
  bif !(decide (lY=0)) then some lY
  else none)
 else none
abbrev Lj:Type:=(lW×lW×(List (List qF))×(List qF))⊕(lW×iW×jP×ke×AC×AC×lW×(List (List qF))×(List qF))
abbrev yp:Type:=(Int×(List Cw)×Int×Int×wA×lW×ke×AC×AC×iW×jP×lW×(List (List qF))×(List qF))⊕(Int×(List Cw)×Int×Int×wA×lW×ke×AC×AC×lW×(List (List qF))×(List qF))→Option Lj
def qS8 (k:Nat)(rec:yp)(z:(Int×(List Cw)×Int×Int×wA×lW×ke×AC×AC×iW×jP×lW×(List (List qF))×(List qF))⊕(Int×(List Cw)×Int×Int×wA×lW×ke×AC×AC×lW×(List (List qF))×(List qF))):Option Lj:=match z with
 | .inl z => bif decide (z.2.2.2.1 < z.2.2.1) then (bif zD z.2.2.2.1 z.2.1.length then (bif decide ((z.2.1.getD z.2.2.2.1.toNat (0, 0, [], 0, 0)).1 = 1) then ((B8 k z.2.2.2.2.2.2.2.2.2.1 z.2.2.2.2.2.2.2.2.2.2.1 (z.2.2.2.2.2.2.1.1,z.2.2.2.2.2.2.2.1,z.2.2.2.2.2.2.1.2.1,z.2.2.2.2.2.2.2.2.1,z.2.2.2.2.2.2.1.2.2) (z.2.1.getD z.2.2.2.1.toNat (0,0,[],0,0)).2.1 (z.2.1.getD z.2.2.2.1.toNat (0,0,[],0,0)).2.2.1).bind fun x4=>
     (pC k (z.2.1.getD z.2.2.2.1.toNat (0,0,[],0,0)).2.2.1).bind fun x5=>
     bif decide (x5.2 = 0) then ((Vk k x4.1).bind fun x6=>
      bif !x6 then (bif decide ((x4.1.length : Int) > 0) then (bif zU (z.2.2.2.2.2.2.2.2.2.2.2.2.2.length + 1) 64 then (let y0:List qF:=(z.2.2.2.2.2.2.2.2.2.2.2.2.2++[((z.2.1.getD z.2.2.2.1.toNat (0,0,[],0,0)).2.1,x5.1)])
         bif zU (z.2.2.2.2.2.2.2.2.2.2.2.2.1.length + 1) 24 then (let y1:List (List qF):=(z.2.2.2.2.2.2.2.2.2.2.2.2.1++[x4.1])
          rec (.inl (z.1,z.2.1,z.2.2.1,(zA (z.2.2.2.1+1)),z.2.2.2.2.1,z.2.2.2.2.2.1,(x4.2.2.2.1,x4.2.2.2.2.2.1,x4.2.2.2.2.2.2.2),x4.2.2.2.2.1,x4.2.2.2.2.2.2.1,x4.2.1,x4.2.2.1,z.2.2.2.2.2.2.2.2.2.2.2.1,y1,y0)))
         else none)
        else none)
       else(B9 k x4.2.1 x4.2.2.1 x4.2.2.2).bind fun x7=>
       bif !x7.1 then (bif zU (z.2.2.2.2.2.2.2.2.2.2.2.2.2.length + 1) 64 then (let y2:List qF:=(z.2.2.2.2.2.2.2.2.2.2.2.2.2++[((z.2.1.getD z.2.2.2.1.toNat (0,0,[],0,0)).2.1,x5.1)])
         bif zU (z.2.2.2.2.2.2.2.2.2.2.2.2.1.length + 1) 24 then (let y3:List (List qF):=(z.2.2.2.2.2.2.2.2.2.2.2.2.1++[x4.1])
          rec (.inl (z.1,z.2.1,z.2.2.1,(zA (z.2.2.2.1+1)),z.2.2.2.2.1,z.2.2.2.2.2.1,(x7.2.2.2.1,x7.2.2.2.2.2.1,x7.2.2.2.2.2.2.2),x7.2.2.2.2.1,x7.2.2.2.2.2.2.1,x7.2.1,x7.2.2.1,z.2.2.2.2.2.2.2.2.2.2.2.1,y3,y2)))
         else none)
        else none)
       else bif zU (z.2.2.2.2.2.2.2.2.2.2.2.2.1.length + 1) 24 then (let y4:List (List qF):=(z.2.2.2.2.2.2.2.2.2.2.2.2.1++[x4.1])
        rec (.inl (z.1,z.2.1,z.2.2.1,(zA (z.2.2.2.1+1)),z.2.2.2.2.1,z.2.2.2.2.2.1,(x7.2.2.2.1,x7.2.2.2.2.2.1,x7.2.2.2.2.2.2.2),x7.2.2.2.2.1,x7.2.2.2.2.2.2.1,x7.2.1,x7.2.2.1,z.2.2.2.2.2.2.2.2.2.2.2.1,y4,z.2.2.2.2.2.2.2.2.2.2.2.2.2)))
       else none)
      else bif zU (z.2.2.2.2.2.2.2.2.2.2.2.2.1.length + 1) 24 then (let y5:List (List qF):=(z.2.2.2.2.2.2.2.2.2.2.2.2.1++[x4.1])
       rec (.inl (z.1,z.2.1,z.2.2.1,(zA (z.2.2.2.1+1)),z.2.2.2.2.1,z.2.2.2.2.2.1,(x4.2.2.2.1,x4.2.2.2.2.2.1,x4.2.2.2.2.2.2.2),x4.2.2.2.2.1,x4.2.2.2.2.2.2.1,x4.2.1,x4.2.2.1,z.2.2.2.2.2.2.2.2.2.2.2.1,y5,z.2.2.2.2.2.2.2.2.2.2.2.2.2)))
      else none)
     else bif zU (z.2.2.2.2.2.2.2.2.2.2.2.2.1.length + 1) 24 then (let y6:List (List qF):=(z.2.2.2.2.2.2.2.2.2.2.2.2.1++[x4.1])
      rec (.inl (z.1,z.2.1,z.2.2.1,(zA (z.2.2.2.1+1)),z.2.2.2.2.1,z.2.2.2.2.2.1,(x4.2.2.2.1,x4.2.2.2.2.2.1,x4.2.2.2.2.2.2.2),x4.2.2.2.2.1,x4.2.2.2.2.2.2.1,x4.2.1,x4.2.2.1,z.2.2.2.2.2.2.2.2.2.2.2.1,y6,z.2.2.2.2.2.2.2.2.2.2.2.2.2)))
     else none)
    else bif decide ((z.2.1.getD z.2.2.2.1.toNat (0, 0, [], 0, 0)).1 = 2) then ((Gh k (z.2.2.2.2.2.2.1.1,z.2.2.2.2.2.2.2.1,z.2.2.2.2.2.2.1.2.1,z.2.2.2.2.2.2.2.2.1,z.2.2.2.2.2.2.1.2.2) (z.2.1.getD z.2.2.2.1.toNat (0,0,[],0,0)).2.2.2).bind fun x8=>
     bif zU (z.2.2.2.2.2.2.2.2.2.2.2.2.1.length + 1) 24 then (let y7:List (List qF):=(z.2.2.2.2.2.2.2.2.2.2.2.2.1++[[]])
      rec (.inl (z.1,z.2.1,z.2.2.1,(zA (z.2.2.2.1+1)),z.2.2.2.2.1,z.2.2.2.2.2.1,(x8.1,x8.2.2.1,x8.2.2.2.2),x8.2.1,x8.2.2.2.1,z.2.2.2.2.2.2.2.2.2.1,z.2.2.2.2.2.2.2.2.2.2.1,z.2.2.2.2.2.2.2.2.2.2.2.1,y7,z.2.2.2.2.2.2.2.2.2.2.2.2.2)))
     else none)
    else bif decide ((z.2.1.getD z.2.2.2.1.toNat (0, 0, [], 0, 0)).1 = 3) then ((kS k (z.2.2.2.2.2.2.1.1,z.2.2.2.2.2.2.2.1,z.2.2.2.2.2.2.1.2.1,z.2.2.2.2.2.2.2.2.1,z.2.2.2.2.2.2.1.2.2)).bind fun x9=>
     (fy k z.2.2.2.2.1 x9 z.1).bind fun cn=>
     match cn with
     | .inl eF => bif zU (z.2.2.2.2.2.2.2.2.2.2.2.2.1.length + 1) 24 then (let y8:List (List qF):=(z.2.2.2.2.2.2.2.2.2.2.2.2.1++[[]])
       rec (.inl (z.1,z.2.1,z.2.2.1,(zA (z.2.2.2.1+1)),z.2.2.2.2.1,z.2.2.2.2.2.1,(eF.2.1.1,eF.2.1.2.2.1,eF.2.1.2.2.2.2),eF.2.1.2.1,eF.2.1.2.2.2.1,eF.2.2.1,eF.2.2.2,z.2.2.2.2.2.2.2.2.2.2.2.1,y8,z.2.2.2.2.2.2.2.2.2.2.2.2.2)))
      else none
     | .inr kW => bif zU (z.2.2.2.2.2.2.2.2.2.2.2.2.1.length + 1) 24 then (let y9:List (List qF):=(z.2.2.2.2.2.2.2.2.2.2.2.2.1++[[]])
       rec (.inr (z.1,z.2.1,z.2.2.1,(zA (z.2.2.2.1+1)),z.2.2.2.2.1,z.2.2.2.2.2.1,(kW.2.1,kW.2.2.2.1,kW.2.2.2.2.2),kW.2.2.1,kW.2.2.2.2.1,z.2.2.2.2.2.2.2.2.2.2.2.1,y9,z.2.2.2.2.2.2.2.2.2.2.2.2.2)))
      else none)
    else bif zU (z.2.2.2.2.2.2.2.2.2.2.2.2.1.length + 1) 24 then (let y10:List (List qF):=(z.2.2.2.2.2.2.2.2.2.2.2.2.1++[[]])
     rec (.inl (z.1,z.2.1,z.2.2.1,(zA (z.2.2.2.1+1)),(yWx z (y10,z.2.2.2.2.2.2.2.2.2.2.2.2.2)))))
    else none)
   else none)
  else some (.inr (z.2.2.2.2.2.1,z.2.2.2.2.2.2.2.2.2.1,z.2.2.2.2.2.2.2.2.2.2.1,z.2.2.2.2.2.2.1,z.2.2.2.2.2.2.2.1,z.2.2.2.2.2.2.2.2.1,z.2.2.2.2.2.2.2.2.2.2.2.1,z.2.2.2.2.2.2.2.2.2.2.2.2.1,z.2.2.2.2.2.2.2.2.2.2.2.2.2))
 | .inr z1 => bif decide (z1.2.2.2.1 < z1.2.2.1) then (bif zD z1.2.2.2.1 z1.2.1.length then (bif decide ((z1.2.1.getD z1.2.2.2.1.toNat (0, 0, [], 0, 0)).1 = 1) then ((yDl k (z1.2.1.getD z1.2.2.2.1.toNat (0,0,[],0,0)).2.1 (z1.2.1.getD z1.2.2.2.1.toNat (0,0,[],0,0)).2.2.1).bind fun gQ=>
     (pC k (z1.2.1.getD z1.2.2.2.1.toNat (0,0,[],0,0)).2.2.1).bind fun kg=>
     bif decide (kg.2 = 0) then ((Vk k gQ).bind fun iY=>
      bif !iY then (bif decide ((gQ.length : Int) > 0) then (bif zU (z1.2.2.2.2.2.2.2.2.2.2.2.length + 1) 64 then (let y11:List qF:=(z1.2.2.2.2.2.2.2.2.2.2.2++[((z1.2.1.getD z1.2.2.2.1.toNat (0,0,[],0,0)).2.1,kg.1)])
         bif zU (z1.2.2.2.2.2.2.2.2.2.2.1.length + 1) 24 then (let y12:List (List qF):=(z1.2.2.2.2.2.2.2.2.2.2.1++[gQ])
          rec (.inr (z1.1,z1.2.1,z1.2.2.1,(zA (z1.2.2.2.1+1)),(Cy z1 (y12,y11)))))
         else none)
        else none)
       else(GG k).bind fun lY=>
       bif !lY then (bif zU (z1.2.2.2.2.2.2.2.2.2.2.2.length + 1) 64 then (let y13:List qF:=(z1.2.2.2.2.2.2.2.2.2.2.2++[((z1.2.1.getD z1.2.2.2.1.toNat (0,0,[],0,0)).2.1,kg.1)])
         bif zU (z1.2.2.2.2.2.2.2.2.2.2.1.length + 1) 24 then (let y14:List (List qF):=(z1.2.2.2.2.2.2.2.2.2.2.1++[gQ])
          rec (.inr (z1.1,z1.2.1,z1.2.2.1,(zA (z1.2.2.2.1+1)),(Cy z1 (y14,y13)))))
         else none)
        else none)
       else bif zU (z1.2.2.2.2.2.2.2.2.2.2.1.length + 1) 24 then (let y15:List (List qF):=(z1.2.2.2.2.2.2.2.2.2.2.1++[gQ])
        rec (.inr (z1.1,z1.2.1,z1.2.2.1,(zA (z1.2.2.2.1+1)),(Cy z1 (y15,z1.2.2.2.2.2.2.2.2.2.2.2)))))
       else none)
      else bif zU (z1.2.2.2.2.2.2.2.2.2.2.1.length + 1) 24 then (let y16:List (List qF):=(z1.2.2.2.2.2.2.2.2.2.2.1++[gQ])
       rec (.inr (z1.1,z1.2.1,z1.2.2.1,(zA (z1.2.2.2.1+1)),(Cy z1 (y16,z1.2.2.2.2.2.2.2.2.2.2.2)))))
      else none)
     else bif zU (z1.2.2.2.2.2.2.2.2.2.2.1.length + 1) 24 then (let y17:List (List qF):=(z1.2.2.2.2.2.2.2.2.2.2.1++[gQ])
      rec (.inr (z1.1,z1.2.1,z1.2.2.1,(zA (z1.2.2.2.1+1)),(Cy z1 (y17,z1.2.2.2.2.2.2.2.2.2.2.2)))))
     else none)
    else bif decide ((z1.2.1.getD z1.2.2.2.1.toNat (0, 0, [], 0, 0)).1 = 2) then ((Gh k (z1.2.2.2.2.2.2.1.1,z1.2.2.2.2.2.2.2.1,z1.2.2.2.2.2.2.1.2.1,z1.2.2.2.2.2.2.2.2.1,z1.2.2.2.2.2.2.1.2.2) (z1.2.1.getD z1.2.2.2.1.toNat (0,0,[],0,0)).2.2.2).bind fun gT=>
     bif zU (z1.2.2.2.2.2.2.2.2.2.2.1.length + 1) 24 then (let y18:List (List qF):=(z1.2.2.2.2.2.2.2.2.2.2.1++[[]])
      rec (.inr (z1.1,z1.2.1,z1.2.2.1,(zA (z1.2.2.2.1+1)),z1.2.2.2.2.1,z1.2.2.2.2.2.1,(gT.1,gT.2.2.1,gT.2.2.2.2),gT.2.1,gT.2.2.2.1,z1.2.2.2.2.2.2.2.2.2.1,y18,z1.2.2.2.2.2.2.2.2.2.2.2)))
     else none)
    else bif decide ((z1.2.1.getD z1.2.2.2.1.toNat (0, 0, [], 0, 0)).1 = 3) then ((kS k (z1.2.2.2.2.2.2.1.1,z1.2.2.2.2.2.2.2.1,z1.2.2.2.2.2.2.1.2.1,z1.2.2.2.2.2.2.2.2.1,z1.2.2.2.2.2.2.1.2.2)).bind fun lZ=>
     (fy k z1.2.2.2.2.1 lZ z1.1).bind fun oA=>
     match oA with
     | .inl oB => bif zU (z1.2.2.2.2.2.2.2.2.2.2.1.length + 1) 24 then (let y19:List (List qF):=(z1.2.2.2.2.2.2.2.2.2.2.1++[[]])
       rec (.inl (z1.1,z1.2.1,z1.2.2.1,(zA (z1.2.2.2.1+1)),z1.2.2.2.2.1,z1.2.2.2.2.2.1,(oB.2.1.1,oB.2.1.2.2.1,oB.2.1.2.2.2.2),oB.2.1.2.1,oB.2.1.2.2.2.1,oB.2.2.1,oB.2.2.2,z1.2.2.2.2.2.2.2.2.2.1,y19,z1.2.2.2.2.2.2.2.2.2.2.2)))
      else none
     | .inr l0 => bif zU (z1.2.2.2.2.2.2.2.2.2.2.1.length + 1) 24 then (let y20:List (List qF):=(z1.2.2.2.2.2.2.2.2.2.2.1++[[]])
       rec (.inr (z1.1,z1.2.1,z1.2.2.1,(zA (z1.2.2.2.1+1)),z1.2.2.2.2.1,z1.2.2.2.2.2.1,(l0.2.1,l0.2.2.2.1,l0.2.2.2.2.2),l0.2.2.1,l0.2.2.2.2.1,z1.2.2.2.2.2.2.2.2.2.1,y20,z1.2.2.2.2.2.2.2.2.2.2.2)))
      else none)
    else bif zU (z1.2.2.2.2.2.2.2.2.2.2.1.length + 1) 24 then (let y21:List (List qF):=(z1.2.2.2.2.2.2.2.2.2.2.1++[[]])
     rec (.inr (z1.1,z1.2.1,z1.2.2.1,(zA (z1.2.2.2.1+1)),(Cy z1 (y21,z1.2.2.2.2.2.2.2.2.2.2.2)))))
    else none)
   else none)
  else some (.inl (z1.2.2.2.2.2.1,z1.2.2.2.2.2.2.2.2.2.1,z1.2.2.2.2.2.2.2.2.2.2.1,z1.2.2.2.2.2.2.2.2.2.2.2))
def Lk (k:Nat):Nat→yp:=vK (fun _=>none) (qS8 k)
def qXp (k:Nat)(a0:wA)(a1 a2:Int)(a3:List Cw):Option ((List (List qF))×(List qF)×Int×(List zM)×EQ×AC×EQ×AC×EQ×(List zE)×AC×Int×Bool×Bool):=
 (Ki k a1).bind fun x0=>
 match x0 with
 |.inl x1=>(fy k a0 x1 a2).bind fun x2=>
  match x2 with
  |.inl x3=>bif !(decide (x3.1=0)) then some ([],[],0,[],[],[],[],[],[],[],[],0,false,false)
   else(Lk k k (.inl (a2,a3,(a3.length:Int),0,a0,(0,0,false,false),(x3.2.1.1,x3.2.1.2.2.1,x3.2.1.2.2.2.2),x3.2.1.2.1,x3.2.1.2.2.2.1,x3.2.2.1,x3.2.2.2,(0,0,false,false),[],[]))).bind fun z2=>
   match z2 with
   |.inl z3=>(Vm k).bind fun LA=>
    (GG k).bind fun Ws=>
    some (z3.2.2.1,z3.2.2.2,(jN LA (!Ws)))
   |.inr z4=>(vz k z4.2.1 z4.2.2.1 (z4.2.2.2.1.1,z4.2.2.2.2.1,z4.2.2.2.1.2.1,z4.2.2.2.2.2.1,z4.2.2.2.1.2.2)).bind fun CD=>
    (B9 k CD.2.1 CD.2.2.1 CD.2.2.2).bind fun Wt=>
    some (z4.2.2.2.2.2.2.2.1,z4.2.2.2.2.2.2.2.2,(jN CD.1 (!Wt.1)))
  |.inr wm=>bif !(decide (wm.1=0)) then some ([],[],0,[],[],[],[],[],[],[],[],0,false,false)
   else(Lk k k (.inr (a2,a3,(a3.length:Int),0,a0,(0,0,false,false),(wm.2.1,wm.2.2.2.1,wm.2.2.2.2.2),wm.2.2.1,wm.2.2.2.2.1,(0,0,false,false),[],[]))).bind fun z5=>
   match z5 with
   |.inl z6=>(Vm k).bind fun x27=>
    (GG k).bind fun x28=>
    some (z6.2.2.1,z6.2.2.2,(jN x27 (!x28)))
   |.inr z7=>(vz k z7.2.1 z7.2.2.1 (z7.2.2.2.1.1,z7.2.2.2.2.1,z7.2.2.2.1.2.1,z7.2.2.2.2.2.1,z7.2.2.2.1.2.2)).bind fun LB=>
    (B9 k LB.2.1 LB.2.2.1 LB.2.2.2).bind fun x30=>
    some (z7.2.2.2.2.2.2.2.1,z7.2.2.2.2.2.2.2.2,(jN LB.1 (!x30.1)))
 |.inr x31=>(Vq k a0 a2).bind fun x32=>
  bif !(decide (x32=0)) then some ([],[],0,[],[],[],[],[],[],[],[],0,false,false)
  else none
def QF (k:Nat):Option Bool:=
 (Gg k 0).bind fun x0=>
 (GC k 0 1 [1,1,5,3,0,19]).bind fun x1=>
 (GD k x1).bind fun x2=>
 (GC k 1 1 [2,2,5,3,0,19]).bind fun x3=>
 (GD k x3).bind fun x4=>
 (GC k 2 1 [3,0,5,3,0,19]).bind fun x5=>
 (GD k x5).bind fun x6=>
 (GC k (-1) 13 []).bind fun x7=>
 (GD k x7).bind fun x8=>
 (qXp k x0 50000 10 [x2,x4,x6,x8]).bind fun x9=>
 bif x9.2.2.2.2.2.2.2.2.2.2.2.2.2 then (bif decide ((x9.1.length : Int) = 4) then (bif zD 3 x9.1.length then (bif decide (((x9.1.getD 3 []).length:Int)=6) then some (decide ((x9.2.2.2.2.2.2.2.2.2.1.length:Int)=0))
    else some false)
   else none)
  else some false)
 else some false
abbrev Vw:Type:=(List vF)×(Int×Int×Int×Int)×(List vF)×ke×AC×AC×iW×jP
abbrev Vv:Type:=List qF→List vF→Int→(Int×Int×Int×Int)→List vF→ke→AC→AC→iW→jP→Option Vw
def Cc (k:Nat)(rec:Vv)(s1:List qF)(s2:List vF)(bC:Int)(b0:(Int×Int×Int×Int))(r1:List vF)(b2:ke)(r3 r4:AC)(b5:iW)(b6:jP):Option Vw:=
 bif decide (bC < (s1.length : Int)) then (bif zD bC s1.length then (bif zD bC s1.length then ((FF k (s1.getD bC.toNat (0,0,0,0,0,0,0,0)).2).bind fun x5=>
    (B8 k b5 b6 (b2.1,r3,b2.2.1,r4,b2.2.2) (s1.getD bC.toNat (0,0,0,0,0,0,0,0)).1 x5).bind fun x6=>
    rec s1 s2 (zA (bC+1)) b0 r1 (x6.2.2.2.1,x6.2.2.2.2.2.1,x6.2.2.2.2.2.2.2) x6.2.2.2.2.1 x6.2.2.2.2.2.2.1 x6.2.1 x6.2.2.1)
   else none)
  else none)
 else some (s2,b0,r1,b2,r3,r4,b5,b6)
def Cb (k:Nat):Nat→Vv:=vK (fun _ _ _ _ _ _ _ _ _ _=>none) (Cc k)
abbrev Vy:Type:=((Int×Int×Int×Int)×(List vF)×ke×AC×AC×vV)⊕Bool
abbrev Vx:Type:=List vF→Int→(Int×Int×Int×Int)→List vF→ke→AC→AC→vV→Option Vy
def Ce (k:Nat)(rec:Vx)(s2:List vF)(aZ:Int)(b0:(Int×Int×Int×Int))(r1:List vF)(b2:ke)(r3 r4:AC)(b5:vV):Option Vy:=
 bif decide (aZ < (s2.length : Int)) then (bif zD aZ s2.length then ((Gh k (b2.1,r3,b2.2.1,r4,b2.2.2) (s2.getD aZ.toNat (0,0))).bind fun x8=>
   (fy k (b0.1,r1,b0.2) x8 1000).bind fun x9=>
   match x9 with
   | .inl cn => bif decide (cn.1 = 0) then ((vz k cn.2.2.1 cn.2.2.2 cn.2.1).bind fun eF=>
     (F3 k eF.1 b5).bind fun kW=>
     bif !kW then some (.inr false)
     else bif !(decide (cn.1 = 0)) then (bif !(decide (cn.1=11)) then some (.inr false)
      else(kS k eF.2.2.2).bind fun gQ=>
      rec s2 (zA (aZ+1)) b0 r1 (gQ.1,gQ.2.2.1,gQ.2.2.2.2) gQ.2.1 gQ.2.2.2.1 b5)
     else(kS k eF.2.2.2).bind fun kg=>
     rec s2 (zA (aZ+1)) b0 r1 (kg.1,kg.2.2.1,kg.2.2.2.2) kg.2.1 kg.2.2.2.1 b5)
    else bif !(decide (cn.1 = 0)) then (bif !(decide (cn.1=11)) then some (.inr false)
     else(kS k cn.2.1).bind fun iY=>
     rec s2 (zA (aZ+1)) b0 r1 (iY.1,iY.2.2.1,iY.2.2.2.2) iY.2.1 iY.2.2.2.1 b5)
    else(kS k cn.2.1).bind fun lY=>
    rec s2 (zA (aZ+1)) b0 r1 (lY.1,lY.2.2.1,lY.2.2.2.2) lY.2.1 lY.2.2.2.1 b5
   |.inr gT=>bif decide (gT.1=0) then some (.inr false)
    else bif !(decide (gT.1 = 0)) then (bif !(decide (gT.1=11)) then some (.inr false)
     else(kS k gT.2).bind fun lZ=>
     rec s2 (zA (aZ+1)) b0 r1 (lZ.1,lZ.2.2.1,lZ.2.2.2.2) lZ.2.1 lZ.2.2.2.1 b5)
    else(kS k gT.2).bind fun oA=>
    rec s2 (zA (aZ+1)) b0 r1 (oA.1,oA.2.2.1,oA.2.2.2.2) oA.2.1 oA.2.2.2.1 b5)
  else none)
 else some (.inl (b0,r1,b2,r3,r4,b5))
def Cd (k:Nat):Nat→Vx:=vK (fun _ _ _ _ _ _ _ _=>none) (Ce k)
def Kl (k:Nat)(a0:Int)(a1:List qF)(a2:List vF):Option Bool:=
 bif decide ((a1.length:Int)>40) then some true
 else bif decide ((a2.length:Int)>12) then some true
 else(Gg k a0).bind fun x0=>
 (Ki k 200000).bind fun x1=>
 match x1 with
 |.inl x2=>(fy k x0 x2 1000).bind fun x3=>
  match x3 with
  |.inl x4=>(Cb k k a1 a2 0 (x0.1,x0.2.2) x0.2.1 (x4.2.1.1,x4.2.1.2.2.1,x4.2.1.2.2.2.2) x4.2.1.2.1 x4.2.1.2.2.2.1 x4.2.2.1 x4.2.2.2).bind fun z=>
   (vz k z.2.2.2.2.2.2.1 z.2.2.2.2.2.2.2 (z.2.2.2.1.1,z.2.2.2.2.1,z.2.2.2.1.2.1,z.2.2.2.2.2.1,z.2.2.2.1.2.2)).bind fun x7=>
   (Cd k k z.1 0 z.2.1 z.2.2.1 (x7.2.2.2.1,x7.2.2.2.2.2.1,x7.2.2.2.2.2.2.2) x7.2.2.2.2.1 x7.2.2.2.2.2.2.1 x7.1).bind fun z1=>
   match z1 with
   |.inl z2=>(fy k (z2.1.1,z2.2.1,z2.1.2) (z2.2.2.1.1,z2.2.2.2.1,z2.2.2.1.2.1,z2.2.2.2.2.1,z2.2.2.1.2.2) 1000).bind fun oB=>
    match oB with
    | .inl l0 => bif decide (l0.1 = 0) then ((vz k l0.2.2.1 l0.2.2.2 l0.2.1).bind fun LA=>
      (F3 k LA.1 z2.2.2.2.2.2).bind fun Ws=>
      bif Ws then ((QF k).bind fun CD=>
       some CD)
      else some false)
     else some false
    |.inr Wt=>bif decide (Wt.1=0) then some false
     else some false
   |.inr z3=>some z3
  |.inr wm=>some false
 |.inr x27=>(Vq k x0 1000).bind fun x28=>
  some false
def yJw (k:Nat)(aX:List (Int×Int×Int))(bB:EQ)(bA:AC)(bp:EQ)(VF mQ qb wc td VG VH:Int):Option Bool:=
 bif decide (mQ ≥ 0) then (bif decide (mQ < (aX.length : Int)) then (bif decide (qb ≥ 0) then (bif decide (qb < (aX.length : Int)) then (bif !(decide (mQ = qb)) then (bif decide (wc ≥ 1) then (bif decide (wc ≤ 1099511627776) then (bif decide (td≥1) then some (decide (td≤3))
        else some false)
       else some false)
      else some false)
     else some false)
    else some false)
   else some false)
  else some false)
 else some false
abbrev yCh:Type:=(List (Int×Int×Int×Int×Int×Int×Int))⊕Bool
abbrev yA6:Type:=List (Int×Int×Int×Int×Int×Int×Int)→Int→List (Int×Int×Int)→EQ→AC→EQ→Option yCh
def EJ (k:Nat)(rec:yA6)(s1:List (Int×Int×Int×Int×Int×Int×Int))(s5:Int)(aa:List (Int×Int×Int))(af:EQ)(ag:AC)(ae:EQ):Option yCh:=
 bif decide (s5 < (s1.length : Int)) then (bif zD s5 s1.length then ((yJw k aa af ag ae (s1.getD s5.toNat (0,0,0,0,0,0,0)).1 (s1.getD s5.toNat (0,0,0,0,0,0,0)).2.1 (s1.getD s5.toNat (0,0,0,0,0,0,0)).2.2.1 (s1.getD s5.toNat (0,0,0,0,0,0,0)).2.2.2.1 (s1.getD s5.toNat (0,0,0,0,0,0,0)).2.2.2.2.1 (s1.getD s5.toNat (0,0,0,0,0,0,0)).2.2.2.2.2.1 (s1.getD s5.toNat (0,0,0,0,0,0,0)).2.2.2.2.2.2).bind fun x0=>
   bif !x0 then some (.inr false)
   else rec s1 (zA (s5+1)) aa af ag ae)
  else none)
 else some (.inl s1)
def OT (k:Nat):Nat→yA6
 |0,_,_,_,_,_,_=>none
 |n+1,s1,s5,aa,af,ag,ae=>EJ k (OT k n) s1 s5 aa af ag ae
def OR (k:Nat)(aX:List (Int×Int×Int))(bB:EQ)(bA:AC)(bp:EQ)(a1:List (Int×Int×Int×Int×Int×Int×Int)):Option Bool:=
 (OT k k a1 0 aX bB bA bp).bind fun z=>
 match z with
 |.inl z1=>some (decide ((z1.length:Int)≤64))
 |.inr z2=>some z2
abbrev qT7:Type:=EQ→Int→EQ→Option EQ
def Ey (k:Nat)(rec:qT7)(s0:EQ)(s4:Int)(m0:EQ):Option EQ:=
 bif decide (s4 < (s0.length : Int)) then (bif zD s4 s0.length then (bif zU (0 + (s0.getD s4.toNat []).length) 8 then (bif zU (m0.length+1) 24 then(rec s0 (zA (s4+1)) (m0++[(s0.getD s4.toNat [])]))
    else none)
   else none)
  else none)
 else some m0
def OH (k:Nat):Nat→qT7
 |0,_,_,_=>none
 |n+1,s0,s4,m0=>Ey k (OH k n) s0 s4 m0
def IF (k:Nat)(a0:EQ):Option EQ:=
 (OH k k a0 0 []).bind fun z=>
 some z
def OK (k:Nat)(aX:List (Int×Int×Int))(bB:EQ)(bA:AC)(bp:EQ):Option ((List (Int×Int×Int))×EQ×AC×EQ):=
 bif zU (0 + aX.length) 24 then ((IF k bB).bind fun x0=>
  bif zU (0 + bA.length) 8 then ((IF k bp).bind fun x1=>
   some (aX,x0,bA,x1))
  else none)
 else none
abbrev yEx:Type:=List (Int×Int×Int×Int×Int×Int×Int)→Int→Int→Int→Int→Option (Int×Int)
def EL (k:Nat)(rec:yEx)(s0:List (Int×Int×Int×Int×Int×Int×Int))(s1 s6 s7 s8:Int):Option (Int×Int):=
 bif decide (s8 < (s0.length : Int)) then (bif zD s8 s0.length then (bif !(decide ((s0.getD s8.toNat (0,0,0,0,0,0,0)).2.1=s1)) then(rec s0 s1 s6 s7 (zA (s8+1)))
   else bif zD s8 s0.length then (bif decide ((s0.getD s8.toNat (0, 0, 0, 0, 0, 0, 0)).2.2.2.2.1 = 3) then (bif zD s8 s0.length then(rec s0 s1 (zA (s6+(s0.getD s8.toNat (0,0,0,0,0,0,0)).2.2.2.1)) s7 (zA (s8+1)))
     else none)
    else bif zD s8 s0.length then(rec s0 s1 s6 (zA (s7+(s0.getD s8.toNat (0,0,0,0,0,0,0)).2.2.2.1)) (zA (s8+1)))
    else none)
   else none)
  else none)
 else some (s6,s7)
def O1 (k:Nat):Nat→yEx
 |0,_,_,_,_,_=>none
 |n+1,s0,s1,s6,s7,s8=>EL k (O1 k n) s0 s1 s6 s7 s8
def O0 (k:Nat)(a0:List (Int×Int×Int×Int×Int×Int×Int))(a1:Int):Option (Int×Int):=
 (O1 k k a0 a1 0 0 0).bind fun z=>
 some (z.1,z.2)
def O2 (k:Nat)(a0:List (Int×Int×Int×Int×Int×Int×Int))(a1:Int):Option Int:=
 (O0 k a0 a1).bind fun x0=>
 some x0.2
def O3 (k:Nat)(qc qd lX a1:Int):Option Int:=
 bif decide (a1≥lX) then some 0
 else some (zA (lX-a1))
abbrev yJ9:Type:=List (Int×Int×Int×Int×Int×Int×Int)→Int→Int→Int→Int→Option Int
def EK (k:Nat)(rec:yJ9)(s0:List (Int×Int×Int×Int×Int×Int×Int))(s1 s2 s7 s8:Int):Option Int:=
 bif decide (s8 < (s0.length : Int)) then (bif zD s8 s0.length then (bif decide ((s0.getD s8.toNat (0, 0, 0, 0, 0, 0, 0)).2.1 = s1) then (bif zD s8 s0.length then (bif decide ((s0.getD s8.toNat (0, 0, 0, 0, 0, 0, 0)).2.2.1 = s2) then (bif zD s8 s0.length then(rec s0 s1 s2 (zA (s7+(s0.getD s8.toNat (0,0,0,0,0,0,0)).2.2.2.1)) (zA (s8+1)))
      else none)
     else rec s0 s1 s2 s7 (zA (s8+1)))
    else none)
   else rec s0 s1 s2 s7 (zA (s8+1)))
  else none)
 else some s7
def OY (k:Nat):Nat→yJ9
 |0,_,_,_,_,_=>none
 |n+1,s0,s1,s2,s7,s8=>EK k (OY k n) s0 s1 s2 s7 s8
def IQ (k:Nat)(a0:List (Int×Int×Int×Int×Int×Int×Int))(a1 a2:Int):Option Int:=
 (OY k k a0 a1 a2 0 0).bind fun z=>
 some z
def OZ (k:Nat)(a0:List (Int×Int×Int×Int×Int×Int×Int))(a1 a2:Int):Option Int:=
 (IQ k a0 a1 a2).bind fun x0=>
 (IQ k a0 a2 a1).bind fun x1=>
 some (zA (x0-x1))
abbrev yDq:Type:=EQ→Int→Int→Option (Unit⊕Bool)
def Em (k:Nat)(rec:yDq)(s0:EQ)(s1 s5:Int):Option (Unit⊕Bool):=
 bif decide (s5 < s1) then (bif zD s5 s0.length then (bif !(decide (((s0.getD s5.toNat []).length:Int)=s1)) then some (.inr false)
   else rec s0 s1 (zA (s5+1)))
  else none)
 else some (.inl ())
def Oy (k:Nat):Nat→yDq
 |0,_,_,_=>none
 |n+1,s0,s1,s5=>Em k (Oy k n) s0 s1 s5
def Iv (k:Nat)(a0:EQ)(a1:Int):Option Bool:=
 bif !(decide ((a0.length:Int)=a1)) then some false
 else(Oy k k a0 a1 0).bind fun z=>
 match z with
 |.inl z1=>some true
 |.inr z2=>some z2
def Ov (k:Nat)(qc qd lX:Int):Option Bool:=
 bif decide (qc > (-4611686018427387904)) then (bif decide (qc < 4611686018427387904) then (bif decide (qd ≥ 0) then (bif decide (qd ≤ 2305843009213693952) then (bif decide (lX≥0) then some (decide (lX≤2305843009213693952))
     else some false)
    else some false)
   else some false)
  else some false)
 else some false
def Is (k:Nat)(a0:Int):Option Bool:=
 bif decide (a0≥(-1)) then some (decide (a0≤2305843009213693952))
 else some false
abbrev yLr:Type:=(Int×Int×(List (Int×Int×Int))×EQ×AC×EQ)⊕Bool
abbrev qY5:Type:=Int→Int→Int→List (Int×Int×Int)→EQ→AC→EQ→Option yLr
def En (k:Nat)(rec:qY5)(s3 s4 s5:Int)(aa:List (Int×Int×Int))(af:EQ)(ag:AC)(ae:EQ):Option yLr:=
 bif decide (s5 < s3) then (bif zD s4 af.length then (bif zD s5 (af.getD s4.toNat []).length then ((Is k ((af.getD s4.toNat []).getD s5.toNat 0)).bind fun x4=>
    bif !x4 then some (.inr false)
    else bif zD s4 ae.length then (bif zD s5 (ae.getD s4.toNat []).length then (bif decide (((ae.getD s4.toNat []).getD s5.toNat 0)≤(-72057594037927936)) then some (.inr false)
      else bif zD s4 ae.length then (bif zD s5 (ae.getD s4.toNat []).length then (bif decide (((ae.getD s4.toNat []).getD s5.toNat 0)≥72057594037927936) then some (.inr false)
        else bif zD s4 ae.length then (bif zD s5 (ae.getD s4.toNat []).length then (bif zD s5 ae.length then (bif zD s4 (ae.getD s5.toNat []).length then (bif !(decide (((ae.getD s4.toNat []).getD s5.toNat 0)=(zA (0-((ae.getD s5.toNat []).getD s4.toNat 0))))) then some (.inr false)
            else rec s3 s4 (zA (s5+1)) aa af ag ae)
           else none)
          else none)
         else none)
        else none)
       else none)
      else none)
     else none)
    else none)
   else none)
  else none)
 else some (.inl (s3,s4,aa,af,ag,ae))
def Iw (k:Nat):Nat→qY5
 |0,_,_,_,_,_,_,_=>none
 |n+1,s3,s4,s5,aa,af,ag,ae=>En k (Iw k n) s3 s4 s5 aa af ag ae
abbrev yK1:Type:=Int→Int→List (Int×Int×Int)→EQ→AC→EQ→Option (Unit⊕Bool)
def Eo (k:Nat)(rec:yK1)(s3 s4:Int)(aa:List (Int×Int×Int))(af:EQ)(ag:AC)(ae:EQ):Option (Unit⊕Bool):=
 bif decide (s4 < s3) then (bif zD s4 aa.length then ((Ov k (aa.getD s4.toNat (0,0,0)).1 (aa.getD s4.toNat (0,0,0)).2.1 (aa.getD s4.toNat (0,0,0)).2.2).bind fun x2=>
   bif !x2 then some (.inr false)
   else bif zD s4 ag.length then ((Is k (ag.getD s4.toNat 0)).bind fun x3=>
    bif !x3 then some (.inr false)
    else(Iw k k s3 s4 0 aa af ag ae).bind fun z=>
    match z with
    |.inl z1=>rec z1.1 (zA (z1.2.1+1)) z1.2.2.1 z1.2.2.2.1 z1.2.2.2.2.1 z1.2.2.2.2.2
    |.inr z2=>some (.inr z2))
   else none)
  else none)
 else some (.inl ())
def Ix (k:Nat):Nat→yK1
 |0,_,_,_,_,_,_=>none
 |n+1,s3,s4,aa,af,ag,ae=>Eo k (Ix k n) s3 s4 aa af ag ae
def OA (k:Nat)(aX:List (Int×Int×Int))(bB:EQ)(bA:AC)(bp:EQ):Option Bool:=
 bif decide ((aX.length:Int)<1) then some false
 else bif decide ((aX.length:Int)>6) then some false
 else(Iv k bB (aX.length:Int)).bind fun x0=>
 bif !x0 then some false
 else(Iv k bp (aX.length:Int)).bind fun x1=>
 bif !x1 then some false
 else bif !(decide ((bA.length:Int)=(aX.length:Int))) then some false
 else(Ix k k (aX.length:Int) 0 aX bB bA bp).bind fun z3=>
 match z3 with
 |.inl z4=>some true
 |.inr z5=>some z5
abbrev yI4:Type:=(List (Int×Int×Int×Int×Int×Int×Int))×Int×(List (Int×Int×Int))×EQ×AC×EQ×(List (Int×Int×Int))×EQ×AC×EQ
abbrev yBr:Type:=List (Int×Int×Int×Int×Int×Int×Int)→Int→Int→List (Int×Int×Int)→EQ→AC→EQ→List (Int×Int×Int)→EQ→AC→EQ→Option yI4
def EM (k:Nat)(rec:yBr)(s1:List (Int×Int×Int×Int×Int×Int×Int))(s7 s8:Int)(aa:List (Int×Int×Int))(af:EQ)(ag:AC)(ae:EQ)(r3:List (Int×Int×Int))(m4:EQ)(r5:AC)(m6:EQ):Option yI4:=
 bif decide (s8 < (r3.length : Int)) then ((OZ k s1 s7 s8).bind fun x4=>
  bif zD s7 r3.length then (bif zD s7 r3.length then (let y1:List (Int×Int×Int):=(r3.set s7.toNat ((zA ((r3.getD s7.toNat (0,0,0)).1-x4)),(r3.getD s7.toNat (0,0,0)).2))
    bif zD s7 m6.length then (bif zD s7 m6.length then (bif zD s8 (m6.getD s7.toNat []).length then (bif zD s8 (m6.getD s7.toNat []).length then (let y2:EQ:=(m6.set s7.toNat ((m6.getD s7.toNat []).set s8.toNat (zA (((m6.getD s7.toNat []).getD s8.toNat 0)+x4))))
        rec s1 s7 (zA (s8+1)) aa af ag ae y1 m4 r5 y2)
       else none)
      else none)
     else none)
    else none)
   else none)
  else none)
 else some (s1,s7,aa,af,ag,ae,r3,m4,r5,m6)
def IT (k:Nat):Nat→yBr
 |0,_,_,_,_,_,_,_,_,_,_,_=>none
 |n+1,s1,s7,s8,aa,af,ag,ae,r3,m4,r5,m6=>EM k (IT k n) s1 s7 s8 aa af ag ae r3 m4 r5 m6
abbrev qUb:Type:=(List (Int×Int×Int))×EQ×AC×EQ×(List (Int×Int×Int))×EQ×AC×EQ
abbrev yIv:Type:=List (Int×Int×Int×Int×Int×Int×Int)→Int→List (Int×Int×Int)→EQ→AC→EQ→List (Int×Int×Int)→EQ→AC→EQ→Option qUb
def EP (k:Nat)(rec:yIv)(s1:List (Int×Int×Int×Int×Int×Int×Int))(s7:Int)(aa:List (Int×Int×Int))(af:EQ)(ag:AC)(ae:EQ)(r3:List (Int×Int×Int))(m4:EQ)(r5:AC)(m6:EQ):Option qUb:=
 bif decide (s7 < (r3.length : Int)) then (bif zD s7 r3.length then ((O2 k s1 s7).bind fun x2=>
   (O3 k (r3.getD s7.toNat (0,0,0)).1 (r3.getD s7.toNat (0,0,0)).2.1 (r3.getD s7.toNat (0,0,0)).2.2 x2).bind fun x3=>
   bif zD s7 r3.length then (let y0:List (Int×Int×Int):=(r3.set s7.toNat ((r3.getD s7.toNat (0,0,0)).1,(r3.getD s7.toNat (0,0,0)).2.1,x3))
    (IT k k s1 s7 0 aa af ag ae y0 m4 r5 m6).bind fun z=>
    rec z.1 (zA (z.2.1+1)) z.2.2.1 z.2.2.2.1 z.2.2.2.2.1 z.2.2.2.2.2.1 z.2.2.2.2.2.2.1 z.2.2.2.2.2.2.2.1 z.2.2.2.2.2.2.2.2.1 z.2.2.2.2.2.2.2.2.2)
   else none)
  else none)
 else some (aa,af,ag,ae,r3,m4,r5,m6)
def IV (k:Nat):Nat→yIv
 |0,_,_,_,_,_,_,_,_,_,_=>none
 |n+1,s1,s7,aa,af,ag,ae,r3,m4,r5,m6=>EP k (IV k n) s1 s7 aa af ag ae r3 m4 r5 m6
def O5 (k:Nat)(aX:List (Int×Int×Int))(bB:EQ)(bA:AC)(bp:EQ)(a1:List (Int×Int×Int×Int×Int×Int×Int)):Option ((List (Int×Int×Int))×EQ×AC×EQ×Int):=
 (OR k aX bB bA bp a1).bind fun x0=>
 bif !x0 then some (aX,bB,bA,bp,1)
 else(OK k aX bB bA bp).bind fun x1=>
 (IV k k a1 0 aX bB bA bp x1.1 x1.2.1 x1.2.2.1 x1.2.2.2).bind fun z1=>
 (OA k z1.2.2.2.2.1 z1.2.2.2.2.2.1 z1.2.2.2.2.2.2.1 z1.2.2.2.2.2.2.2).bind fun x5=>
 bif !x5 then some (dy z1 8)
 else some (qWs z1 0)
end Go.Ab.Gi
