/- part 5 -/
import Derived.Test.YtpgcgnfpnjolpaaGreatGiAbD
set_option linter.unusedVariables false
set_option maxRecDepth 100000
abbrev Go.Ab.Ty.i:Go.Ab.Ty:=.int .i64
abbrev Go.Ab.CS.i:Go.Ab.CS:=.int .i64
abbrev Go.Ab.PC.i:Go.Ab.PC:=.int .i64
abbrev Go.Ab.RC.i:Go.Ab.RC:=.int .i64
namespace Go.Ab.Gi
abbrev AC:=List Int
abbrev EQ:=List AC
abbrev wZ:Go.Ab.Ty:=.pair .i .i
abbrev vJ:Type:=Int×Bool
abbrev j5:Type:=Int×Int×Bool
abbrev yP:Type:=Int×Int×Int×Int×Int×Int×Int×Int
abbrev zB:Type:=Int×Int×Int×Int×Int×Int×Int
abbrev zI:Type:=Int×Int×Int
abbrev vA:Type:=Int×Int
abbrev ym:Type:=(List zI)×EQ×AC×EQ×(List zB)×(List zB)
abbrev qY:Go.Ab.Ty:=.pair .i wZ
abbrev K9q:Type:=Bool×Int×Int×Int×Int×Int×Int×Int×Int×Int×Int×Int×Int×Int×Int×(List zI)×EQ×AC×EQ
abbrev MZ:Type:=Int×(List zI)×EQ×AC×EQ×AC×EQ×(List zB)×AC×Int×Bool×(List yP)
abbrev yN:Type:=Int×(List zI)×EQ×AC×EQ×AC×EQ×(List zB)×AC×Int×Bool
abbrev vE:Type:=Int×(List vA)×Int×Int×Int×Int×(List zI)×EQ×AC×EQ×AC×EQ×(List zB)×AC×Int×Bool×Int×(List yP)
abbrev jT:Type:=Int×(List vA)×Int×Int×Int×Int×(List zI)×EQ×AC×EQ×AC×EQ×(List zB)×AC×Int×Bool×Int
abbrev yA:Type:=Int×(List vA)×Int×Int×Int
abbrev yNr:Go.Ab.Ty:=.pair .i qY
abbrev yMd:Go.Ab.Ty:=.pair .i yNr
abbrev yOk:Go.Ab.Ty:=.pair .i yMd
abbrev zH:Go.Ab.Ty:=.pair .i yOk
abbrev vF:Go.Ab.Ty:=.pair .i zH
abbrev LG:List Go.Ab.CS:=[.dat false .i,.dat false .i,.dat false (.sl .i)]
abbrev fh:List Go.Ab.CS:=[.dat false qY,.dat false (.sl .i),.dat false .i,.dat false (.sl .i)]
abbrev wV:List Go.Ab.CS:=[.dat true qY,.dat true (.sl .i),.dat true .i,.dat true (.sl .i)]
abbrev jH:List Go.Ab.CS:=[.i,.dat false wZ,.i,.i,.i]
abbrev gx:List Go.Ab.CS:=[.i,.dat false qY,.dat false (.sl .i),.dat false .i,.dat false (.sl .i),.dat false .i,.dat false (.sl .i),.dat false zH,.dat false .i,.i,.bool]
abbrev K9:List Go.Ab.CS:=[.i,.dat true wZ,.i,.i,.i,.i,.dat true qY,.dat true (.sl .i),.dat true .i,.dat true (.sl .i),.dat true .i,.dat true (.sl .i),.dat true zH,.dat true .i,.i,.bool,.i,.lit (.osl 1001001 none)]
abbrev MT:List Go.Ab.CS:=[.i,.dat true wZ,.i,.i,.i,.i,.dat true qY,.dat true (.sl .i),.dat true .i,.dat true (.sl .i),.dat true .i,.dat true (.sl .i),.dat true zH,.dat true .i,.i,.bool,.i,.lit .nsl]
abbrev tF:List Go.Ab.CS:=[.i,.dat true qY,.dat true (.sl .i),.dat true .i,.dat true (.sl .i),.dat true .i,.dat true (.sl .i),.dat true zH,.dat true .i,.i,.bool]
abbrev fi:List Go.Ab.CS:=[.i,.i,.i,.i,.i,.i,.i]
abbrev qVh:List Go.Ab.CS:=[.i,.i,.i,.i,.i,.i,.i,.i,.i,.i,.i,.i,.i,.i,.dat true qY,.dat true (.sl .i),.dat true .i,.dat true (.sl .i)]
abbrev De:List Go.Ab.CS:=[.i,.i,.i,.i,.i,.i,.i,.i,.i,.i,.i,.i,.i,.i,.lit .nsl,.lit .nsl,.lit .nsl,.lit .nsl]
abbrev WL:List Go.Ab.CS:=[.i,.lit (.osl 1001003 none),.lit (.osl 1001004 none),.lit (.osl 1001005 none),.lit (.osl 1001006 none),.lit (.osl 1001007 none),.lit .nsl,.lit .nsl,.lit .nsl,.i,.bool]
abbrev j3:List Go.Ab.CS:=[.i,.lit .nsl,.lit .nsl,.lit .nsl,.lit .nsl,.lit .nsl,.lit .nsl,.lit .nsl,.lit .nsl,.i,.bool]
abbrev Lw:List Go.Ab.CS:=[.lit (.osl 1001002 none),.lit (.osl 1001003 none),.lit (.osl 1001004 none)]
abbrev Db:List Go.Ab.CS:=[.lit (.osl 1001003 none),.lit (.osl 1001004 none),.lit (.osl 1001005 none),.lit (.osl 1001006 none)]
abbrev X3:List Go.Ab.CS:=[.lit (.osl 1001004 none),.lit (.osl 1001005 none),.lit (.osl 1001006 none),.lit (.osl 1001007 none)]
abbrev Da:List Go.Ab.CS:=[.lit .nsl,.lit .nsl,.lit .nsl,.lit .nsl]
abbrev C6:List Go.Ab.PC:=[.dat false .i,.dat false .i,.dat false (.sl .i)]
abbrev jD:List Go.Ab.PC:=[.dat false qY,.dat false (.sl .i),.dat false .i,.dat false (.sl .i)]
abbrev m2:List Go.Ab.PC:=[.dat true qY,.dat true (.sl .i),.dat true .i,.dat true (.sl .i)]
abbrev jX:List Go.Ab.PC:=[.i,.dat false wZ,.i,.i,.i]
abbrev KO:List Go.Ab.PC:=[.i,.dat false wZ,.i,.i,.i,.i,.dat false qY,.dat false (.sl .i),.dat false .i,.dat false (.sl .i),.dat false .i,.dat false (.sl .i),.dat false zH,.dat false .i,.i,.bool,.i,.dat false vF]
abbrev fL:List Go.Ab.PC:=[.i,.dat false qY,.dat false (.sl .i),.dat false .i,.dat false (.sl .i),.dat false .i,.dat false (.sl .i),.dat false zH,.dat false .i,.i,.bool]
abbrev yf:List Go.Ab.PC:=[.i,.dat true qY,.dat true (.sl .i),.dat true .i,.dat true (.sl .i),.dat true .i,.dat true (.sl .i),.dat true zH,.dat true .i,.i,.bool]
abbrev iy:List Go.Ab.PC:=[.i,.i,.i]
abbrev yR:List Go.Ab.PC:=[.i,.i,.i,.i,.i,.i,.i]
abbrev Ks:List Go.Ab.PC:=[.i,.i,.i,.i,.i,.i,.i,.i]
abbrev px:List Go.Ab.RC:=[.fro qY,.fro (.sl .i),.fro .i,.fro (.sl .i)]
abbrev vM:List Go.Ab.RC:=[.i]
abbrev dR:List Go.Ab.RC:=[.i,.fro wZ,.i,.i,.i,.i,.fro qY,.fro (.sl .i),.fro .i,.fro (.sl .i),.fro .i,.fro (.sl .i),.fro zH,.fro .i,.i,.bool,.i,.own vF]
abbrev Dy:List Go.Ab.RC:=[.i,.fro qY,.fro (.sl .i),.fro .i,.fro (.sl .i),.fro .i,.fro (.sl .i),.fro zH,.fro .i,.i,.bool]
abbrev xX:List Go.Ab.RC:=[.i,.i,.i,.i,.i,.i,.i]
abbrev mX:List Go.Ab.XC:=[.p .i,.p (.dat true wZ),.p .i,.p .i,.p .i,.p .i,.p (.dat true qY),.p (.dat true (.sl .i)),.p (.dat true .i),.p (.dat true (.sl .i)),.p (.dat true .i),.p (.dat true (.sl .i)),.p (.dat true zH),.p (.dat true .i),.p .i,.p .bool,.p .i,.own vF]
abbrev mW:List Go.Ab.XC:=[.p .i,.p (.dat true wZ),.p .i,.p .i,.p .i,.p .i,.p (.dat true qY),.p (.dat true (.sl .i)),.p (.dat true .i),.p (.dat true (.sl .i)),.p (.dat true .i),.p (.dat true (.sl .i)),.p (.dat true zH),.p (.dat true .i),.p .i,.p .bool,.p .i,.p (.nil)]
section
variable {A B C D E F G H I J K L M N O P Q R S U V W X Z a b T Y:Type}
abbrev pv (x:A×B×C×D)(t:T):=(x.1,x.2.1,x.2.2.1,x.2.2.2,t)
abbrev gw (x:A×B×C×D×E)(t:T):=(x.1,pv x.2 t)
abbrev m3 (x:A×B×C×D×E×F)(t:T):=(x.1,gw x.2 t)
abbrev gy (x:A×B×C×D×E×F×G)(t:T):=(x.1,m3 x.2 t)
abbrev Km (x:A×B×C×D×E×F×G×H)(t:T):=(x.1,gy x.2 t)
abbrev KR (x:A×B×C×D×E×F×G×H×I)(t:T):=(x.1,Km x.2 t)
abbrev yNn (x:A×B×C×D×E×F×G×H×I×J)(t:T):=(x.1,KR x.2 t)
abbrev iz (x:A×B×C×D×E×F×G×H×I×J×K)(t:T):=(x.1,yNn x.2 t)
abbrev yg (x:A×B×C×D×E×F×G×H×I×J×K×L)(t:T):=(x.1,iz x.2 t)
abbrev yL5 (x:A×B×C×D×E×F×G×H×I×J×K×L×M)(t:T):=(x.1,yg x.2 t)
abbrev qVk (x:A×B×C×D×E×F×G×H×I×J×K×L×M×N)(t:T):=(x.1,yL5 x.2 t)
abbrev yF0 (x:A×B×C×D×E×F×G×H×I×J×K×L×M×N×O)(t:T):=(x.1,qVk x.2 t)
abbrev yCx (x:A×B×C×D×E×F×G×H×I×J×K×L×M×N×O×P)(t:T):=(x.1,yF0 x.2 t)
abbrev yB (x:A×B×C×D×E×F×G×H×I×J×K×L×M×N×O×P×Q)(t:T):=(x.1,yCx x.2 t)
abbrev wO (x:A×B×C×D×E×F×G×H×I×J×K×L×M×N×O×P×Q×R)(t:T):=(x.1,yB x.2 t)
abbrev yKt (x:A×B×C×D×E×F×G×H×I×J×K×L×M×N×O×P×Q×R×S)(t:T):=(x.1,wO x.2 t)
abbrev tA (x:A×B×C×D×E):=(x.1,x.2.1,x.2.2.1,x.2.2.2.1)
abbrev yE (x:A×B×C×D×E×F):=(x.1,tA x.2)
abbrev pz (x:A×B×C×D×E×F×G):=(x.1,yE x.2)
abbrev jF (x:A×B×C×D×E×F×G×H):=(x.1,pz x.2)
abbrev CE (x:A×B×C×D×E×F×G×H×I):=(x.1,jF x.2)
abbrev KS (x:A×B×C×D×E×F×G×H×I×J):=(x.1,CE x.2)
abbrev yIt (x:A×B×C×D×E×F×G×H×I×J×K):=(x.1,KS x.2)
abbrev vD (x:A×B×C×D×E×F×G×H×I×J×K×L):=(x.1,yIt x.2)
abbrev yh (x:A×B×C×D×E×F×G×H×I×J×K×L×M):=(x.1,vD x.2)
abbrev yQ5 (x:A×B×C×D×E×F×G×H×I×J×K×L×M×N):=(x.1,yh x.2)
abbrev qWn (x:A×B×C×D×E×F×G×H×I×J×K×L×M×N×O):=(x.1,yQ5 x.2)
abbrev yNh (x:A×B×C×D×E×F×G×H×I×J×K×L×M×N×O×P):=(x.1,qWn x.2)
abbrev yGp (x:A×B×C×D×E×F×G×H×I×J×K×L×M×N×O×P×Q):=(x.1,yNh x.2)
abbrev jU (x:A×B×C×D×E×F×G×H×I×J×K×L×M×N×O×P×Q×R):=(x.1,yGp x.2)
abbrev wY (x:A×B×C×D×E×F×G×H×I×J×K×L×M×N×O×P×Q×R×S):=(x.1,jU x.2)
abbrev yPk (x:A×B×C×D×E×F×G×H×I×J×K×L×M×N×O×P×Q×R×S×U):=(x.1,wY x.2)
abbrev vT (x:A×B×C×D×E)(t:T):=(x.1,x.2.1,x.2.2.1,x.2.2.2.1,t)
abbrev yl (x:A×B×C×D×E×F)(t:T):=(x.1,vT x.2 t)
abbrev jL (x:A×B×C×D×E×F×G)(t:T):=(x.1,yl x.2 t)
abbrev tB (x:A×B×C×D×E×F×G×H)(t:T):=(x.1,jL x.2 t)
abbrev yDa (x:A×B×C×D×E×F×G×H×I)(t:T):=(x.1,tB x.2 t)
abbrev yTm (x:A×B×C×D×E×F×G×H×I×J)(t:T):=(x.1,yDa x.2 t)
abbrev yQe (x:A×B×C×D×E×F×G×H×I×J×K)(t:T):=(x.1,yTm x.2 t)
abbrev m1 (x:A×B×C×D×E×F×G×H×I×J×K×L)(t:T):=(x.1,yQe x.2 t)
abbrev iB (x:A×B×C×D×E×F×G×H×I×J×K×L×M)(t:T):=(x.1,m1 x.2 t)
abbrev yLh (x:A×B×C×D×E×F×G×H×I×J×K×L×M×N)(t:T):=(x.1,iB x.2 t)
abbrev Md (x:A×B×C×D×E×F×G×H×I×J×K×L×M×N×O)(t:T):=(x.1,yLh x.2 t)
abbrev yRx (x:A×B×C×D×E×F×G×H×I×J×K×L×M×N×O×P)(t:T):=(x.1,Md x.2 t)
abbrev yN5 (x:A×B×C×D×E×F×G×H×I×J×K×L×M×N×O×P×Q)(t:T):=(x.1,yRx x.2 t)
abbrev qYp (x:A×B×C×D×E×F×G×H×I×J×K×L×M×N×O×P×Q×R)(t:T):=(x.1,yN5 x.2 t)
abbrev vQ (f:A→B→C→D→Y)(x:A×B×C×D×E):Y:=f x.1 x.2.1 x.2.2.1 x.2.2.2.1
abbrev j4 (f:A→B→C→D→E→Y)(x:A×B×C×D×E×F):Y:=vQ (f x.1) x.2
abbrev j0 (f:A→B→C→D→E→F→Y)(x:A×B×C×D×E×F×G):Y:=j4 (f x.1) x.2
abbrev mV (f:A→B→C→D→E→F→G→Y)(x:A×B×C×D×E×F×G×H):Y:=j0 (f x.1) x.2
abbrev jy (f:A→B→C→D→E→F→G→H→Y)(x:A×B×C×D×E×F×G×H×I):Y:=mV (f x.1) x.2
abbrev Lp (f:A→B→C→D→E→F→G→H→I→Y)(x:A×B×C×D×E×F×G×H×I×J):Y:=jy (f x.1) x.2
abbrev yIs (f:A→B→C→D→E→F→G→H→I→J→Y)(x:A×B×C×D×E×F×G×H×I×J×K):Y:=Lp (f x.1) x.2
abbrev jz (f:A→B→C→D→E→F→G→H→I→J→K→Y)(x:A×B×C×D×E×F×G×H×I×J×K×L):Y:=yIs (f x.1) x.2
abbrev Co (f:A→B→C→D→E→F→G→H→I→J→K→L→Y)(x:A×B×C×D×E×F×G×H×I×J×K×L×M):Y:=jz (f x.1) x.2
abbrev LJ (f:A→B→C→D→E→F→G→H→I→J→K→L→M→Y)(x:A×B×C×D×E×F×G×H×I×J×K×L×M×N):Y:=Co (f x.1) x.2
abbrev tx (f:A→B→C→D→E→F→G→H→I→J→K→L→M→N→Y)(x:A×B×C×D×E×F×G×H×I×J×K×L×M×N×O):Y:=LJ (f x.1) x.2
abbrev yAw (f:A→B→C→D→E→F→G→H→I→J→K→L→M→N→O→Y)(x:A×B×C×D×E×F×G×H×I×J×K×L×M×N×O×P):Y:=tx (f x.1) x.2
abbrev qSf (f:A→B→C→D→E→F→G→H→I→J→K→L→M→N→O→P→Y)(x:A×B×C×D×E×F×G×H×I×J×K×L×M×N×O×P×Q):Y:=yAw (f x.1) x.2
abbrev yL7 (f:A→B→C→D→E→F→G→H→I→J→K→L→M→N→O→P→Q→Y)(x:A×B×C×D×E×F×G×H×I×J×K×L×M×N×O×P×Q×R):Y:=qSf (f x.1) x.2
abbrev yCp (f:A→B→C→D→E→F→G→H→I→J→K→L→M→N→O→P→Q→R→Y)(x:A×B×C×D×E×F×G×H×I×J×K×L×M×N×O×P×Q×R×S):Y:=yL7 (f x.1) x.2
abbrev yJw (f:A→B→C→D→E→F→G→H→I→J→K→L→M→N→O→P→Q→R→S→Y)(x:A×B×C×D×E×F×G×H×I×J×K×L×M×N×O×P×Q×R×S×U):Y:=yCp (f x.1) x.2
abbrev M3 (x:A×B×C×D×E×F×G×H×I×J×K×L×M×N×O×P×Q)(t:T):=pv x.2.2.2.2.2.2.2.2.2.2.2.2.2 t
abbrev UX (x:A×B×C×D×E×F)(t:T):=pv x.2.2 t
abbrev yJ5 (x:A×B×C×D×E×F×G)(t:T):=pv x.2.2.2 t
abbrev qJ1 (x:A×B×C×D×E×F×G×H)(t:T):=pv x.2.2.2.2 t
abbrev yGc (x:A×B×C×D×E×F×G×H×I×J×K×L)(t:T):=pv x.2.2.2.2.2.2.2.2 t
abbrev qU9 (x:A×B×C×D×E×F×G×H×I×J×K×L×M×N×O×P×Q)(t:T):=gw x.2.2.2.2.2.2.2.2.2.2.2.2 t
abbrev qFx (x:A×B×C×D×E×F×G×H×I×J×K×L×M×N×O×P×Q)(t:T):=m3 x.2.2.2.2.2.2.2.2.2.2.2 t
abbrev yNs (x:A×B×C×D×E×F×G×H)(t:T):=m3 x.2.2 t
abbrev M4 (x:A×B×C×D×E×F×G×H×I×J×K×L×M×N×O×P×Q)(t:T):=gy x.2.2.2.2.2.2.2.2.2.2 t
abbrev ySt (x:A×B×C×D×E×F×G×H×I×J×K)(t:T):=gy x.2.2.2.2 t
abbrev yQl (x:A×B×C×D×E×F×G×H×I×J×K×L×M×N)(t:T):=gy x.2.2.2.2.2.2.2 t
abbrev yNi (x:A×B×C×D×E×F×G×H×I×J×K×L)(t:T):=iz x.2 t
abbrev L7 (x:A×B×C×D×E×F×G×H×I×J×K×L×M×N×O×P×Q×R×S)(t:T):=wO x.2 t
abbrev Xy (x:A×B×C×D×E×F×G×H×I×J×K×L×M×N×O×P×Q×R×S×U×V×W×X×Z×a):=pz x.2.2.2.2.2.2.2.2.2.2.2.2.2.2.2.2.2.2
abbrev tC (x:A×B×C×D×E×F×G×H×I×J×K×L×M×N×O×P×Q×R×S×U×V×W×X×Z×a×b):=jF x.2.2.2.2.2.2.2.2.2.2.2.2.2.2.2.2.2.2
abbrev KN (x:A×B×C×D×E×F×G×H×I):=jF x.2
abbrev Xp (x:A×B×C×D×E×F×G×H×I×J×K×L×M×N):=jF x.2.2.2.2.2.2
abbrev yC1 (x:A×B×C×D×E×F×G×H×I×J×K×L×M×N×O):=jF x.2.2.2.2.2.2.2
abbrev Kt (x:A×B×C×D×E×F×G×H×I×J×K×L×M×N×O×P×Q×R×S×U×V×W×X×Z×a):=CE x.2.2.2.2.2.2.2.2.2.2.2.2.2.2.2.2
abbrev jx (x:A×B×C×D×E×F×G×H×I×J×K×L×M×N×O×P×Q):=vD x.2.2.2.2.2
abbrev yNy (x:A×B×C×D×E×F×G×H×I×J×K×L×M×N×O×P×Q×R×S):=vD x.2.2.2.2.2.2.2
abbrev fj (x:A×B×C×D×E×F×G×H×I×J×K×L×M×N×O×P×Q×R×S×U):=wY x.2
abbrev DD (x:A×B×C×D×E×F×G×H×I×J×K×L×M×N×O)(t:T):=vT x.2.2.2.2.2.2.2.2.2.2 t
abbrev gA (x:A×B×C×D×E×F)(t:T):=vT x.2 t
abbrev Ky (x:A×B×C×D×E×F×G)(t:T):=vT x.2.2 t
abbrev yMz (x:A×B×C×D×E×F×G×H×I×J)(t:T):=vT x.2.2.2.2.2 t
abbrev yM6 (x:A×B×C×D×E×F×G×H×I)(t:T):=tB x.2 t
abbrev yEp (x:A×B×C×D×E×F×G×H×I×J×K×L×M×N×O×P×Q)(t:T):=m1 x.2.2.2.2.2 t
abbrev ySj (x:A×B×C×D×E×F×G×H×I×J×K×L×M×N×O×P×Q×R×S×U×V)(t:T):=Md x.2.2.2.2.2.2 t
abbrev qWy (x:A×B×C×D×E×F×G×H×I×J×K×L×M×N×O×P×Q×R×S)(t:T):=qYp x.2 t
end
def jR:AC:=[0,1,2,2,3,3,3,3,4,4,4,4,4,4,4,4,5,5,5,5,5,5,5,5,5,5,5,5,5,5,5,5,6,6,6,6,6,6,6,6,6,6,6,6,6,6,6,6,6,6,6,6,6,6,6,6,6,6,6,6,6,6,6,6,7,7,7,7,7,7,7,7,7,7,7,7,7,7,7,7,7,7,7,7,7,7,7,7,7,7,7,7,7,7,7,7,7,7,7,7,7,7,7,7,7,7,7,7,7,7,7,7,7,7,7,7,7,7,7,7,7,7,7,7,7,7,7,7,8,8,8,8,8,8,8,8,8,8,8,8,8,8,8,8,8,8,8,8,8,8,8,8,8,8,8,8,8,8,8,8,8,8,8,8,8,8,8,8,8,8,8,8,8,8,8,8,8,8,8,8,8,8,8,8,8,8,8,8,8,8,8,8,8,8,8,8,8,8,8,8,8,8,8,8,8,8,8,8,8,8,8,8,8,8,8,8,8,8,8,8,8,8,8,8,8,8,8,8,8,8,8,8,8,8,8,8,8,8,8,8,8,8,8,8,8,8,8,8,8,8,8,8,8,8,8,8]
def Cg (k:Nat)(a0:yA)(a1:yN):Option Bool:=
 bif decide ((zA ((zA ((zA ((zA ((zA ((a0.2.1.length:Int)+(a1.2.2.2.2.2.2.2.1.length:Int)))+(a1.2.2.2.2.2.2.2.2.1.length:Int)))+(a1.2.2.2.2.2.1.length:Int)))+(a1.2.1.length:Int)))+(a1.2.2.2.1.length:Int)))>300) then some true
 else bif decide ((a1.2.2.2.2.2.2.1.length:Int)>20) then some true
 else bif decide ((a1.2.2.1.length:Int)>20) then some true
 else bif decide ((a1.2.2.2.2.1.length:Int)>20) then some true
 else bif decide (a0.1>20) then some true
 else some (decide (a0.1<0))
def mS (k:Nat)(a0 a1 a2:Int):Option Bool:=
 bif decide (a0≥a1) then some (decide (a0≤a2))
 else some false
abbrev Ik:Type:=yA⊕Bool
abbrev Ii:Type:=Int→yA→Option Ik
def tw (k:Nat)(rec:Ii)(s3:Int)(b0:yA):Option Ik:=
 bif decide (s3 < (b0.2.1.length : Int)) then (bif zC s3 b0.2.1.length then ((mS k (b0.2.1.getD s3.toNat (0,0)).1 0 1048576).bind fun x0=>
   bif !x0 then some (.inr false)
   else bif zC s3 b0.2.1.length then ((mS k (b0.2.1.getD s3.toNat (0,0)).2 0 10000).bind fun x1=>
    bif !x1 then some (.inr false)
    else rec (zA (s3+1)) b0)
   else none)
  else none)
 else some (.inl b0)
def pq (k:Nat):Nat→Ii:=yT (fun _ _=>none) (tw k)
def Cf (k:Nat)(a0:yA):Option Bool:=
 bif decide (a0.1<1) then some false
 else bif decide (a0.1>6) then some false
 else bif decide ((a0.2.1.length:Int)>3) then some false
 else(pq k k 0 a0).bind fun z=>
 match z with
 |.inl z1=>(mS k z1.2.2.2.1 1 1048576).bind fun x2=>
  bif x2 then ((mS k z1.2.2.1 0 z1.2.2.2.1).bind fun x3=>
   bif x3 then ((mS k z1.2.2.2.2 1 1048576).bind fun x4=>
    some x4)
   else some false)
  else some false
 |.inr z2=>some z2
def yU (k:Nat)(a0 a1 a2:Int):Option Bool:=
 bif decide (a0≥a1) then some (decide (a0≤a2))
 else some false
def A8 (k:Nat)(lh lj gC:Int):Option Bool:=
 bif decide (lh > (-4611686018427387904)) then (bif decide (lh < 4611686018427387904) then (bif decide (lj ≥ 0) then (bif decide (lj ≤ 2305843009213693952) then (bif decide (gC≥0) then some (decide (gC≤2305843009213693952))
     else some false)
    else some false)
   else some false)
  else some false)
 else some false
def GW (k:Nat)(lh lj gC:Int):Option Bool:=
 (A8 k lh lj gC).bind fun x0=>
 some (!x0)
abbrev Il:Type:=List zI→Int→Int→Option (Unit⊕Int)
def sb (k:Nat)(rec:Il)(s0:List zI)(s7 s8:Int):Option (Unit⊕Int):=
 bif decide (s8 < s7) then (bif zC s8 s0.length then ((GW k (s0.getD s8.toNat (0,0,0)).1 (s0.getD s8.toNat (0,0,0)).2.1 (s0.getD s8.toNat (0,0,0)).2.2).bind fun x0=>
   bif x0 then some (.inr s8)
   else rec s0 s7 (zA (s8+1)))
  else none)
 else some (.inl ())
def wm (k:Nat):Nat→Il
 |0,_,_,_=>none
 |n+1,s0,s7,s8=>sb k (wm k n) s0 s7 s8
def GX (k:Nat)(a0:List zI):Option Int:=
 (wm k k a0 (a0.length:Int) 0).bind fun z=>
 match z with
 |.inl z1=>some (-1)
 |.inr z2=>some z2
def Ba (k:Nat)(a0:List zI):Option Bool:=
 (GX k a0).bind fun x0=>
 some (decide (x0≥0))
def GU (k:Nat)(a0:Int):Option Bool:=
 bif decide (a0≥(-1)) then some (decide (a0≤2305843009213693952))
 else some false
def GY (k:Nat)(a0:Int):Option Bool:=
 (GU k a0).bind fun x0=>
 some (!x0)
abbrev Io:Type:=AC→Int→Int→Option (Unit⊕Int)
def sd (k:Nat)(rec:Io)(s0:AC)(s7 s8:Int):Option (Unit⊕Int):=
 bif decide (s8 < s7) then (bif zC s8 s0.length then ((GY k (s0.getD s8.toNat 0)).bind fun x0=>
   bif x0 then some (.inr s8)
   else rec s0 s7 (zA (s8+1)))
  else none)
 else some (.inl ())
def wo (k:Nat):Nat→Io
 |0,_,_,_=>none
 |n+1,s0,s7,s8=>sd k (wo k n) s0 s7 s8
def GZ (k:Nat)(a0:AC):Option Int:=
 (wo k k a0 (a0.length:Int) 0).bind fun z=>
 match z with
 |.inl z1=>some (-1)
 |.inr z2=>some z2
def Bb (k:Nat)(a0:AC):Option Bool:=
 (GZ k a0).bind fun x0=>
 some (decide (x0≥0))
def wu (k:Nat)(a0:AC)(a1:Int):Option Bool:=
 bif decide ((a0.length : Int) = a1) then ((Bb k a0).bind fun x0=>
  some (!x0))
 else some false
abbrev Ir:Type:=Int→EQ→Int→Int→Option (Unit⊕Bool)
def sf (k:Nat)(rec:Ir)(s1:Int)(bj:EQ)(aP az:Int):Option (Unit⊕Bool):=
 bif decide (az < aP) then (bif zC az bj.length then ((wu k (bj.getD az.toNat []) s1).bind fun x0=>
   bif !x0 then some (.inr false)
   else rec s1 bj aP (zA (az+1)))
  else none)
 else some (.inl ())
def wv (k:Nat):Nat→Ir
 |0,_,_,_,_=>none
 |n+1,s1,bj,aP,az=>sf k (wv k n) s1 bj aP az
def Be (k:Nat)(a0:EQ)(a1:Int):Option Bool:=
 bif !(decide ((a0.length:Int)=a1)) then some false
 else(wv k k a1 a0 (a0.length:Int) 0).bind fun z=>
 match z with
 |.inl z1=>some true
 |.inr z2=>some z2
def A9 (k:Nat)(a0:Int):Option Bool:=
 bif decide (a0>(-72057594037927936)) then some (decide (a0<72057594037927936))
 else some false
def G0 (k:Nat)(a0:Int):Option Bool:=
 (A9 k a0).bind fun x0=>
 some (!x0)
def se (k:Nat)(rec:Io)(s0:AC)(s7 s8:Int):Option (Unit⊕Int):=
 bif decide (s8 < s7) then (bif zC s8 s0.length then ((G0 k (s0.getD s8.toNat 0)).bind fun x0=>
   bif x0 then some (.inr s8)
   else rec s0 s7 (zA (s8+1)))
  else none)
 else some (.inl ())
def wq (k:Nat):Nat→Io
 |0,_,_,_=>none
 |n+1,s0,s7,s8=>se k (wq k n) s0 s7 s8
def G1 (k:Nat)(a0:AC):Option Int:=
 (wq k k a0 (a0.length:Int) 0).bind fun z=>
 match z with
 |.inl z1=>some (-1)
 |.inr z2=>some z2
def Bc (k:Nat)(a0:AC):Option Bool:=
 (G1 k a0).bind fun x0=>
 some (decide (x0≥0))
def Bd (k:Nat)(a0:AC)(a1:Int):Option Bool:=
 bif decide ((a0.length : Int) = a1) then ((Bc k a0).bind fun x0=>
  some (!x0))
 else some false
def sg (k:Nat)(rec:Ir)(s1:Int)(bj:EQ)(aP az:Int):Option (Unit⊕Bool):=
 bif decide (az < aP) then (bif zC az bj.length then ((Bd k (bj.getD az.toNat []) s1).bind fun x0=>
   bif !x0 then some (.inr false)
   else rec s1 bj aP (zA (az+1)))
  else none)
 else some (.inl ())
def wx (k:Nat):Nat→Ir
 |0,_,_,_,_=>none
 |n+1,s1,bj,aP,az=>sg k (wx k n) s1 bj aP az
def Bf (k:Nat)(a0:EQ)(a1:Int):Option Bool:=
 bif !(decide ((a0.length:Int)=a1)) then some false
 else(wx k k a1 a0 (a0.length:Int) 0).bind fun z=>
 match z with
 |.inl z1=>some true
 |.inr z2=>some z2
abbrev IA:Type:=(EQ×EQ×Int×Int)⊕Bool
abbrev Iy:Type:=EQ→Int→EQ→Int→Int→AC→Int→Int→Option IA
def sj (k:Nat)(rec:Iy)(s0:EQ)(s3:Int)(s7:EQ)(s8 s9:Int)(aP:AC)(az bb:Int):Option IA:=
 bif decide (bb < az) then (bif zC bb aP.length then (bif zC bb s0.length then (bif zC s3 (s0.getD bb.toNat []).length then (bif !(decide (((s0.getD bb.toNat []).getD s3.toNat 0)=(zA (0-(aP.getD bb.toNat 0))))) then some (.inr false)
     else rec s0 s3 s7 s8 s9 aP az (zA (bb+1)))
    else none)
   else none)
  else none)
 else some (.inl (s0,s7,s8,s9))
def si (k:Nat):Nat→Iy
 |0,_,_,_,_,_,_,_,_=>none
 |n+1,s0,s3,s7,s8,s9,aP,az,bb=>sj k (si k n) s0 s3 s7 s8 s9 aP az bb
abbrev IB:Type:=EQ→EQ→Int→Int→Option (Unit⊕Bool)
def sk (k:Nat)(rec:IB)(s0 s7:EQ)(s8 s9:Int):Option (Unit⊕Bool):=
 bif decide (s9 < s8) then (bif zC s9 s7.length then ((si k k s0 s9 s7 s8 s9 (s7.getD s9.toNat []) ((s7.getD s9.toNat []).length:Int) 0).bind fun z=>
   match z with
   |.inl z1=>rec z1.1 z1.2.1 z1.2.2.1 (zA (z1.2.2.2+1))
   |.inr z2=>some (.inr z2))
  else none)
 else some (.inl ())
def wy (k:Nat):Nat→IB
 |0,_,_,_,_=>none
 |n+1,s0,s7,s8,s9=>sk k (wy k n) s0 s7 s8 s9
def Bg (k:Nat)(a0:EQ):Option Bool:=
 (wy k k a0 a0 (a0.length:Int) 0).bind fun z3=>
 match z3 with
 |.inl z4=>some true
 |.inr z5=>some z5
def sm (k:Nat)(aR:List zI)(bm:EQ)(bg:AC)(bd:EQ):Option Bool:=
 bif decide ((aR.length:Int)<1) then some false
 else bif decide ((aR.length:Int)>6) then some false
 else(Ba k aR).bind fun x0=>
 bif x0 then some false
 else(Be k bm (aR.length:Int)).bind fun x1=>
 bif x1 then ((wu k bg (aR.length:Int)).bind fun x2=>
  bif x2 then ((Bf k bd (aR.length:Int)).bind fun x3=>
   bif x3 then ((Bg k bd).bind fun x4=>
    some x4)
   else some false)
  else some false)
 else some false
def H9 (k:Nat)(a0:Int):Option Bool:=
 (yU k a0 0 1048576).bind fun x0=>
 some (!x0)
def tp (k:Nat)(rec:Io)(s0:AC)(s7 s8:Int):Option (Unit⊕Int):=
 bif decide (s8 < s7) then (bif zC s8 s0.length then ((H9 k (s0.getD s8.toNat 0)).bind fun x0=>
   bif x0 then some (.inr s8)
   else rec s0 s7 (zA (s8+1)))
  else none)
 else some (.inl ())
def pn (k:Nat):Nat→Io
 |0,_,_,_=>none
 |n+1,s0,s7,s8=>tp k (pn k n) s0 s7 s8
def Ia (k:Nat)(a0:AC):Option Int:=
 (pn k k a0 (a0.length:Int) 0).bind fun z=>
 match z with
 |.inl z1=>some (-1)
 |.inr z2=>some z2
def xN (k:Nat)(a0:AC):Option Bool:=
 (Ia k a0).bind fun x0=>
 some (decide (x0≥0))
def xj (k:Nat)(a0:Int):Option Bool:=
 bif decide (a0≥0) then some (decide (a0≤10000))
 else some false
def oQ (k:Nat)(a0 a1:Int):Option vA:=
 some ((IntKind.wrap .u64 ((IntKind.wrap .u64 ((IntKind.wrap .u64 ((shr .u64 a0 32)*(shr .u64 a1 32)))+(shr .u64 (IntKind.wrap .u64 ((IntKind.wrap .u64 ((shr .u64 a0 32)*(qI .u64 a1 4294967295)))+(shr .u64 (IntKind.wrap .u64 ((qI .u64 a0 4294967295)*(qI .u64 a1 4294967295))) 32))) 32)))+(shr .u64 (IntKind.wrap .u64 ((qI .u64 (IntKind.wrap .u64 ((IntKind.wrap .u64 ((shr .u64 a0 32)*(qI .u64 a1 4294967295)))+(shr .u64 (IntKind.wrap .u64 ((qI .u64 a0 4294967295)*(qI .u64 a1 4294967295))) 32))) 4294967295)+(IntKind.wrap .u64 ((qI .u64 a0 4294967295)*(shr .u64 a1 32))))) 32))),(IntKind.wrap .u64 (a0*a1)))
def Tw (k:Nat)(a0:Int):Option Int:=
 bif decide (a0 ≥ 4294967296) then (bif decide ((shr .u64 a0 32) ≥ 65536) then (bif decide ((shr .u64 (shr .u64 a0 32) 16) ≥ 256) then (bif zC (IntKind.wrap .u8 ((shr .u64 (shr .u64 (shr .u64 a0 32) 16) 8))) jR.length then some (zA (56+(zA ((jR.getD (IntKind.wrap .u8 ((shr .u64 (shr .u64 (shr .u64 a0 32) 16) 8))).toNat 0)))))
    else none)
   else bif zC (IntKind.wrap .u8 ((shr .u64 (shr .u64 a0 32) 16))) jR.length then some (zA (48+(zA ((jR.getD (IntKind.wrap .u8 ((shr .u64 (shr .u64 a0 32) 16))).toNat 0)))))
   else none)
  else bif decide ((shr .u64 a0 32) ≥ 256) then (bif zC (IntKind.wrap .u8 ((shr .u64 (shr .u64 a0 32) 8))) jR.length then some (zA (40+(zA ((jR.getD (IntKind.wrap .u8 ((shr .u64 (shr .u64 a0 32) 8))).toNat 0)))))
   else none)
  else bif zC (IntKind.wrap .u8 ((shr .u64 a0 32))) jR.length then some (zA (32+(zA ((jR.getD (IntKind.wrap .u8 ((shr .u64 a0 32))).toNat 0)))))
  else none)
 else bif decide (a0 ≥ 65536) then (bif decide ((shr .u64 a0 16) ≥ 256) then (bif zC (IntKind.wrap .u8 ((shr .u64 (shr .u64 a0 16) 8))) jR.length then some (zA (24+(zA ((jR.getD (IntKind.wrap .u8 ((shr .u64 (shr .u64 a0 16) 8))).toNat 0)))))
   else none)
  else bif zC (IntKind.wrap .u8 ((shr .u64 a0 16))) jR.length then some (zA (16+(zA ((jR.getD (IntKind.wrap .u8 ((shr .u64 a0 16))).toNat 0)))))
  else none)
 else bif decide (a0 ≥ 256) then (bif zC (IntKind.wrap .u8 ((shr .u64 a0 8))) jR.length then some (zA (8+(zA ((jR.getD (IntKind.wrap .u8 ((shr .u64 a0 8))).toNat 0)))))
  else none)
 else bif zC (IntKind.wrap .u8 (a0)) jR.length then some (zA (0+(zA ((jR.getD (IntKind.wrap .u8 (a0)).toNat 0)))))
 else none
def H5 (k:Nat)(a0:Int):Option Int:=
 (Tw k a0).bind fun x0=>
 some (zA (64-x0))
abbrev IH:Type:=Int→Int→Int→Int→Int→Int→Int→Int→Int→Option yP
def xF (k:Nat)(rec:IH)(s2 s8 s9 ak bY bj aP az bb:Int):Option yP:=
 bif decide (az ≥ 4294967296) then (bif decide ((IntKind.wrap .u64 (bb+s9))≥4294967296) then some (s2,s8,s9,ak,bY,bj,aP,(IntKind.wrap .u64 (az-1)))
  else rec s2 s8 s9 ak bY bj aP (IntKind.wrap .u64 (az-1)) (IntKind.wrap .u64 (bb+s9)))
 else bif decide ((IntKind.wrap .u64 (az * ak)) > (IntKind.wrap .u64 ((IntKind.wrap .u64 (4294967296 * bb)) + bj))) then (bif decide ((IntKind.wrap .u64 (bb+s9))≥4294967296) then some (s2,s8,s9,ak,bY,bj,aP,(IntKind.wrap .u64 (az-1)))
  else rec s2 s8 s9 ak bY bj aP (IntKind.wrap .u64 (az-1)) (IntKind.wrap .u64 (bb+s9)))
 else some (s2,s8,s9,ak,bY,bj,aP,az)
def mP (k:Nat):Nat→IH:=yT (fun _ _ _ _ _ _ _ _ _=>none) (xF k)
abbrev xI:Type:=Int×Int×Int×Int×Int×Int
abbrev II:Type:=Int→Int→Int→Int→Int→Int→Int→Int→Int→Option xI
def xG (k:Nat)(rec:II)(s2 s8 s9 ak aP az bb aK dv:Int):Option xI:=
 bif decide (dv ≥ 4294967296) then (bif decide ((IntKind.wrap .u64 (bb+s9))≥4294967296) then some (s2,s8,aP,az,aK,(IntKind.wrap .u64 (dv-1)))
  else rec s2 s8 s9 ak aP az (IntKind.wrap .u64 (bb+s9)) aK (IntKind.wrap .u64 (dv-1)))
 else bif decide ((IntKind.wrap .u64 (dv * ak)) > (IntKind.wrap .u64 ((IntKind.wrap .u64 (4294967296 * bb)) + aP))) then (bif decide ((IntKind.wrap .u64 (bb+s9))≥4294967296) then some (s2,s8,aP,az,aK,(IntKind.wrap .u64 (dv-1)))
  else rec s2 s8 s9 ak aP az (IntKind.wrap .u64 (bb+s9)) aK (IntKind.wrap .u64 (dv-1)))
 else some (s2,s8,aP,az,aK,dv)
def mQ (k:Nat):Nat→II:=yT (fun _ _ _ _ _ _ _ _ _=>none) (xG k)
def sK (k:Nat)(a0 a1 a2:Int):Option vA:=
 bif decide (a2=0) then none
 else bif decide (a2≤a0) then none
 else bif decide (a0 = 0) then (bif !(decide (a2 = 0)) then (bif !(decide (a2=0)) then some ((IntKind.wrap .u64 (Int.tdiv a1 a2)),(Int.tmod a1 a2))
   else none)
  else none)
 else(H5 k a2).bind fun x0=>
 bif !(decide ((IntKind.wrap .u64 (x0)) < 0)) then (bif !(decide ((IntKind.wrap .u64 (x0)) < 0)) then (bif !(decide ((IntKind.wrap .u64 (64 - (IntKind.wrap .u64 (x0)))) < 0)) then (bif !(decide ((IntKind.wrap .u64 (x0)) < 0)) then (bif !(decide ((shr .u64 (shl .u64 a2 (IntKind.wrap .u64 (x0))) 32) = 0)) then ((mP k k (shl .u64 a2 (IntKind.wrap .u64 (x0))) (IntKind.wrap .u64 (x0)) (shr .u64 (shl .u64 a2 (IntKind.wrap .u64 (x0))) 32) (qI .u64 (shl .u64 a2 (IntKind.wrap .u64 (x0))) 4294967295) (wF .u64 (shl .u64 a0 (IntKind.wrap .u64 (x0))) (shr .u64 a1 (IntKind.wrap .u64 (64-(IntKind.wrap .u64 (x0)))))) (shr .u64 (shl .u64 a1 (IntKind.wrap .u64 (x0))) 32) (qI .u64 (shl .u64 a1 (IntKind.wrap .u64 (x0))) 4294967295) (IntKind.wrap .u64 (Int.tdiv (wF .u64 (shl .u64 a0 (IntKind.wrap .u64 (x0))) (shr .u64 a1 (IntKind.wrap .u64 (64-(IntKind.wrap .u64 (x0)))))) (shr .u64 (shl .u64 a2 (IntKind.wrap .u64 (x0))) 32))) (IntKind.wrap .u64 ((wF .u64 (shl .u64 a0 (IntKind.wrap .u64 (x0))) (shr .u64 a1 (IntKind.wrap .u64 (64-(IntKind.wrap .u64 (x0))))))-(IntKind.wrap .u64 ((IntKind.wrap .u64 (Int.tdiv (wF .u64 (shl .u64 a0 (IntKind.wrap .u64 (x0))) (shr .u64 a1 (IntKind.wrap .u64 (64-(IntKind.wrap .u64 (x0)))))) (shr .u64 (shl .u64 a2 (IntKind.wrap .u64 (x0))) 32)))*(shr .u64 (shl .u64 a2 (IntKind.wrap .u64 (x0))) 32)))))).bind fun z=>
      bif !(decide (z.2.2.1 = 0)) then ((mQ k k z.1 z.2.1 z.2.2.1 z.2.2.2.1 z.2.2.2.2.2.2.1 z.2.2.2.2.2.2.2 (IntKind.wrap .u64 ((IntKind.wrap .u64 ((IntKind.wrap .u64 ((IntKind.wrap .u64 (z.2.2.2.2.1*4294967296))+z.2.2.2.2.2.1))-(IntKind.wrap .u64 (z.2.2.2.2.2.2.2*z.1))))-(IntKind.wrap .u64 ((IntKind.wrap .u64 (Int.tdiv (IntKind.wrap .u64 ((IntKind.wrap .u64 ((IntKind.wrap .u64 (z.2.2.2.2.1*4294967296))+z.2.2.2.2.2.1))-(IntKind.wrap .u64 (z.2.2.2.2.2.2.2*z.1)))) z.2.2.1))*z.2.2.1)))) (IntKind.wrap .u64 ((IntKind.wrap .u64 ((IntKind.wrap .u64 (z.2.2.2.2.1*4294967296))+z.2.2.2.2.2.1))-(IntKind.wrap .u64 (z.2.2.2.2.2.2.2*z.1)))) (IntKind.wrap .u64 (Int.tdiv (IntKind.wrap .u64 ((IntKind.wrap .u64 ((IntKind.wrap .u64 (z.2.2.2.2.1*4294967296))+z.2.2.2.2.2.1))-(IntKind.wrap .u64 (z.2.2.2.2.2.2.2*z.1)))) z.2.2.1))).bind fun z1=>
       bif !(decide (z1.2.1<0)) then some ((IntKind.wrap .u64 ((IntKind.wrap .u64 (z1.2.2.2.1*4294967296))+z1.2.2.2.2.2)),(shr .u64 (IntKind.wrap .u64 ((IntKind.wrap .u64 ((IntKind.wrap .u64 (z1.2.2.2.2.1*4294967296))+z1.2.2.1))-(IntKind.wrap .u64 (z1.2.2.2.2.2*z1.1)))) z1.2.1))
       else none)
      else none)
     else none)
    else none)
   else none)
  else none)
 else none
def sL (k:Nat)(a0 a1 a2:Int):Option vJ:=
 bif decide (a0<0) then some (0,false)
 else bif decide (a1<0) then some (0,false)
 else(xj k a2).bind fun x0=>
 bif !x0 then some (0,false)
 else(oQ k (IntKind.wrap .u64 (a0)) (IntKind.wrap .u64 (a1))).bind fun x1=>
 (sK k (Int.tmod x1.1 10000) x1.2 10000).bind fun x2=>
 (oQ k x2.1 (IntKind.wrap .u64 ((zA (10000-a2))))).bind fun x3=>
 (oG k x3.2 (IntKind.wrap .u64 (Int.tdiv (IntKind.wrap .u64 (x2.2*(IntKind.wrap .u64 ((zA (10000-a2)))))) 10000)) 0).bind fun x4=>
 bif decide ((IntKind.wrap .u64 (Int.tdiv x1.1 10000)) > 0) then (bif decide ((IntKind.wrap .u64 ((zA (10000-a2))))>0) then some (0,false)
  else bif decide ((IntKind.wrap .u64 (x3.1+x4.2))>0) then some (0,false)
  else bif decide (x4.1>9223372036854775807) then some (0,false)
  else some ((zA (x4.1)),true))
 else bif decide ((IntKind.wrap .u64 (x3.1+x4.2))>0) then some (0,false)
 else bif decide (x4.1>9223372036854775807) then some (0,false)
 else some ((zA (x4.1)),true)
abbrev IL:Type:=Int→Int→AC→Int→Int→Option vA
def sH (k:Nat)(rec:IL)(s4 s5:Int)(s9:AC)(ak bY:Int):Option vA:=
 bif decide (bY < ak) then (bif zC bY s9.length then ((oG k s5 (IntKind.wrap .u64 ((s9.getD bY.toNat 0))) 0).bind fun x0=>
   rec (zA (s4+(zA ((shr .i64 (s9.getD bY.toNat 0) 63)+(zA (x0.2)))))) x0.1 s9 ak (zA (bY+1)))
  else none)
 else some (s4,s5)
def sG (k:Nat):Nat→IL
 |0,_,_,_,_,_=>none
 |n+1,s4,s5,s9,ak,bY=>sH k (sG k n) s4 s5 s9 ak bY
def sF (k:Nat)(a0:AC):Option vJ:=
 (sG k k 0 0 a0 (a0.length:Int) 0).bind fun z=>
 bif !(decide (z.1=(shr .i64 (zA (z.2)) 63))) then some (0,false)
 else some ((zA (z.2)),true)
abbrev IN:Type:=AC→AC→List vA→Int→Int→AC→Option (AC⊕vJ)
def jt (k:Nat)(rec:IN)(s1 s2:AC)(dw:List vA)(aE cF:Int)(r0:AC):Option (AC⊕vJ):=
 bif decide (cF < aE) then (bif zC cF dw.length then (bif zC cF s1.length then (bif zC cF s2.length then ((sL k (s1.getD cF.toNat 0) (s2.getD cF.toNat 0) (dw.getD cF.toNat (0,0)).2).bind fun x0=>
     bif !x0.2 then some (.inr (0,false))
     else bif qT (r0.length+1) 8 then(rec s1 s2 dw aE (zA (cF+1)) (r0++[x0.1]))
     else none)
    else none)
   else none)
  else none)
 else some (.inl r0)
def iq (k:Nat):Nat→IN:=yT (fun _ _ _ _ _ _=>none) (jt k)
def gp (k:Nat)(a0:List vA)(a1 a2:AC):Option vJ:=
 bif !(decide ((a1.length:Int)=(a0.length:Int))) then some (0,false)
 else bif !(decide ((a2.length:Int)=(a0.length:Int))) then some (0,false)
 else(iq k k a1 a2 a0 (a0.length:Int) 0 []).bind fun z=>
 match z with
 |.inl z1=>(sF k z1).bind fun x1=>
  some (x1.1,x1.2)
 |.inr z2=>some (z2.1,z2.2)
def Ib (k:Nat)(a0:Int):Option Bool:=
 some (decide (a0>1099511627776))
def tq (k:Nat)(rec:Io)(s0:AC)(s7 s8:Int):Option (Unit⊕Int):=
 bif decide (s8 < s7) then (bif zC s8 s0.length then ((Ib k (s0.getD s8.toNat 0)).bind fun x0=>
   bif x0 then some (.inr s8)
   else rec s0 s7 (zA (s8+1)))
  else none)
 else some (.inl ())
def po (k:Nat):Nat→Io
 |0,_,_,_=>none
 |n+1,s0,s7,s8=>tq k (po k n) s0 s7 s8
def Ic (k:Nat)(a0:AC):Option Int:=
 (po k k a0 (a0.length:Int) 0).bind fun z=>
 match z with
 |.inl z1=>some (-1)
 |.inr z2=>some z2
def Cd (k:Nat)(a0:AC):Option Bool:=
 (Ic k a0).bind fun x0=>
 some (decide (x0≥0))
abbrev IT:Type:=EQ→Int→Int→yA→yN→Option (Unit⊕Bool)
def tt (k:Nat)(rec:IT)(dU:EQ)(cG eM:Int)(b0:yA)(b1:yN):Option (Unit⊕Bool):=
 bif decide (eM < cG) then (bif zC eM dU.length then ((gp k b0.2.1 b1.2.2.2.2.2.1 (dU.getD eM.toNat [])).bind fun x1=>
   bif !x1.2 then some (.inr false)
   else bif decide (x1.1>1152921504606846976) then some (.inr false)
   else bif zC eM b1.2.1.length then (bif !(decide (x1.1=(b1.2.1.getD eM.toNat (0,0,0)).2.1)) then some (.inr false)
    else(Cd k (dU.getD eM.toNat [])).bind fun x2=>
    bif x2 then some (.inr false)
    else rec dU cG (zA (eM+1)) b0 b1)
   else none)
  else none)
 else some (.inl ())
def mR (k:Nat):Nat→IT:=yT (fun _ _ _ _ _=>none) (tt k)
def xO (k:Nat)(a0:yA)(a1:yN):Option Bool:=
 bif !(decide ((a1.2.2.2.2.2.1.length:Int)=(a0.2.1.length:Int))) then some false
 else bif !(decide ((a1.2.2.2.2.2.2.1.length:Int)=a0.1)) then some false
 else(xN k a1.2.2.2.2.2.1).bind fun x0=>
 bif x0 then some false
 else(mR k k a1.2.2.2.2.2.2.1 (a1.2.2.2.2.2.2.1.length:Int) 0 a0 a1).bind fun z=>
 match z with
 |.inl z1=>some true
 |.inr z2=>some z2
def Ht (k:Nat)(dy bJ cm dI cO dz dh a1:Int):Option Bool:=
 some (decide (dy=a1))
abbrev IV:Type:=List zB→Int→Int→Int→Option (Unit⊕Int)
def sC (k:Nat)(rec:IV)(s0:List zB)(s7 s8 aa:Int):Option (Unit⊕Int):=
 bif decide (s8 < s7) then (bif zC s8 s0.length then ((Ht k (s0.getD s8.toNat (0,0,0,0,0,0,0)).1 (s0.getD s8.toNat (0,0,0,0,0,0,0)).2.1 (s0.getD s8.toNat (0,0,0,0,0,0,0)).2.2.1 (s0.getD s8.toNat (0,0,0,0,0,0,0)).2.2.2.1 (s0.getD s8.toNat (0,0,0,0,0,0,0)).2.2.2.2.1 (s0.getD s8.toNat (0,0,0,0,0,0,0)).2.2.2.2.2.1 (s0.getD s8.toNat (0,0,0,0,0,0,0)).2.2.2.2.2.2 aa).bind fun x0=>
   bif x0 then some (.inr s8)
   else rec s0 s7 (zA (s8+1)) aa)
  else none)
 else some (.inl ())
def sB (k:Nat):Nat→IV
 |0,_,_,_,_=>none
 |n+1,s0,s7,s8,aa=>sC k (sB k n) s0 s7 s8 aa
def Hu (k:Nat)(a0:List zB)(bO:Int):Option Int:=
 (sB k k a0 (a0.length:Int) 0 bO).bind fun z=>
 match z with
 |.inl z1=>some (-1)
 |.inr z2=>some z2
def jo (k:Nat)(a0:List zB)(a1:Int):Option Int:=
 (Hu k a0 a1).bind fun x0=>
 some x0
def Bz (k:Nat)(a0:Int):Option Bool:=
 some (!(decide (a0=a0)))
def xg (k:Nat)(a0 a1:Int):Option Int:=
 (Bz k a0).bind fun x0=>
 (Bz k a1).bind fun x1=>
 bif x0 then (bif x1 then some 0
  else some (-1))
 else bif x1 then some 1
 else bif decide (a0<a1) then some (-1)
 else bif decide (a0>a1) then some 1
 else some 0
abbrev IX:Type:=Int→AC→Int→Int→Option (Int⊕Int)
def Uc (k:Nat)(rec:IX)(s3:Int)(s6:AC)(s7 s8:Int):Option (Int⊕Int):=
 bif decide (s8 < s7) then (bif zC s8 s6.length then (bif !(decide ((s6.getD s8.toNat 0)=s3)) then some (.inr (s6.getD s8.toNat 0))
   else rec s3 s6 s7 (zA (s8+1)))
  else none)
 else some (.inl s3)
def xf (k:Nat):Nat→IX
 |0,_,_,_,_=>none
 |n+1,s3,s6,s7,s8=>Uc k (xf k n) s3 s6 s7 s8
def By (k:Nat)(a0:AC):Option Int:=
 (xf k k 0 a0 (a0.length:Int) 0).bind fun z=>
 match z with
 |.inl z1=>some z1
 |.inr z2=>some z2
def sD (k:Nat)(dy bJ cm dI cO dz dh DE fk j6 m9 j7 DF DG:Int):Option Int:=
 (xg k bJ fk).bind fun x0=>
 (xg k cO j7).bind fun x1=>
 (By k [x0,x1]).bind fun x2=>
 some x2
abbrev IZ:Type:=List zB→Int→Option (Unit⊕Bool)
def Cb (k:Nat)(rec:IZ)(s0:List zB)(s5:Int):Option (Unit⊕Bool):=
 bif decide (s5 > 0) then (bif zC s5 s0.length then (bif zC (zA (s5 - 1)) s0.length then ((sD k (s0.getD s5.toNat (0,0,0,0,0,0,0)).1 (s0.getD s5.toNat (0,0,0,0,0,0,0)).2.1 (s0.getD s5.toNat (0,0,0,0,0,0,0)).2.2.1 (s0.getD s5.toNat (0,0,0,0,0,0,0)).2.2.2.1 (s0.getD s5.toNat (0,0,0,0,0,0,0)).2.2.2.2.1 (s0.getD s5.toNat (0,0,0,0,0,0,0)).2.2.2.2.2.1 (s0.getD s5.toNat (0,0,0,0,0,0,0)).2.2.2.2.2.2 (s0.getD (zA (s5-1)).toNat (0,0,0,0,0,0,0)).1 (s0.getD (zA (s5-1)).toNat (0,0,0,0,0,0,0)).2.1 (s0.getD (zA (s5-1)).toNat (0,0,0,0,0,0,0)).2.2.1 (s0.getD (zA (s5-1)).toNat (0,0,0,0,0,0,0)).2.2.2.1 (s0.getD (zA (s5-1)).toNat (0,0,0,0,0,0,0)).2.2.2.2.1 (s0.getD (zA (s5-1)).toNat (0,0,0,0,0,0,0)).2.2.2.2.2.1 (s0.getD (zA (s5-1)).toNat (0,0,0,0,0,0,0)).2.2.2.2.2.2).bind fun x0=>
    bif decide (x0<0) then some (.inr false)
    else rec s0 (zA (s5-1)))
   else none)
  else none)
 else some (.inl ())
def ph (k:Nat):Nat→IZ:=yT (fun _ _=>none) (Cb k)
def Ca (k:Nat)(a0:List zB):Option Bool:=
 (ph k k a0 (zA ((a0.length:Int)-1))).bind fun z=>
 match z with
 |.inl z1=>some true
 |.inr z2=>some z2
abbrev I4:Type:=(List zB)⊕Bool
abbrev I2:Type:=List zB→List zB→Int→Int→Option I4
def tl (k:Nat)(rec:I2)(s0 s5:List zB)(s6 s7:Int):Option I4:=
 bif decide (s7 < s6) then (bif zC s7 s5.length then ((jo k s0 (s5.getD s7.toNat (0,0,0,0,0,0,0)).1).bind fun x0=>
   bif !(decide (x0=s7)) then some (.inr false)
   else rec s0 s5 s6 (zA (s7+1)))
  else none)
 else some (.inl s0)
def pg (k:Nat):Nat→I2
 |0,_,_,_,_=>none
 |n+1,s0,s5,s6,s7=>tl k (pg k n) s0 s5 s6 s7
def xJ (k:Nat)(a0:List zB):Option Bool:=
 (pg k k a0 a0 (a0.length:Int) 0).bind fun z=>
 match z with
 | .inl z1 => bif decide ((z1.length : Int) ≤ 40) then ((Ca k z1).bind fun x1=>
   some x1)
  else some false
 |.inr z2=>some z2
abbrev I5:Type:=AC→Int→AC→Int→Int→Option (AC⊕Bool)
def tm (k:Nat)(rec:I5)(s0:AC)(s3:Int)(s6:AC)(s7 s8:Int):Option (AC⊕Bool):=
 bif decide (s8 < s7) then (bif zC s8 s6.length then (bif decide ((s6.getD s8.toNat 0)≤s3) then some (.inr false)
   else rec s0 (s6.getD s8.toNat 0) s6 s7 (zA (s8+1)))
  else none)
 else some (.inl s0)
def lg (k:Nat):Nat→I5:=yT (fun _ _ _ _ _=>none) (tm k)
def xK (k:Nat)(a0:AC):Option Bool:=
 (lg k k a0 0 a0 (a0.length:Int) 0).bind fun z=>
 match z with
 |.inl z1=>some (decide ((z1.length:Int)≤200))
 |.inr z2=>some z2
def so (k:Nat)(aR:List zI)(bm:EQ)(bg:AC)(bd:EQ)(DE fk j6 m9 j7 DF DG:Int):Option Bool:=
 bif decide (fk ≥ 0) then (bif decide (fk < (aR.length : Int)) then (bif decide (j6 ≥ 0) then (bif decide (j6 < (aR.length : Int)) then (bif !(decide (fk = j6)) then (bif decide (m9 ≥ 1) then (bif decide (m9 ≤ 1099511627776) then (bif decide (j7≥1) then some (decide (j7≤3))
        else some false)
       else some false)
      else some false)
     else some false)
    else some false)
   else some false)
  else some false)
 else some false
def BB (k:Nat)(a0:Int):Option Bool:=
 some (!(decide (a0=a0)))
def BA (k:Nat)(a0 a1:Int):Option Bool:=
 (BB k a0).bind fun x0=>
 bif x0 then ((BB k a1).bind fun x1=>
  bif !x1 then some true
  else some (decide (a0<a1)))
 else some (decide (a0<a1))
def BD (k:Nat)(a0:Int):Option Bool:=
 some (!(decide (a0=a0)))
abbrev Ja:Type:=AC×Int×Int×Int
abbrev I8:Type:=AC→Int→Int→Int→Int→Option Ja
def BC (k:Nat)(rec:I8)(s0:AC)(s1 s6 s7 s8:Int):Option Ja:=
 bif decide (s7 < s8) then (bif zC (zA ((shr .u64 (IntKind.wrap .u64 ((zA (s7 + s8)))) 1))) s0.length then ((BA k (s0.getD (zA ((shr .u64 (IntKind.wrap .u64 ((zA (s7+s8)))) 1))).toNat 0) s1).bind fun x0=>
   bif x0 then(rec s0 s1 s6 (zA ((zA ((shr .u64 (IntKind.wrap .u64 ((zA (s7+s8)))) 1)))+1)) s8)
   else rec s0 s1 s6 s7 (zA ((shr .u64 (IntKind.wrap .u64 ((zA (s7+s8)))) 1))))
  else none)
 else some (s0,s1,s6,s7)
def xh (k:Nat):Nat→I8:=yT (fun _ _ _ _ _=>none) (BC k)
def sE (k:Nat)(a0:AC)(a1:Int):Option vJ:=
 (xh k k a0 a1 (a0.length:Int) 0 (a0.length:Int)).bind fun z=>
 bif decide (z.2.2.2 < z.2.2.1) then (bif zC z.2.2.2 z.1.length then (bif decide ((z.1.getD z.2.2.2.toNat 0)=z.2.1) then some (z.2.2.2,true)
   else bif zC z.2.2.2 z.1.length then ((BD k (z.1.getD z.2.2.2.toNat 0)).bind fun x1=>
    bif x1 then ((BD k z.2.1).bind fun x2=>
     some (z.2.2.2,x2))
    else some (z.2.2.2,false))
   else none)
  else none)
 else some (z.2.2.2,false)
def BE (k:Nat)(a0:AC)(a1:Int):Option Bool:=
 (sE k a0 a1).bind fun x0=>
 some x0.2
def Cc (k:Nat)(a0:zB)(a1:yN):Option Bool:=
 (so k a1.2.1 a1.2.2.1 a1.2.2.2.1 a1.2.2.2.2.1 a0.1 a0.2.1 a0.2.2.1 a0.2.2.2.1 a0.2.2.2.2.1 a0.2.2.2.2.2.1 a0.2.2.2.2.2.2).bind fun x0=>
 bif !x0 then some true
 else bif decide (a0.2.2.2.2.2.1<0) then some true
 else(yU k a0.2.2.2.2.2.2 a0.2.2.2.2.2.1 1048576).bind fun x1=>
 bif !x1 then some true
 else(BE k a1.2.2.2.2.2.2.2.2.1 a0.1).bind fun x2=>
 some (!x2)
abbrev Jb:Type:=List zB→Int→Int→Int→List zI→EQ→AC→EQ→AC→EQ→List zB→AC→Int→Bool→Option (Unit⊕Int)
def tn (k:Nat)(rec:Jb)(s0:List zB)(s7 s8 aa:Int)(ae:List zI)(ag:EQ)(af:AC)(aN:EQ)(aV:AC)(aW:EQ)(cn:List zB)(cp:AC)(cq:Int)(bq:Bool):Option (Unit⊕Int):=
 bif decide (s8 < s7) then (bif zC s8 s0.length then ((Cc k (s0.getD s8.toNat (0,0,0,0,0,0,0)) (aa,ae,ag,af,aN,aV,aW,cn,cp,cq,bq)).bind fun x0=>
   bif x0 then some (.inr s8)
   else rec s0 s7 (zA (s8+1)) aa ae ag af aN aV aW cn cp cq bq)
  else none)
 else some (.inl ())
def pj (k:Nat):Nat→Jb
 |0,_,_,_,_,_,_,_,_,_,_,_,_,_,_=>none
 |n+1,s0,s7,s8,aa,ae,ag,af,aN,aV,aW,cn,cp,cq,bq=>tn k (pj k n) s0 s7 s8 aa ae ag af aN aV aW cn cp cq bq
def H8 (k:Nat)(a0:List zB)(M5:Int)(M6:List zI)(M7:EQ)(M8:AC)(M9:EQ)(Na:AC)(Nb:EQ)(Nc:List zB)(Nd:AC)(Nf:Int)(Ng:Bool):Option Int:=
 (pj k k a0 (a0.length:Int) 0 M5 M6 M7 M8 M9 Na Nb Nc Nd Nf Ng).bind fun z=>
 match z with
 |.inl z1=>some (-1)
 |.inr z2=>some z2
def xM (k:Nat)(a0:List zB)(M5:Int)(M6:List zI)(M7:EQ)(M8:AC)(M9:EQ)(Na:AC)(Nb:EQ)(Nc:List zB)(Nd:AC)(Nf:Int)(Ng:Bool):Option Bool:=
 (H8 k a0 M5 M6 M7 M8 M9 Na Nb Nc Nd Nf Ng).bind fun x0=>
 some (decide (x0≥0))
def xL (k:Nat)(a0:yN):Option Bool:=
 (xJ k a0.2.2.2.2.2.2.2.1).bind fun x0=>
 bif x0 then ((xK k a0.2.2.2.2.2.2.2.2.1).bind fun x1=>
  bif x1 then ((xM k a0.2.2.2.2.2.2.2.1 a0.1 a0.2.1 a0.2.2.1 a0.2.2.2.1 a0.2.2.2.2.1 a0.2.2.2.2.2.1 a0.2.2.2.2.2.2.1 a0.2.2.2.2.2.2.2.1 a0.2.2.2.2.2.2.2.2.1 a0.2.2.2.2.2.2.2.2.2.1 a0.2.2.2.2.2.2.2.2.2.2).bind fun x2=>
   some (!x2))
  else some false)
 else some false
def xQ (k:Nat)(DH:Int)(DI:List vA)(DJ tH tI a1:Int):Option Bool:=
 some (decide (a1=tH))
abbrev Jf:Type:=yA×yN×AC
abbrev Jd:Type:=List zI→Int→Int→yA→yN→AC→Option Jf
def tv (k:Nat)(rec:Jd)(fM:List zI)(s45 DK:Int)(b0:yA)(b1:yN)(r2:AC):Option Jf:=
 bif decide (DK < s45) then (bif zC DK fM.length then (bif qT (r2.length+1) 8 then(rec fM s45 (zA (DK+1)) b0 b1 (r2++[(fM.getD DK.toNat (0,0,0)).1]))
   else none)
  else none)
 else some (b0,b1,r2)
def tu (k:Nat):Nat→Jd:=yT (fun _ _ _ _ _ _=>none) (tv k)
def xP (k:Nat)(a0:yA)(a1:yN):Option Bool:=
 (yU k a1.1 0 a0.2.2.2.1).bind fun x0=>
 bif !x0 then some false
 else(sm k a1.2.1 a1.2.2.1 a1.2.2.2.1 a1.2.2.2.2.1).bind fun x1=>
 bif !x1 then some false
 else bif !(decide ((a1.2.1.length:Int)=a0.1)) then some false
 else(xO k a0 a1).bind fun x2=>
 bif !x2 then some false
 else(xL k a1).bind fun x3=>
 bif !x3 then some false
 else(tu k k a1.2.1 (a1.2.1.length:Int) 0 a0 a1 []).bind fun z=>
 (sF k z.2.2).bind fun x4=>
 bif !x4.2 then some false
 else bif !(decide (x4.1=z.2.1.2.2.2.2.2.2.2.2.2.1)) then some false
 else(yU k x4.1 0 1152921504606846976).bind fun x5=>
 bif !x5 then some false
 else(xQ k z.1.1 z.1.2.1 z.1.2.2.1 z.1.2.2.2.1 z.1.2.2.2.2 z.2.1.1).bind fun x6=>
 bif jC z.2.1.2.2.2.2.2.2.2.2.2.2 x6 then (bif !z.2.1.2.2.2.2.2.2.2.2.2.2 then some true
  else some (decide ((z.2.1.2.2.2.2.2.2.2.1.length:Int)=0)))
 else some false
abbrev Jg:Type:=EQ→Int→Int→Option (Unit⊕Bool)
def rT (k:Nat)(rec:Jg)(s0:EQ)(s1 s5:Int):Option (Unit⊕Bool):=
 bif decide (s5 < s1) then (bif zC s5 s0.length then (bif !(decide (((s0.getD s5.toNat []).length:Int)=s1)) then some (.inr false)
   else rec s0 s1 (zA (s5+1)))
  else none)
 else some (.inl ())
def wk (k:Nat):Nat→Jg
 |0,_,_,_=>none
 |n+1,s0,s1,s5=>rT k (wk k n) s0 s1 s5
def wj (k:Nat)(a0:EQ)(a1:Int):Option Bool:=
 bif !(decide ((a0.length:Int)=a1)) then some false
 else(wk k k a0 a1 0).bind fun z=>
 match z with
 |.inl z1=>some true
 |.inr z2=>some z2
def A7 (k:Nat)(lh lj gC:Int):Option Bool:=
 bif decide (lh > (-4611686018427387904)) then (bif decide (lh < 4611686018427387904) then (bif decide (lj ≥ 0) then (bif decide (lj ≤ 2305843009213693952) then (bif decide (gC≥0) then some (decide (gC≤2305843009213693952))
     else some false)
    else some false)
   else some false)
  else some false)
 else some false
def wi (k:Nat)(a0:Int):Option Bool:=
 bif decide (a0≥(-1)) then some (decide (a0≤2305843009213693952))
 else some false
abbrev Jn:Type:=(Int×Int×(List zI)×EQ×AC×EQ)⊕Bool
abbrev Jl:Type:=Int→Int→Int→List zI→EQ→AC→EQ→Option Jn
def rV (k:Nat)(rec:Jl)(s3 s4 s5:Int)(aa:List zI)(ae:EQ)(ag:AC)(af:EQ):Option Jn:=
 bif decide (s5 < s3) then (bif zC s4 ae.length then (bif zC s5 (ae.getD s4.toNat []).length then ((wi k ((ae.getD s4.toNat []).getD s5.toNat 0)).bind fun x4=>
    bif !x4 then some (.inr false)
    else bif zC s4 af.length then (bif zC s5 (af.getD s4.toNat []).length then (bif decide (((af.getD s4.toNat []).getD s5.toNat 0)≤(-72057594037927936)) then some (.inr false)
      else bif zC s4 af.length then (bif zC s5 (af.getD s4.toNat []).length then (bif decide (((af.getD s4.toNat []).getD s5.toNat 0)≥72057594037927936) then some (.inr false)
        else bif zC s4 af.length then (bif zC s5 (af.getD s4.toNat []).length then (bif zC s5 af.length then (bif zC s4 (af.getD s5.toNat []).length then (bif !(decide (((af.getD s4.toNat []).getD s5.toNat 0)=(zA (0-((af.getD s5.toNat []).getD s4.toNat 0))))) then some (.inr false)
            else rec s3 s4 (zA (s5+1)) aa ae ag af)
           else none)
          else none)
         else none)
        else none)
       else none)
      else none)
     else none)
    else none)
   else none)
  else none)
 else some (.inl (s3,s4,aa,ae,ag,af))
def rU (k:Nat):Nat→Jl
 |0,_,_,_,_,_,_,_=>none
 |n+1,s3,s4,s5,aa,ae,ag,af=>rV k (rU k n) s3 s4 s5 aa ae ag af
abbrev Jo:Type:=Int→Int→List zI→EQ→AC→EQ→Option (Unit⊕Bool)
def rY (k:Nat)(rec:Jo)(s3 s4:Int)(aa:List zI)(ae:EQ)(ag:AC)(af:EQ):Option (Unit⊕Bool):=
 bif decide (s4 < s3) then (bif zC s4 aa.length then ((A7 k (aa.getD s4.toNat (0,0,0)).1 (aa.getD s4.toNat (0,0,0)).2.1 (aa.getD s4.toNat (0,0,0)).2.2).bind fun x2=>
   bif !x2 then some (.inr false)
   else bif zC s4 ag.length then ((wi k (ag.getD s4.toNat 0)).bind fun x3=>
    bif !x3 then some (.inr false)
    else(rU k k s3 s4 0 aa ae ag af).bind fun z=>
    match z with
    |.inl z1=>rec z1.1 (zA (z1.2.1+1)) z1.2.2.1 z1.2.2.2.1 z1.2.2.2.2.1 z1.2.2.2.2.2
    |.inr z2=>some (.inr z2))
   else none)
  else none)
 else some (.inl ())
def rW (k:Nat):Nat→Jo
 |0,_,_,_,_,_,_=>none
 |n+1,s3,s4,aa,ae,ag,af=>rY k (rW k n) s3 s4 aa ae ag af
def rZ (k:Nat)(aR:List zI)(bm:EQ)(bg:AC)(bd:EQ):Option Bool:=
 bif decide ((aR.length:Int)<1) then some false
 else bif decide ((aR.length:Int)>6) then some false
 else(wj k bm (aR.length:Int)).bind fun x0=>
 bif !x0 then some false
 else(wj k bd (aR.length:Int)).bind fun x1=>
 bif !x1 then some false
 else bif !(decide ((bg.length:Int)=(aR.length:Int))) then some false
 else(rW k k (aR.length:Int) 0 aR bm bg bd).bind fun z3=>
 match z3 with
 |.inl z4=>some true
 |.inr z5=>some z5
def BU (k:Nat)(a0:Int):Option AC:=
 some [(qI .i64 a0 65535),(qI .i64 (shr .i64 a0 16) 65535),(qI .i64 (shr .i64 a0 32) 65535),(qI .i64 (shr .i64 a0 48) 65535)]
def U7 (k:Nat)(rec:Int→AC→Option AC)(s3:Int)(r0:AC):Option AC:=
 bif decide ((zA (s3 + 1)) < (r0.length : Int)) then (bif zC (zA (s3 + 1)) r0.length then (bif zC s3 r0.length then (bif zC (zA (s3 + 1)) r0.length then (let y0:AC:=(r0.set (zA (s3+1)).toNat (zA ((r0.getD (zA (s3+1)).toNat 0)+(shr .i64 (r0.getD s3.toNat 0) 16))))
     bif zC s3 y0.length then (bif zC s3 y0.length then(rec (zA (s3+1)) (y0.set s3.toNat (qI .i64 (y0.getD s3.toNat 0) 65535)))
      else none)
     else none)
    else none)
   else none)
  else none)
 else some r0
def Jt (k:Nat):Nat→Int→AC→Option AC:=yT (fun _ _=>none) (U7 k)
def sS (k:Nat)(a0:AC):Option AC:=
 (Jt k k 0 a0).bind fun z=>
 some z
abbrev Jw:Type:=Int×Int×AC×AC
abbrev Ju:Type:=Int→Int→Int→AC→AC→Option Jw
def Ve (k:Nat)(rec:Ju)(s1 s7 s8:Int)(r0 r1:AC):Option Jw:=
 bif decide (s8 < 4) then (bif !(decide ((IntKind.wrap .u64 ((zA (16 * s8)))) < 0)) then (bif zC (zA (s7 + s8)) r1.length then (bif zC s7 r0.length then (bif zC (zA (s7 + s8)) r1.length then (let y0:AC:=(r1.set (zA (s7+s8)).toNat (zA ((r1.getD (zA (s7+s8)).toNat 0)+(zA ((r0.getD s7.toNat 0)*(qI .i64 (shr .i64 s1 (IntKind.wrap .u64 ((zA (16*s8))))) 65535))))))
      rec s1 s7 (zA (s8+1)) r0 y0)
     else none)
    else none)
   else none)
  else none)
 else some (s1,s7,r0,r1)
def Jx (k:Nat):Nat→Ju:=yT (fun _ _ _ _ _=>none) (Ve k)
abbrev Jy:Type:=Int→Int→AC→AC→Option AC
def Vf (k:Nat)(rec:Jy)(s1 s7:Int)(r0 r1:AC):Option AC:=
 bif decide (s7 < 4) then ((Jx k k s1 s7 0 r0 r1).bind fun z=>
  rec z.1 (zA (z.2.1+1)) z.2.2.1 z.2.2.2)
 else some r1
def BR (k:Nat):Nat→Jy:=yT (fun _ _ _ _=>none) (Vf k)
def BS (k:Nat)(a0 a1:Int):Option AC:=
 (BU k a0).bind fun x0=>
 (BR k k a1 0 x0 [0,0,0,0,0,0,0,0,0]).bind fun z1=>
 (sS k z1).bind fun x1=>
 some x1
def Vk (k:Nat)(rec:Int→Int→AC→Option AC)(s1 s5:Int)(r0:AC):Option AC:=
 bif decide (s5 < (r0.length : Int)) then (bif zC s5 r0.length then (bif zC s5 r0.length then(rec s1 (zA (s5+1)) (r0.set s5.toNat (zA ((r0.getD s5.toNat 0)*s1))))
   else none)
  else none)
 else some r0
def BP (k:Nat):Nat→Int→Int→AC→Option AC:=yT (fun _ _ _=>none) (Vk k)
def BO (k:Nat)(a0:AC)(a1:Int):Option AC:=
 (BP k k a1 0 a0).bind fun z=>
 (sS k z).bind fun x0=>
 some x0
abbrev JC:Type:=Int→Int→Int→AC→Option AC
def Vs (k:Nat)(rec:JC)(s1 s6 s7:Int)(r0:AC):Option AC:=
 bif decide (s7 ≥ 0) then (bif zC s7 r0.length then (bif !(decide (s1 = 0)) then (bif zC s7 r0.length then (let y0:AC:=(r0.set s7.toNat (zA (Int.tdiv (zA ((shl .i64 s6 16)+(r0.getD s7.toNat 0))) s1)))
     bif !(decide (s1=0)) then(rec s1 (Int.tmod (zA ((shl .i64 s6 16)+(r0.getD s7.toNat 0))) s1) (zA (s7-1)) y0)
     else none)
    else none)
   else none)
  else none)
 else some r0
def xo (k:Nat):Nat→JC:=yT (fun _ _ _ _=>none) (Vs k)
abbrev JD:Type:=Int→AC→Option (AC⊕vJ)
def Vt (k:Nat)(rec:JD)(s9:Int)(r0:AC):Option (AC⊕vJ):=
 bif decide (s9 < (r0.length : Int)) then (bif zC s9 r0.length then (bif !(decide ((r0.getD s9.toNat 0)=0)) then some (.inr (0,false))
   else rec (zA (s9+1)) r0)
  else none)
 else some (.inl r0)
def sU (k:Nat):Nat→JD:=yT (fun _ _=>none) (Vt k)
def BQ (k:Nat)(a0:AC)(a1:Int):Option vJ:=
 (xo k k a1 0 (zA ((a0.length:Int)-1)) a0).bind fun z=>
 (sU k k 4 z).bind fun z1=>
 match z1 with
 | .inl z2 => bif zC 3 z2.length then (bif decide ((z2.getD 3 0)≥32768) then some (0,false)
   else bif zC 3 z2.length then (bif zC 2 z2.length then (bif zC 1 z2.length then (bif zC 0 z2.length then some ((wF .i64 (wF .i64 (wF .i64 (shl .i64 (z2.getD 3 0) 48) (shl .i64 (z2.getD 2 0) 32)) (shl .i64 (z2.getD 1 0) 16)) (z2.getD 0 0)),true)
      else none)
     else none)
    else none)
   else none)
  else none
 |.inr z3=>some (z3.1,z3.2)
def B1 (k:Nat)(a0 a1 a2:Int):Option vJ:=
 bif decide (a0<0) then some (0,false)
 else bif decide (a1<0) then some (0,false)
 else bif decide (a2<0) then some (0,false)
 else bif decide (a2>10000) then some (0,false)
 else(BS k a0 a1).bind fun x0=>
 (BO k x0 (zA (10000-a2))).bind fun x1=>
 (BQ k x1 10000).bind fun x2=>
 some (x2.1,x2.2)
def B3 (k:Nat)(a0 a1:Int):Option vJ:=
 bif decide (a1 > 0) then (bif decide (a0>(zA (9223372036854775807-a1))) then some (0,false)
  else bif decide (a1 < 0) then (bif decide (a0<(zA ((-9223372036854775808)-a1))) then some (0,false)
   else some ((zA (a0+a1)),true))
  else some ((zA (a0+a1)),true))
 else bif decide (a1 < 0) then (bif decide (a0<(zA ((-9223372036854775808)-a1))) then some (0,false)
  else some ((zA (a0+a1)),true))
 else some ((zA (a0+a1)),true)
abbrev JF:Type:=List vA→AC→AC→Int→Int→Option (Int⊕vJ)
def sW (k:Nat)(rec:JF)(s0:List vA)(s1 s2:AC)(s8 s9:Int):Option (Int⊕vJ):=
 bif decide (s9 < (s0.length : Int)) then (bif zC s9 s1.length then (bif zC s9 s2.length then (bif zC s9 s0.length then ((B1 k (s1.getD s9.toNat 0) (s2.getD s9.toNat 0) (s0.getD s9.toNat (0,0)).2).bind fun x0=>
     (B3 k s8 x0.1).bind fun x1=>
     bif !x0.2 then some (.inr (0,false))
     else bif !x1.2 then some (.inr (0,false))
     else rec s0 s1 s2 x1.1 (zA (s9+1)))
    else none)
   else none)
  else none)
 else some (.inl s8)
def xu (k:Nat):Nat→JF:=yT (fun _ _ _ _ _=>none) (sW k)
def B4 (k:Nat)(a0:List vA)(a1 a2:AC):Option vJ:=
 bif !(decide ((a1.length:Int)=(a0.length:Int))) then some (0,false)
 else bif !(decide ((a2.length:Int)=(a0.length:Int))) then some (0,false)
 else(xu k k a0 a1 a2 0 0).bind fun z=>
 match z with
 |.inl z1=>some (z1,true)
 |.inr z2=>some (z2.1,z2.2)
abbrev JI:Type:=(yA×yN)⊕Bool
abbrev JH:Type:=Int→yA→yN→Option JI
def tf (k:Nat)(rec:JH)(s5:Int)(b0:yA)(b1:yN):Option JI:=
 bif decide (s5 < (b1.2.2.2.2.2.1.length : Int)) then (bif zC s5 b1.2.2.2.2.2.1.length then (bif decide ((b1.2.2.2.2.2.1.getD s5.toNat 0)<0) then some (.inr false)
   else bif zC s5 b1.2.2.2.2.2.1.length then (bif decide ((b1.2.2.2.2.2.1.getD s5.toNat 0)>1048576) then some (.inr false)
    else rec (zA (s5+1)) b0 b1)
   else none)
  else none)
 else some (.inl (b0,b1))
def mN (k:Nat):Nat→JH:=yT (fun _ _ _=>none) (tf k)
abbrev JL:Type:=(Int×yA×yN)⊕Bool
abbrev JJ:Type:=Int→Int→yA→yN→Option JL
def tg (k:Nat)(rec:JJ)(s6 s7:Int)(b0:yA)(b1:yN):Option JL:=
 bif zC s6 b1.2.2.2.2.2.2.1.length then (bif decide (s7 < ((b1.2.2.2.2.2.2.1.getD s6.toNat []).length : Int)) then (bif zC s6 b1.2.2.2.2.2.2.1.length then (bif zC s7 (b1.2.2.2.2.2.2.1.getD s6.toNat []).length then (bif decide (((b1.2.2.2.2.2.2.1.getD s6.toNat []).getD s7.toNat 0)<0) then some (.inr false)
     else bif zC s6 b1.2.2.2.2.2.2.1.length then (bif zC s7 (b1.2.2.2.2.2.2.1.getD s6.toNat []).length then (bif decide (((b1.2.2.2.2.2.2.1.getD s6.toNat []).getD s7.toNat 0)>1099511627776) then some (.inr false)
       else rec s6 (zA (s7+1)) b0 b1)
      else none)
     else none)
    else none)
   else none)
  else some (.inl (s6,b0,b1)))
 else none
def pb (k:Nat):Nat→JJ:=yT (fun _ _ _ _=>none) (tg k)
abbrev JM:Type:=Int→yA→yN→Option (Unit⊕Bool)
def th (k:Nat)(rec:JM)(s6:Int)(b0:yA)(b1:yN):Option (Unit⊕Bool):=
 bif decide (s6 < b0.1) then (bif zC s6 b1.2.2.2.2.2.2.1.length then (bif !(decide (((b1.2.2.2.2.2.2.1.getD s6.toNat []).length:Int)=(b0.2.1.length:Int))) then some (.inr false)
   else(pb k k s6 0 b0 b1).bind fun z2=>
   match z2 with
   | .inl z3 => bif zC z3.1 z3.2.2.2.2.2.2.2.2.1.length then ((B4 k z3.2.1.2.1 z3.2.2.2.2.2.2.2.1 (z3.2.2.2.2.2.2.2.2.1.getD z3.1.toNat [])).bind fun x0=>
     bif !x0.2 then some (.inr false)
     else bif decide (x0.1>1152921504606846976) then some (.inr false)
     else bif zC z3.1 z3.2.2.2.1.length then (bif !(decide ((z3.2.2.2.1.getD z3.1.toNat (0,0,0)).2.1=x0.1)) then some (.inr false)
      else rec (zA (z3.1+1)) z3.2.1 z3.2.2)
     else none)
    else none
   |.inr z4=>some (.inr z4))
  else none)
 else some (.inl ())
def mO (k:Nat):Nat→JM:=yT (fun _ _ _=>none) (th k)
def xC (k:Nat)(a0:yA)(a1:yN):Option Bool:=
 bif !(decide ((a1.2.2.2.2.2.1.length:Int)=(a0.2.1.length:Int))) then some false
 else bif !(decide ((a1.2.2.2.2.2.2.1.length:Int)=a0.1)) then some false
 else(mN k k 0 a0 a1).bind fun z=>
 match z with
 |.inl z1=>(mO k k 0 z1.1 z1.2).bind fun z5=>
  match z5 with
  |.inl z6=>some true
  |.inr z7=>some z7
 |.inr z8=>some z8
abbrev JN:Type:=List zB→Int→Int→Option (Unit⊕Int)
def sA (k:Nat)(rec:JN)(s0:List zB)(s1 s5:Int):Option (Unit⊕Int):=
 bif decide (s5 < (s0.length : Int)) then (bif zC s5 s0.length then (bif decide ((s0.getD s5.toNat (0,0,0,0,0,0,0)).1=s1) then some (.inr s5)
   else rec s0 s1 (zA (s5+1)))
  else none)
 else some (.inl ())
def sy (k:Nat):Nat→JN
 |0,_,_,_=>none
 |n+1,s0,s1,s5=>sA k (sy k n) s0 s1 s5
def Bv (k:Nat)(a0:List zB)(a1:Int):Option Int:=
 (sy k k a0 a1 0).bind fun z=>
 match z with
 |.inl z1=>some (-1)
 |.inr z2=>some z2
def B2 (k:Nat)(dy bJ cm dI cO dz dh DE fk j6 m9 j7 DF DG:Int):Option Bool:=
 bif decide (bJ<fk) then some true
 else bif decide (bJ=fk) then some (decide (cO≤j7))
 else some false
abbrev JP:Type:=List zB→Int→Option I4
def sZ (k:Nat)(rec:JP)(s0:List zB)(s3:Int):Option I4:=
 bif decide (s3 < (s0.length : Int)) then (bif zC s3 s0.length then ((Bv k s0 (s0.getD s3.toNat (0,0,0,0,0,0,0)).1).bind fun x0=>
   bif !(decide (x0=s3)) then some (.inr false)
   else bif decide (s3 > 0) then (bif zC (zA (s3 - 1)) s0.length then (bif zC s3 s0.length then ((B2 k (s0.getD (zA (s3-1)).toNat (0,0,0,0,0,0,0)).1 (s0.getD (zA (s3-1)).toNat (0,0,0,0,0,0,0)).2.1 (s0.getD (zA (s3-1)).toNat (0,0,0,0,0,0,0)).2.2.1 (s0.getD (zA (s3-1)).toNat (0,0,0,0,0,0,0)).2.2.2.1 (s0.getD (zA (s3-1)).toNat (0,0,0,0,0,0,0)).2.2.2.2.1 (s0.getD (zA (s3-1)).toNat (0,0,0,0,0,0,0)).2.2.2.2.2.1 (s0.getD (zA (s3-1)).toNat (0,0,0,0,0,0,0)).2.2.2.2.2.2 (s0.getD s3.toNat (0,0,0,0,0,0,0)).1 (s0.getD s3.toNat (0,0,0,0,0,0,0)).2.1 (s0.getD s3.toNat (0,0,0,0,0,0,0)).2.2.1 (s0.getD s3.toNat (0,0,0,0,0,0,0)).2.2.2.1 (s0.getD s3.toNat (0,0,0,0,0,0,0)).2.2.2.2.1 (s0.getD s3.toNat (0,0,0,0,0,0,0)).2.2.2.2.2.1 (s0.getD s3.toNat (0,0,0,0,0,0,0)).2.2.2.2.2.2).bind fun x1=>
      bif !x1 then some (.inr false)
      else rec s0 (zA (s3+1)))
     else none)
    else none)
   else rec s0 (zA (s3+1)))
  else none)
 else some (.inl s0)
def mK (k:Nat):Nat→JP
 |0,_,_=>none
 |n+1,s0,s3=>sZ k (mK k n) s0 s3
def xz (k:Nat)(a0:List zB):Option Bool:=
 (mK k k a0 0).bind fun z=>
 match z with
 |.inl z1=>some (decide ((z1.length:Int)≤40))
 |.inr z2=>some z2
abbrev JS:Type:=AC→Int→Option (AC⊕Bool)
def ta (k:Nat)(rec:JS)(s0:AC)(s3:Int):Option (AC⊕Bool):=
 bif decide (s3 < (s0.length : Int)) then (bif zC s3 s0.length then (bif decide ((s0.getD s3.toNat 0)<1) then some (.inr false)
   else bif decide (s3 > 0) then (bif zC s3 s0.length then (bif zC (zA (s3 - 1)) s0.length then (bif decide ((s0.getD s3.toNat 0)≤(s0.getD (zA (s3-1)).toNat 0)) then some (.inr false)
      else rec s0 (zA (s3+1)))
     else none)
    else none)
   else rec s0 (zA (s3+1)))
  else none)
 else some (.inl s0)
def oY (k:Nat):Nat→JS:=yT (fun _ _=>none) (ta k)
def xA (k:Nat)(a0:AC):Option Bool:=
 (oY k k a0 0).bind fun z=>
 match z with
 |.inl z1=>some (decide ((z1.length:Int)≤200))
 |.inr z2=>some z2
def Bj (k:Nat)(aR:List zI)(bm:EQ)(bg:AC)(bd:EQ)(DE fk j6 m9 j7 DF DG:Int):Option Bool:=
 bif decide (fk ≥ 0) then (bif decide (fk < (aR.length : Int)) then (bif decide (j6 ≥ 0) then (bif decide (j6 < (aR.length : Int)) then (bif !(decide (fk = j6)) then (bif decide (m9 ≥ 1) then (bif decide (m9 ≤ 1099511627776) then (bif decide (j7≥1) then some (decide (j7≤3))
        else some false)
       else some false)
      else some false)
     else some false)
    else some false)
   else some false)
  else some false)
 else some false
abbrev JU:Type:=AC→Int→Int→Option (Unit⊕Bool)
def tc (k:Nat)(rec:JU)(s0:AC)(s1 s5:Int):Option (Unit⊕Bool):=
 bif decide (s5 < (s0.length : Int)) then (bif zC s5 s0.length then (bif decide ((s0.getD s5.toNat 0)=s1) then some (.inr true)
   else rec s0 s1 (zA (s5+1)))
  else none)
 else some (.inl ())
def oZ (k:Nat):Nat→JU:=yT (fun _ _ _=>none) (tc k)
def B8 (k:Nat)(a0:AC)(a1:Int):Option Bool:=
 (oZ k k a0 a1 0).bind fun z=>
 match z with
 |.inl z1=>some false
 |.inr z2=>some z2
abbrev JW:Type:=Int→yN→Option (Unit⊕Bool)
def td (k:Nat)(rec:JW)(s3:Int)(b0:yN):Option (Unit⊕Bool):=
 bif decide (s3 < (b0.2.2.2.2.2.2.2.1.length : Int)) then (bif zC s3 b0.2.2.2.2.2.2.2.1.length then ((Bj k b0.2.1 b0.2.2.1 b0.2.2.2.1 b0.2.2.2.2.1 (b0.2.2.2.2.2.2.2.1.getD s3.toNat (0,0,0,0,0,0,0)).1 (b0.2.2.2.2.2.2.2.1.getD s3.toNat (0,0,0,0,0,0,0)).2.1 (b0.2.2.2.2.2.2.2.1.getD s3.toNat (0,0,0,0,0,0,0)).2.2.1 (b0.2.2.2.2.2.2.2.1.getD s3.toNat (0,0,0,0,0,0,0)).2.2.2.1 (b0.2.2.2.2.2.2.2.1.getD s3.toNat (0,0,0,0,0,0,0)).2.2.2.2.1 (b0.2.2.2.2.2.2.2.1.getD s3.toNat (0,0,0,0,0,0,0)).2.2.2.2.2.1 (b0.2.2.2.2.2.2.2.1.getD s3.toNat (0,0,0,0,0,0,0)).2.2.2.2.2.2).bind fun x2=>
   bif !x2 then some (.inr false)
   else bif decide ((b0.2.2.2.2.2.2.2.1.getD s3.toNat (0,0,0,0,0,0,0)).2.2.2.2.2.1<0) then some (.inr false)
   else bif decide ((b0.2.2.2.2.2.2.2.1.getD s3.toNat (0,0,0,0,0,0,0)).2.2.2.2.2.2<(b0.2.2.2.2.2.2.2.1.getD s3.toNat (0,0,0,0,0,0,0)).2.2.2.2.2.1) then some (.inr false)
   else bif decide ((b0.2.2.2.2.2.2.2.1.getD s3.toNat (0,0,0,0,0,0,0)).2.2.2.2.2.2>1048576) then some (.inr false)
   else(B8 k b0.2.2.2.2.2.2.2.2.1 (b0.2.2.2.2.2.2.2.1.getD s3.toNat (0,0,0,0,0,0,0)).1).bind fun x3=>
   bif !x3 then some (.inr false)
   else rec (zA (s3+1)) b0)
  else none)
 else some (.inl ())
def mM (k:Nat):Nat→JW:=yT (fun _ _=>none) (td k)
def xB (k:Nat)(a0:yN):Option Bool:=
 (xz k a0.2.2.2.2.2.2.2.1).bind fun x0=>
 bif !x0 then some false
 else(xA k a0.2.2.2.2.2.2.2.2.1).bind fun x1=>
 bif !x1 then some false
 else(mM k k 0 a0).bind fun z=>
 match z with
 |.inl z1=>some true
 |.inr z2=>some z2
def B7 (k:Nat)(pA nc a1:Int):Option vA:=
 some ((zA ((zA (pA+(shr .i64 a1 32)))+(shr .i64 (zA (nc+(qI .i64 a1 4294967295))) 32))),(qI .i64 (zA (nc+(qI .i64 a1 4294967295))) 4294967295))
abbrev JY:Type:=AC→Int→Int→Int→Option vA
def sY (k:Nat)(rec:JY)(s0:AC)(s5 aa ae:Int):Option vA:=
 bif decide (s5 < (s0.length : Int)) then (bif zC s5 s0.length then ((B7 k aa ae (s0.getD s5.toNat 0)).bind fun x0=>
   rec s0 (zA (s5+1)) x0.1 x0.2)
  else none)
 else some (aa,ae)
def xy (k:Nat):Nat→JY
 |0,_,_,_,_=>none
 |n+1,s0,s5,aa,ae=>sY k (xy k n) s0 s5 aa ae
def xx (k:Nat)(a0:AC):Option vJ:=
 (xy k k a0 0 0 0).bind fun z=>
 bif decide (z.1<(-2147483648)) then some (0,false)
 else bif decide (z.1≥2147483648) then some (0,false)
 else some ((zA ((shl .i64 z.1 32)+z.2)),true)
abbrev J0:Type:=Int→yA→yN→AC→Option Jf
def tj (k:Nat)(rec:J0)(s6:Int)(b0:yA)(b1:yN)(r2:AC):Option Jf:=
 bif decide (s6 < b0.1) then (bif zC s6 b1.2.1.length then (bif qT (r2.length + 1) 8 then (let y0:AC:=(r2++[(b1.2.1.getD s6.toNat (0,0,0)).1])
    rec (zA (s6+1)) b0 b1 y0)
   else none)
  else none)
 else some (b0,b1,r2)
def pc (k:Nat):Nat→J0:=yT (fun _ _ _ _=>none) (tj k)
def xD (k:Nat)(a0:yA)(a1:yN):Option Bool:=
 bif decide (a1.1<0) then some false
 else bif decide (a1.1>a0.2.2.2.1) then some false
 else(rZ k a1.2.1 a1.2.2.1 a1.2.2.2.1 a1.2.2.2.2.1).bind fun x0=>
 bif !x0 then some false
 else bif !(decide ((a1.2.1.length:Int)=a0.1)) then some false
 else(xC k a0 a1).bind fun x1=>
 bif !x1 then some false
 else(xB k a1).bind fun x2=>
 bif !x2 then some false
 else(pc k k 0 a0 a1 []).bind fun z=>
 (xx k z.2.2).bind fun x3=>
 bif x3.2 then (bif decide (x3.1 = z.2.1.2.2.2.2.2.2.2.2.2.1) then (bif decide (x3.1 ≥ 0) then (bif decide (x3.1 ≤ 1152921504606846976) then (bif jC z.2.1.2.2.2.2.2.2.2.2.2.2 (decide (z.2.1.1 = z.1.2.2.2.1)) then (bif !z.2.1.2.2.2.2.2.2.2.2.2.2 then some true
      else some (decide ((z.2.1.2.2.2.2.2.2.2.1.length:Int)=0)))
     else some false)
    else some false)
   else some false)
  else some false)
 else some false
def xS (k:Nat)(a0:Int):Option yA:=
 bif decide ((qI .i64 a0 3)=1) then some (4,[(100,1000),(7,0)],12,20,100)
 else bif decide ((qI .i64 a0 3)=2) then some (3,[],20,20,4)
 else bif decide ((qI .i64 a0 3)=3) then some (3,[(100,1000),(7,0)],0,6,1)
 else some (3,[(100,1000),(7,0)],12,20,4)
def J4 (k:Nat)(a0:Int):Option Bool:=
 bif decide (a0≥0) then some (decide (a0≤6))
 else some false
def WD (k:Nat)(rec:JC)(s1 bj aP:Int)(r0:AC):Option AC:=
 bif decide (aP < bj) then (bif zC aP r0.length then(rec s1 bj (zA (aP+1)) (r0.set aP.toNat s1))
  else none)
 else some r0
def Cy (k:Nat):Nat→JC
 |0,_,_,_,_=>none
 |n+1,s1,bj,aP,r0=>WD k (Cy k n) s1 bj aP r0
def xV (k:Nat)(a0 a1:Int):Option AC:=
 (J4 k a0).bind fun x0=>
 bif !x0 then some []
 else bif AG a0 a0 8 then ((Cy k k a1 ((List.replicate a0.toNat (0:Int)).length:Int) 0 (List.replicate a0.toNat (0:Int))).bind fun z=>
  some z)
 else none
abbrev J7:Type:=Int→Int→Int→Int→EQ→Option EQ
def WJ (k:Nat)(rec:J7)(s0 s1 bj aP:Int)(m0:EQ):Option EQ:=
 bif decide (aP < bj) then ((xV k s0 s1).bind fun x1=>
  bif zC aP m0.length then(rec s0 s1 bj (zA (aP+1)) (m0.set aP.toNat x1))
  else none)
 else some m0
def Cz (k:Nat):Nat→J7
 |0,_,_,_,_,_=>none
 |n+1,s0,s1,bj,aP,m0=>WJ k (Cz k n) s0 s1 bj aP m0
def CA (k:Nat)(a0 a1:Int):Option EQ:=
 (J4 k a0).bind fun x0=>
 bif !x0 then some []
 else bif AG a0 a0 24 then ((Cz k k a0 a1 ((List.replicate a0.toNat ([]:AC)).length:Int) 0 (List.replicate a0.toNat ([]:AC))).bind fun z=>
  some z)
 else none
abbrev Ka:Type:=Int×yA×j5×j5×(List zI)×EQ×AC×EQ×AC
abbrev J9:Type:=Int→List vA→Int→Int→yA→j5→j5→List zI→EQ→AC→EQ→AC→Option Ka
def WS (k:Nat)(rec:J9)(s3:Int)(bV:List vA)(s21 DL:Int)(b0:yA)(b1 b2:j5)(r3:List zI)(m4:EQ)(r5:AC)(m6:EQ)(r7:AC):Option Ka:=
 bif decide (DL < s21) then (bif zC DL bV.length then (bif qT (r7.length+1) 8 then(rec s3 bV s21 (zA (DL+1)) b0 b1 b2 r3 m4 r5 m6 (r7++[(bV.getD DL.toNat (0,0)).1]))
   else none)
  else none)
 else some (s3,b0,b1,b2,r3,m4,r5,m6,r7)
def Kb (k:Nat):Nat→J9:=yT (fun _ _ _ _ _ _ _ _ _ _ _ _=>none) (WS k)
abbrev Ke:Type:=j5×j5×(List zI)×EQ×AC×EQ×AC×EQ
abbrev Kc:Type:=Int→Int→yA→j5→j5→List zI→EQ→AC→EQ→AC→EQ→Option Ke
def WT (k:Nat)(rec:Kc)(pB j8:Int)(b0:yA)(b1 b2:j5)(r3:List zI)(m4:EQ)(r5:AC)(m6:EQ)(r7:AC)(m8:EQ):Option Ke:=
 bif decide (j8 < pB) then (bif AG (b0.2.1.length : Int) (b0.2.1.length : Int) 8 then (bif qT (m8.length+1) 24 then(rec pB (zA (j8+1)) b0 b1 b2 r3 m4 r5 m6 r7 (m8++[(List.replicate b0.2.1.length (0:Int))]))
   else none)
  else none)
 else some (b1,b2,r3,m4,r5,m6,r7,m8)
def Kf (k:Nat):Nat→Kc:=yT (fun _ _ _ _ _ _ _ _ _ _ _=>none) (WT k)
def B6 (k:Nat)(a0:yA):Option yN:=
 bif AG a0.1 a0.1 24 then ((CA k a0.1 (-1)).bind fun x0=>
  (xV k a0.1 (-1)).bind fun x1=>
  (CA k a0.1 0).bind fun x2=>
  (Kb k k a0.1 a0.2.1 (a0.2.1.length:Int) 0 a0 (0,0,false) (0,0,false) (List.replicate a0.1.toNat ((0,0,0):Int×Int×Int)) x0 x1 x2 []).bind fun z=>
  (Kf k k z.1 0 z.2.1 z.2.2.1 z.2.2.2.1 z.2.2.2.2.1 z.2.2.2.2.2.1 z.2.2.2.2.2.2.1 z.2.2.2.2.2.2.2.1 z.2.2.2.2.2.2.2.2 []).bind fun z1=>
  some (z1.2.1.1,(yNs z1 ([],[],z1.2.1.2))))
 else none
abbrev Kj:Type:=Int×Int×Int×Int×Int×Int×Int×Int×Int×Int×Int×Int×Int×Int
abbrev Kh:Type:=AC→Int→Int→Int→Int→Int→Int→Int→Int→Int→Int→Int→Int→Int→Int→Int→Option Kj
def WZ (k:Nat)(rec:Kh)(s1:AC)(s6 aa ae ag af aN aV aW ao aw ax aB aH aI aJ:Int):Option Kj:=
 bif decide (s6 < (s1.length : Int)) then (bif decide (s6 < 6) then (bif zC s6 s1.length then (bif decide (s6=0) then(rec s1 (zA (s6+1)) aa ae ag af aN aV aW ao (s1.getD s6.toNat 0) ax aB aH aI aJ)
    else bif decide (s6=1) then(rec s1 (zA (s6+1)) aa ae ag af aN aV aW ao aw (s1.getD s6.toNat 0) aB aH aI aJ)
    else bif decide (s6=2) then(rec s1 (zA (s6+1)) aa ae ag af aN aV aW ao aw ax (s1.getD s6.toNat 0) aH aI aJ)
    else bif decide (s6=3) then(rec s1 (zA (s6+1)) aa ae ag af aN aV aW ao aw ax aB (s1.getD s6.toNat 0) aI aJ)
    else bif decide (s6=4) then(rec s1 (zA (s6+1)) aa ae ag af aN aV aW ao aw ax aB aH (s1.getD s6.toNat 0) aJ)
    else bif decide (s6=5) then(rec s1 (zA (s6+1)) aa ae ag af aN aV aW ao aw ax aB aH aI (s1.getD s6.toNat 0))
    else none)
   else none)
  else some (aa,ae,ag,af,aN,aV,aW,ao,aw,ax,aB,aH,aI,aJ))
 else some (aa,ae,ag,af,aN,aV,aW,ao,aw,ax,aB,aH,aI,aJ)
def CD (k:Nat):Nat→Kh
 |0,_,_,_,_,_,_,_,_,_,_,_,_,_,_,_,_=>none
 |n+1,s1,s6,aa,ae,ag,af,aN,aV,aW,ao,aw,ax,aB,aH,aI,aJ=>WZ k (CD k n) s1 s6 aa ae ag af aN aV aW ao aw ax aB aH aI aJ
def Kk (k:Nat)(a0:Int)(a1:AC):Option zB:=
 (CD k k a1 0 0 0 0 0 0 0 0 a0 0 0 0 0 0 0).bind fun z=>
 some (z.2.2.2.2.2.2.2.1,z.2.2.2.2.2.2.2.2.1,z.2.2.2.2.2.2.2.2.2.1,z.2.2.2.2.2.2.2.2.2.2.1,z.2.2.2.2.2.2.2.2.2.2.2.1,z.2.2.2.2.2.2.2.2.2.2.2.2.1,z.2.2.2.2.2.2.2.2.2.2.2.2.2)
def Kl (k:Nat)(a0 a1:Int)(a2:AC):Option yP:=
 (Kk k a1 a2).bind fun x0=>
 some (a0,x0)
def W3 (k:Nat)(a0:Int):Option Bool:=
 bif decide (a0≥10) then some (decide (a0≤14))
 else some false
def Kn (k:Nat)(a0:Int):Option Bool:=
 bif decide (a0≥1) then some (decide (a0≤14))
 else some false
def W4 (k:Nat)(a0:Int):Option Int:=
 bif decide (a0=9) then some 0
 else bif decide (a0=13) then some 0
 else bif decide (a0=14) then some 0
 else bif decide (a0=15) then some 0
 else bif decide (a0=2) then some 1
 else bif decide (a0=6) then some 1
 else bif decide (a0=7) then some 1
 else bif decide (a0=16) then some 1
 else bif decide (a0=19) then some 1
 else bif decide (a0=20) then some 1
 else bif decide (a0=21) then some 1
 else bif decide (a0=22) then some 1
 else bif decide (a0=23) then some 1
 else bif decide (a0=3) then some 2
 else bif decide (a0=4) then some 2
 else bif decide (a0=5) then some 2
 else bif decide (a0=8) then some 2
 else bif decide (a0=10) then some 2
 else bif decide (a0=11) then some 2
 else bif decide (a0=12) then some 2
 else bif decide (a0=18) then some 4
 else bif decide (a0=17) then some 5
 else bif decide (a0=1) then some 6
 else some (-1)
def Xb (k:Nat)(rec:JU)(bj:AC)(aP az:Int):Option (Unit⊕Bool):=
 bif decide (az < aP) then (bif zC az bj.length then (bif !(decide ((bj.getD az.toNat 0)=0)) then some (.inr false)
   else rec bj aP (zA (az+1)))
  else none)
 else some (.inl ())
def Kq (k:Nat):Nat→JU:=yT (fun _ _ _=>none) (Xb k)
def Kr (k:Nat)(a0:zB):Option Bool:=
 (W4 k a0.1).bind fun x0=>
 bif decide (x0<0) then some false
 else bif (decide (0 ≤ x0)) && (decide (x0 ≤ 6)) then ((Kq k k (yC [a0.2.1,a0.2.2.1,a0.2.2.2.1,a0.2.2.2.2.1,a0.2.2.2.2.2.1,a0.2.2.2.2.2.2] x0.toNat (6-x0.toNat)) ((yC [a0.2.1,a0.2.2.1,a0.2.2.2.1,a0.2.2.2.2.1,a0.2.2.2.2.2.1,a0.2.2.2.2.2.2] x0.toNat (6-x0.toNat)).length:Int) 0).bind fun z=>
  match z with
  |.inl z1=>some true
  |.inr z2=>some z2)
 else none
def Xc (k:Nat)(a0:yA)(a1:yN)(a2:yP):Option Int:=
 (W3 k a2.2.1).bind fun x0=>
 bif decide (a2.1 ≥ 0) then ((Kn k a2.2.1).bind fun x1=>
  bif !x1 then some 5
  else(Kr k a2.2).bind fun x2=>
  bif !x2 then some 5
  else bif x0 then (bif !(decide (a2.1=(-1))) then some 5
   else bif !x0 then (bif !(decide (a2.1<a0.1)) then some 5
    else bif a1.2.2.2.2.2.2.2.2.2.2 then (bif !(decide (a2.2.1=9)) then some 7
     else some 0)
    else some 0)
   else bif a1.2.2.2.2.2.2.2.2.2.2 then (bif !(decide (a2.2.1=9)) then some 7
    else some 0)
   else some 0)
  else bif !x0 then (bif !(decide (a2.1<a0.1)) then some 5
   else bif a1.2.2.2.2.2.2.2.2.2.2 then (bif !(decide (a2.2.1=9)) then some 7
    else some 0)
   else some 0)
  else bif a1.2.2.2.2.2.2.2.2.2.2 then (bif !(decide (a2.2.1=9)) then some 7
   else some 0)
  else some 0)
 else(Kn k a2.2.1).bind fun x3=>
 bif !x3 then some 5
 else(Kr k a2.2).bind fun x4=>
 bif !x4 then some 5
 else bif x0 then (bif !(decide (a2.1=(-1))) then some 5
  else bif !x0 then some 5
  else bif a1.2.2.2.2.2.2.2.2.2.2 then (bif !(decide (a2.2.1=9)) then some 7
   else some 0)
  else some 0)
 else bif !x0 then some 5
 else bif a1.2.2.2.2.2.2.2.2.2.2 then (bif !(decide (a2.2.1=9)) then some 7
  else some 0)
 else some 0
def Xd (k:Nat)(dy bJ cm dI cO dz dh a1:Int):Option Bool:=
 some (decide (bJ=a1))
abbrev Kw:Type:=List zB
abbrev Ku:Type:=List zB→Int→Int→Int→List zB→Option Kw
def Xj (k:Nat)(rec:Ku)(s8:List zB)(s9 ak aa:Int)(r1:List zB):Option Kw:=
 bif decide (ak < s9) then (bif zC ak s8.length then ((Xd k (s8.getD ak.toNat (0,0,0,0,0,0,0)).1 (s8.getD ak.toNat (0,0,0,0,0,0,0)).2.1 (s8.getD ak.toNat (0,0,0,0,0,0,0)).2.2.1 (s8.getD ak.toNat (0,0,0,0,0,0,0)).2.2.2.1 (s8.getD ak.toNat (0,0,0,0,0,0,0)).2.2.2.2.1 (s8.getD ak.toNat (0,0,0,0,0,0,0)).2.2.2.2.2.1 (s8.getD ak.toNat (0,0,0,0,0,0,0)).2.2.2.2.2.2 aa).bind fun x0=>
   bif x0 then (bif qT (r1.length + 1) 56 then (let y0:List zB:=(r1++[(s8.getD ak.toNat (0,0,0,0,0,0,0))])
     rec s8 s9 (zA (ak+1)) aa y0)
    else none)
   else rec s8 s9 (zA (ak+1)) aa r1)
  else none)
 else some r1
def CF (k:Nat):Nat→Ku
 |0,_,_,_,_,_=>none
 |n+1,s8,s9,ak,aa,r1=>Xj k (CF k n) s8 s9 ak aa r1
def Xk (k:Nat)(a0:List zB)(bO:Int):Option (List zB):=
 (CF k k a0 (a0.length:Int) 0 bO []).bind fun z=>
 some z
def Kx (k:Nat)(a0:List zB)(a1:Int):Option (List zB):=
 (Xk k a0 a1).bind fun x0=>
 some x0
def Xl (k:Nat)(a0:(Int×Int×Int×Int×Int×Int×Bool×Int))(a1:Int)(a2:AC):Option vE:=
 some (a0.1,[],(gA a0 ([],[],[],[],[],[],[],[],a0.2.2.2.2.2.1,a0.2.2.2.2.2.2.1,a0.2.2.2.2.2.2.2,[(a0.2.2.2.2.2.2.2,a1,(bif (Nat.blt 0 a2.length) then(a2.getD 0 0) else 0),(bif (Nat.blt 1 a2.length) then(a2.getD 1 0) else 0),(bif (Nat.blt 2 a2.length) then(a2.getD 2 0) else 0),(bif (Nat.blt 3 a2.length) then(a2.getD 3 0) else 0),(bif (Nat.blt 4 a2.length) then(a2.getD 4 0) else 0),(bif (Nat.blt 5 a2.length) then(a2.getD 5 0) else 0))])))
def Xm (k:Nat)(a0:yN)(a1:Int):Option (List yP):=
 bif zC a1 a0.2.1.length then ((Kx k a0.2.2.2.2.2.2.2.1 a1).bind fun x0=>
  (Xl k (0,0,0,0,0,0,false,a1) 17 [(a0.2.1.getD a1.toNat (0,0,0)).1,(a0.2.1.getD a1.toNat (0,0,0)).2.1,(a0.2.1.getD a1.toNat (0,0,0)).2.2,(x0.length:Int),a0.1]).bind fun x1=>
  some x1.2.2.2.2.2.2.2.2.2.2.2.2.2.2.2.2.2)
 else none
def Kz (k:Nat)(a0:jT)(a1:Int)(a2:AC):Option vE:=
 some (yB a0 [(a0.2.2.2.2.2.2.2.2.2.2.2.2.2.2.2.2,a1,(bif (Nat.blt 0 a2.length) then(a2.getD 0 0) else 0),(bif (Nat.blt 1 a2.length) then(a2.getD 1 0) else 0),(bif (Nat.blt 2 a2.length) then(a2.getD 2 0) else 0),(bif (Nat.blt 3 a2.length) then(a2.getD 3 0) else 0),(bif (Nat.blt 4 a2.length) then(a2.getD 4 0) else 0),(bif (Nat.blt 5 a2.length) then(a2.getD 5 0) else 0))])
def KA (k:Nat)(a0:yA)(a1:Int):Option Bool:=
 bif decide (a1≥0) then some (decide (a1<a0.1))
 else some false
def Xo (k:Nat)(a0:yA)(a1:Int)(a2:zB):Option Bool:=
 (KA k a0 a2.2.1).bind fun x0=>
 bif x0 then ((KA k a0 a2.2.2.1).bind fun x1=>
  bif x1 then (bif decide (a2.1 ≥ 1) then (bif decide (a2.2.2.2.1 ≥ 1) then (bif decide (a2.2.2.2.1 ≤ 1099511627776) then (bif decide (a2.2.2.2.2.1 ≥ 1) then (bif !(decide (a2.2.1 = a2.2.2.1)) then (bif decide (a2.2.2.2.2.1 ≤ 3) then (bif decide (a2.2.2.2.2.2.1 ≥ 0) then (bif decide (a2.2.2.2.2.2.1 ≤ a2.2.2.2.2.2.2) then (bif decide (a2.2.2.2.2.2.2≥a1) then some (decide (a2.2.2.2.2.2.2≤1048576))
           else some false)
          else some false)
         else some false)
        else some false)
       else some false)
      else bif !(decide (a2.2.1=a2.2.2.1)) then some false
      else some false)
     else bif !(decide (a2.2.1=a2.2.2.1)) then some false
     else some false)
    else bif !(decide (a2.2.1=a2.2.2.1)) then some false
    else some false)
   else bif !(decide (a2.2.1=a2.2.2.1)) then some false
   else some false)
  else bif decide (a2.1 ≥ 1) then (bif decide (a2.2.2.2.1 ≥ 1) then (bif decide (a2.2.2.2.1 ≤ 1099511627776) then (bif decide (a2.2.2.2.2.1≥1) then some false
     else some false)
    else some false)
   else some false)
  else some false)
 else bif decide (a2.1 ≥ 1) then (bif decide (a2.2.2.2.1 ≥ 1) then (bif decide (a2.2.2.2.1 ≤ 1099511627776) then (bif decide (a2.2.2.2.2.1≥1) then some false
    else some false)
   else some false)
  else some false)
 else some false
def CG (k:Nat)(a0:yA)(a1 a2:Int):Option Int:=
 bif decide (a1≥a0.2.2.2.1) then some 7
 else bif decide (a2 = 3) then (bif decide (a1≥a0.2.2.1) then some 7
  else some 0)
 else some 0
def KC (k:Nat)(a0:yA)(a1:Int)(a2:zB):Option Int:=
 (Xo k a0 a1 a2).bind fun x0=>
 bif !x0 then some 1
 else(CG k a0 a1 a2.2.2.2.2.1).bind fun x1=>
 some x1
def oM (k:Nat)(a0:AC):Option AC:=
 bif qT (0+a0.length) 8 then some a0
 else none
abbrev ySx (k:Nat)(a0:AC)(a1:Int)(a2:AC):Option AC:=ins 8 a0 a1 a2
def KI (k:Nat)(a0:AC)(a1:Int):Option (AC×Int):=
 (sE k a0 a1).bind fun x0=>
 bif x0.2 then some (a0,6)
 else bif decide ((a0.length:Int)≥200) then some (a0,3)
 else(oM k a0).bind fun x1=>
 (ySx k x1 x0.1 [a1]).bind fun x2=>
 some (x2,0)
def CH (k:Nat)(a0:List zB):Option (List zB):=
 bif qT (0+a0.length) 56 then some a0
 else none
abbrev qLn (k:Nat)(a0:List zB)(a1:Int)(a2:List zB):Option (List zB):=ins 56 a0 a1 a2
abbrev KL:Type:=(List zB)×Int×zB
abbrev KJ:Type:=List zB→Int→zB→Option KL
def Xw (k:Nat)(rec:KJ)(s0:List zB)(s6:Int)(b0:zB):Option KL:=
 bif decide (s6 < (s0.length : Int)) then (bif zC s6 s0.length then ((sD k (s0.getD s6.toNat (0,0,0,0,0,0,0)).1 (s0.getD s6.toNat (0,0,0,0,0,0,0)).2.1 (s0.getD s6.toNat (0,0,0,0,0,0,0)).2.2.1 (s0.getD s6.toNat (0,0,0,0,0,0,0)).2.2.2.1 (s0.getD s6.toNat (0,0,0,0,0,0,0)).2.2.2.2.1 (s0.getD s6.toNat (0,0,0,0,0,0,0)).2.2.2.2.2.1 (s0.getD s6.toNat (0,0,0,0,0,0,0)).2.2.2.2.2.2 b0.1 b0.2.1 b0.2.2.1 b0.2.2.2.1 b0.2.2.2.2.1 b0.2.2.2.2.2.1 b0.2.2.2.2.2.2).bind fun x1=>
   bif decide (x1≤0) then(rec s0 (zA (s6+1)) b0)
   else some (s0,s6,b0))
  else none)
 else some (s0,s6,b0)
def KM (k:Nat):Nat→KJ:=yT (fun _ _ _=>none) (Xw k)
def ya (k:Nat)(a0:List zB)(a1:zB):Option ((List zB)×Int):=
 (jo k a0 a1.1).bind fun x0=>
 bif decide (x0≥0) then some (a0,6)
 else bif decide ((a0.length:Int)≥40) then some (a0,3)
 else(KM k k a0 0 a1).bind fun z=>
 (CH k z.1).bind fun x2=>
 (qLn k x2 z.2.1 [z.2.2]).bind fun x3=>
 some (x3,0)
def Xx (k:Nat)(a0:vE)(a1:(Int×Int×Int×Int×Int×Int)):Option (Int×vE):=
 (yU k a1.2.1 0 (zA (a0.1-1))).bind fun x0=>
 bif !x0 then some (1,a0)
 else(yU k a1.2.2.2.1 1 3).bind fun x1=>
 bif !x1 then some (1,a0)
 else(KC k (yE a0) a0.2.2.2.2.2.1 (a1.1,a0.2.2.2.2.2.2.2.2.2.2.2.2.2.2.2.2.1,a1.2)).bind fun x2=>
 bif !(decide (x2=0)) then some (x2,a0)
 else(KI k a0.2.2.2.2.2.2.2.2.2.2.2.2.2.1 a1.1).bind fun x3=>
 bif !(decide (x3.2=0)) then some (x3.2,a0)
 else(ya k a0.2.2.2.2.2.2.2.2.2.2.2.2.1 (a1.1,a0.2.2.2.2.2.2.2.2.2.2.2.2.2.2.2.2.1,a1.2)).bind fun x4=>
 bif !(decide (x4.2=0)) then some (x4.2,a0)
 else some (0,(iB a0 (x4.1,x3.1,a0.2.2.2.2.2.2.2.2.2.2.2.2.2.2)))
def KP (k:Nat)(a0:vE)(a1:Int):Option (zB×Int):=
 (jo k a0.2.2.2.2.2.2.2.2.2.2.2.2.1 a1).bind fun x0=>
 bif decide (x0<0) then some ((0,0,0,0,0,0,0),4)
 else bif zC x0 a0.2.2.2.2.2.2.2.2.2.2.2.2.1.length then (bif !(decide ((a0.2.2.2.2.2.2.2.2.2.2.2.2.1.getD x0.toNat (0,0,0,0,0,0,0)).2.1=a0.2.2.2.2.2.2.2.2.2.2.2.2.2.2.2.2.1)) then some ((0,0,0,0,0,0,0),4)
  else bif zC x0 a0.2.2.2.2.2.2.2.2.2.2.2.2.1.length then some ((a0.2.2.2.2.2.2.2.2.2.2.2.2.1.getD x0.toNat (0,0,0,0,0,0,0)),0)
  else none)
 else none
def KQ (k:Nat)(a0:List zB)(a1 a2:Int):Option (List zB):=
 bif ((((decide (0 ≤ a1)) && (decide (a1 ≤ a2))) && (decide (a2 ≤ (a0.length : Int)))) && (decide (((a2.toNat : Nat) : Int) ≤ (a0.length : Int)))) && (decide ((a0.length : Int) ≤ (a0.length : Int))) then (bif decide (a1=a2) then some a0
  else bif (decide (0 ≤ a1)) && (decide (a1 ≤ (a0.length : Int))) then (bif (decide (0 ≤ a2)) && (decide (a2 ≤ (a0.length : Int))) then (bif Nat.ble (a1.toNat - 0) (0 + a2.toNat) then (let y0:List zB:=(((List.take (a1.toNat-0) a0)++(yC a0 (0+a2.toNat) (a0.length-a2.toNat)))++(List.drop ((a1.toNat-0)+(a0.length-a2.toNat)) a0))
     bif ((decide (0 ≤ ((yC y0 0 ((a1.toNat - 0) + (a0.length - a2.toNat))).length : Int))) && (decide (((yC y0 0 ((a1.toNat - 0) + (a0.length - a2.toNat))).length : Int) ≤ (a0.length : Int)))) && (decide ((a0.length : Int) ≤ (((y0.length - 0) : Nat) : Int))) then (let y1:List zB:=(((List.take (0+(yC y0 0 ((a1.toNat-0)+(a0.length-a2.toNat))).length) y0)++(List.replicate (a0.length-(yC y0 0 ((a1.toNat-0)+(a0.length-a2.toNat))).length) ((0,0,0,0,0,0,0):Int×Int×Int×Int×Int×Int×Int)))++(List.drop ((0+(yC y0 0 ((a1.toNat-0)+(a0.length-a2.toNat))).length)+(a0.length-(yC y0 0 ((a1.toNat-0)+(a0.length-a2.toNat))).length)) y0))
      some (List.take ((a1.toNat-0)+(a0.length-a2.toNat)) y1))
     else none)
    else none)
   else none)
  else none)
 else none
def mY (k:Nat)(a0:List zB)(a1:Int):Option ((List zB)×Int×Int×Int×Int×Int×Int×Int×Int):=
 (jo k a0 a1).bind fun x0=>
 bif decide (x0<0) then some (a0,0,0,0,0,0,0,0,4)
 else(CH k a0).bind fun x1=>
 (KQ k x1 x0 (zA (x0+1))).bind fun x2=>
 bif zC x0 a0.length then some (x2,(gy (a0.getD x0.toNat (0,0,0,0,0,0,0)) 0))
 else none
def CL (k:Nat)(a0:vE)(a1:Int)(a2:AC):Option vE:=
 bif qT (a0.2.2.2.2.2.2.2.2.2.2.2.2.2.2.2.2.2.length + 1) 64 then (let y0:List yP:=(a0.2.2.2.2.2.2.2.2.2.2.2.2.2.2.2.2.2++[(a0.2.2.2.2.2.2.2.2.2.2.2.2.2.2.2.2.1,a1,(bif (Nat.blt 0 a2.length) then(a2.getD 0 0) else 0),(bif (Nat.blt 1 a2.length) then(a2.getD 1 0) else 0),(bif (Nat.blt 2 a2.length) then(a2.getD 2 0) else 0),(bif (Nat.blt 3 a2.length) then(a2.getD 3 0) else 0),(bif (Nat.blt 4 a2.length) then(a2.getD 4 0) else 0),(bif (Nat.blt 5 a2.length) then(a2.getD 5 0) else 0))])
  some (qYp a0 y0))
 else none
def KT (k:Nat)(a0:List zB)(a1 a2:Int):Option ((List zB)×Int):=
 (mY k a0 a1).bind fun x0=>
 bif !(decide (x0.2.2.2.2.2.2.2.2=0)) then some (a0,x0.2.2.2.2.2.2.2.2)
 else(ya k x0.1 (gA x0 (a2,x0.2.2.2.2.2.2.1,x0.2.2.2.2.2.2.2.1))).bind fun x1=>
 some (x1.1,x1.2)
def XF (k:Nat)(a0:List zB)(a1:Int):Option ((List zB)×Int×Int×Int×Int×Int×Int×Int×Int):=
 (jo k a0 a1).bind fun x0=>
 bif decide (x0<0) then none
 else(CH k a0).bind fun x1=>
 (KQ k x1 x0 (zA (x0+1))).bind fun x2=>
 bif zC x0 a0.length then some (x2,(gy (a0.getD x0.toNat (0,0,0,0,0,0,0)) 0))
 else none
abbrev KW:Type:=Int×(List zB)×zB
abbrev KU:Type:=Int→List zB→zB→Option KW
def XM (k:Nat)(rec:KU)(s9:Int)(r0:List zB)(b1:zB):Option KW:=
 bif decide (s9 < (r0.length : Int)) then (bif zC s9 r0.length then ((sD k (r0.getD s9.toNat (0,0,0,0,0,0,0)).1 (r0.getD s9.toNat (0,0,0,0,0,0,0)).2.1 (r0.getD s9.toNat (0,0,0,0,0,0,0)).2.2.1 (r0.getD s9.toNat (0,0,0,0,0,0,0)).2.2.2.1 (r0.getD s9.toNat (0,0,0,0,0,0,0)).2.2.2.2.1 (r0.getD s9.toNat (0,0,0,0,0,0,0)).2.2.2.2.2.1 (r0.getD s9.toNat (0,0,0,0,0,0,0)).2.2.2.2.2.2 b1.1 b1.2.1 b1.2.2.1 b1.2.2.2.1 b1.2.2.2.2.1 b1.2.2.2.2.2.1 b1.2.2.2.2.2.2).bind fun x1=>
   bif decide (x1<0) then(rec (zA (s9+1)) r0 b1)
   else some (s9,r0,b1))
  else none)
 else some (s9,r0,b1)
def KX (k:Nat):Nat→KU:=yT (fun _ _ _=>none) (XM k)
def KY (k:Nat)(a0:List zB)(a1:Int):Option ((List zB)×Int):=
 (XF k a0 a1).bind fun x0=>
 bif !(decide (x0.2.2.2.2.2.2.2.2=0)) then some (a0,x0.2.2.2.2.2.2.2.2)
 else(KX k k 0 x0.1 (KN x0)).bind fun z=>
 (qLn k z.2.1 z.1 [z.2.2]).bind fun x2=>
 some (x2,0)
def KZ (k:Nat)(a0:List zB)(a1:Int):Option ((List zB)×Int):=
 (mY k a0 a1).bind fun x0=>
 bif !(decide (x0.2.2.2.2.2.2.2.2=0)) then some (a0,x0.2.2.2.2.2.2.2.2)
 else(ya k x0.1 (KN x0)).bind fun x1=>
 some (x1.1,x1.2)
def CM (k:Nat)(a0:vE)(a1:zB):Option (Int×vE):=
 (KP k a0 a1.2.1).bind fun x0=>
 bif !(decide (x0.2=0)) then some (x0.2,a0)
 else bif decide (a1.1 = 2) then ((mY k a0.2.2.2.2.2.2.2.2.2.2.2.2.1 a1.2.1).bind fun x1=>
  (CL k (iB a0 (x1.1,a0.2.2.2.2.2.2.2.2.2.2.2.2.2)) 20 [a1.2.1]).bind fun x2=>
  some (x1.2.2.2.2.2.2.2.2,x2))
 else bif decide (a1.1 = 4) then ((yU k a1.2.2.1 1 3).bind fun x3=>
  bif !x3 then some (1,a0)
  else(CG k (yE a0) a0.2.2.2.2.2.1 a1.2.2.1).bind fun x4=>
  bif !(decide (x4=0)) then some (x4,a0)
  else(KT k a0.2.2.2.2.2.2.2.2.2.2.2.2.1 a1.2.1 a1.2.2.1).bind fun x5=>
  some (x5.2,(iB a0 (x5.1,a0.2.2.2.2.2.2.2.2.2.2.2.2.2))))
 else bif decide (a1.2.2.1 = 0) then ((KY k a0.2.2.2.2.2.2.2.2.2.2.2.2.1 a1.2.1).bind fun x6=>
  some (x6.2,(iB a0 (x6.1,a0.2.2.2.2.2.2.2.2.2.2.2.2.2))))
 else bif decide (a1.2.2.1 = 1) then ((KZ k a0.2.2.2.2.2.2.2.2.2.2.2.2.1 a1.2.1).bind fun x7=>
  some (x7.2,(iB a0 (x7.1,a0.2.2.2.2.2.2.2.2.2.2.2.2.2))))
 else some (1,a0)
def G6 (k:Nat)(a0:List zI):Option (List zI):=
 bif qT (0+a0.length) 24 then some a0
 else none
def G3 (k:Nat)(a0:EQ):Option Nat:=
 bif qT (0+a0.length) 24 then some a0.length
 else none
abbrev K0:Type:=EQ→Int→Int→EQ→Nat→Option (EQ×Nat)
def sn (k:Nat)(rec:K0)(s8:EQ)(s9 ak:Int)(m0:EQ)(n0:Nat):Option (EQ×Nat):=
 bif decide (ak < s9) then (bif zC ak s8.length then ((oM k (s8.getD ak.toNat [])).bind fun x1=>
   bif zC ak n0 then (bif Nat.beq ak.toNat m0.length then(rec s8 s9 (zA (ak+1)) (m0++[x1]) n0)
    else none)
   else none)
  else none)
 else some (m0,n0)
def w4 (k:Nat):Nat→K0
 |0,_,_,_,_,_=>none
 |n+1,s8,s9,ak,m0,n0=>sn k (w4 k n) s8 s9 ak m0 n0
def w5 (k:Nat)(a0:EQ):Option EQ:=
 (G3 k a0).bind fun x0=>
 (w4 k k a0 (a0.length:Int) 0 [] x0).bind fun z=>
 Ga z.1 z.2
def jS (k:Nat)(aR:List zI)(bm:EQ)(bg:AC)(bd:EQ):Option ((List zI)×EQ×AC×EQ):=
 (G6 k aR).bind fun x0=>
 (w5 k bm).bind fun x1=>
 (oM k bg).bind fun x2=>
 (w5 k bd).bind fun x3=>
 some (x0,x1,x2,x3)
def K2 (k:Nat)(a0:vE)(a1:Int):Option Bool:=
 (yU k a1 0 (zA (a0.1-1))).bind fun x0=>
 bif x0 then some (!(decide (a1=a0.2.2.2.2.2.2.2.2.2.2.2.2.2.2.2.2.1)))
 else some false
def CN (k:Nat)(a0:vE)(a1:zB):Option (Int×vE):=
 (jS k a0.2.2.2.2.2.2.1 a0.2.2.2.2.2.2.2.1 a0.2.2.2.2.2.2.2.2.1 a0.2.2.2.2.2.2.2.2.2.1).bind fun x0=>
 bif decide (a1.1 = 5) then ((K2 k a0 a1.2.1).bind fun x1=>
  bif !x1 then some (1,a0)
  else(yU k a1.2.2.1 (-1) 1152921504606846976).bind fun x2=>
  bif !x2 then some (1,a0)
  else bif zC a0.2.2.2.2.2.2.2.2.2.2.2.2.2.2.2.2.1 x0.2.1.length then (bif zC a1.2.1 (x0.2.1.getD a0.2.2.2.2.2.2.2.2.2.2.2.2.2.2.2.2.1.toNat []).length then (let y0:EQ:=(x0.2.1.set a0.2.2.2.2.2.2.2.2.2.2.2.2.2.2.2.2.1.toNat ((x0.2.1.getD a0.2.2.2.2.2.2.2.2.2.2.2.2.2.2.2.2.1.toNat []).set a1.2.1.toNat a1.2.2.1))
    some (0,(jL a0 (x0.1,y0,x0.2.2.1,x0.2.2.2,a0.2.2.2.2.2.2.2.2.2.2))))
   else none)
  else none)
 else bif decide (a1.1 = 6) then ((yU k a1.2.1 (-1) 1152921504606846976).bind fun x3=>
  bif !x3 then some (1,a0)
  else bif zC a0.2.2.2.2.2.2.2.2.2.2.2.2.2.2.2.2.1 x0.2.2.1.length then (let y1:AC:=(x0.2.2.1.set a0.2.2.2.2.2.2.2.2.2.2.2.2.2.2.2.2.1.toNat a1.2.1)
   some (0,(jL a0 (x0.1,x0.2.1,y1,x0.2.2.2,a0.2.2.2.2.2.2.2.2.2.2))))
  else none)
 else(yU k a1.2.1 0 1152921504606846976).bind fun x4=>
 bif !x4 then some (1,a0)
 else bif zC a0.2.2.2.2.2.2.2.2.2.2.2.2.2.2.2.2.1 x0.1.length then (let y2:List zI:=(x0.1.set a0.2.2.2.2.2.2.2.2.2.2.2.2.2.2.2.2.1.toNat ((x0.1.getD a0.2.2.2.2.2.2.2.2.2.2.2.2.2.2.2.2.1.toNat (0,0,0)).1,(x0.1.getD a0.2.2.2.2.2.2.2.2.2.2.2.2.2.2.2.2.1.toNat (0,0,0)).2.1,a1.2.1))
  some (0,(jL a0 (y2,x0.2.1,x0.2.2.1,x0.2.2.2,a0.2.2.2.2.2.2.2.2.2.2))))
 else none
def yc (k:Nat)(a0:vE)(a1:Int):Option Bool:=
 (yU k a1 0 (zA ((a0.2.1.length:Int)-1))).bind fun x0=>
 some x0
def K3 (k:Nat)(a0:EQ):Option EQ:=
 bif qT (0+a0.length) 24 then some a0
 else none
def yd (k:Nat)(a0:AC)(a1 a2:Int):Option AC:=
 (oM k a0).bind fun x0=>
 bif decide (a1 ≥ 0) then (bif decide (a1 < (x0.length : Int)) then (bif zC a1 x0.length then some (x0.set a1.toNat a2)
   else none)
  else some x0)
 else some x0
def XW (k:Nat)(a0:vE)(a1 a2:Int):Option (Int×vE):=
 (yc k a0 a1).bind fun x0=>
 bif !x0 then some (1,a0)
 else(yU k a2 0 1099511627776).bind fun x1=>
 bif !x1 then some (1,a0)
 else(K3 k a0.2.2.2.2.2.2.2.2.2.2.2.1).bind fun x2=>
 bif zC a0.2.2.2.2.2.2.2.2.2.2.2.2.2.2.2.2.1 x2.length then ((yd k (x2.getD a0.2.2.2.2.2.2.2.2.2.2.2.2.2.2.2.2.1.toNat []) a1 a2).bind fun x3=>
  bif zC a0.2.2.2.2.2.2.2.2.2.2.2.2.2.2.2.2.1 x2.length then (let y0:EQ:=(x2.set a0.2.2.2.2.2.2.2.2.2.2.2.2.2.2.2.2.1.toNat x3)
   bif zC a0.2.2.2.2.2.2.2.2.2.2.2.2.2.2.2.2.1 y0.length then ((gp k a0.2.1 a0.2.2.2.2.2.2.2.2.2.2.1 (y0.getD a0.2.2.2.2.2.2.2.2.2.2.2.2.2.2.2.2.1.toNat [])).bind fun x4=>
    bif zC a0.2.2.2.2.2.2.2.2.2.2.2.2.2.2.2.2.1 a0.2.2.2.2.2.2.1.length then (bif !x4.2 then some (8,a0)
     else bif decide (x4.1>1152921504606846976) then some (8,a0)
     else bif decide (x4.1 < (a0.2.2.2.2.2.2.1.getD a0.2.2.2.2.2.2.2.2.2.2.2.2.2.2.2.2.1.toNat (0, 0, 0)).2.1) then (bif decide ((zA ((a0.2.2.2.2.2.2.1.getD a0.2.2.2.2.2.2.2.2.2.2.2.2.2.2.2.2.1.toNat (0,0,0)).1+x4.1))<0) then some (9,a0)
      else(jS k a0.2.2.2.2.2.2.1 a0.2.2.2.2.2.2.2.1 a0.2.2.2.2.2.2.2.2.1 a0.2.2.2.2.2.2.2.2.2.1).bind fun x5=>
      bif zC a0.2.2.2.2.2.2.2.2.2.2.2.2.2.2.2.2.1 x5.1.length then (let y1:List zI:=(x5.1.set a0.2.2.2.2.2.2.2.2.2.2.2.2.2.2.2.2.1.toNat ((x5.1.getD a0.2.2.2.2.2.2.2.2.2.2.2.2.2.2.2.2.1.toNat (0,0,0)).1,x4.1,(x5.1.getD a0.2.2.2.2.2.2.2.2.2.2.2.2.2.2.2.2.1.toNat (0,0,0)).2.2))
       some (0,(jL a0 (y1,x5.2.1,x5.2.2.1,x5.2.2.2,a0.2.2.2.2.2.2.2.2.2.2.1,y0,a0.2.2.2.2.2.2.2.2.2.2.2.2))))
      else none)
     else(jS k a0.2.2.2.2.2.2.1 a0.2.2.2.2.2.2.2.1 a0.2.2.2.2.2.2.2.2.1 a0.2.2.2.2.2.2.2.2.2.1).bind fun x6=>
     bif zC a0.2.2.2.2.2.2.2.2.2.2.2.2.2.2.2.2.1 x6.1.length then (let y2:List zI:=(x6.1.set a0.2.2.2.2.2.2.2.2.2.2.2.2.2.2.2.2.1.toNat ((x6.1.getD a0.2.2.2.2.2.2.2.2.2.2.2.2.2.2.2.2.1.toNat (0,0,0)).1,x4.1,(x6.1.getD a0.2.2.2.2.2.2.2.2.2.2.2.2.2.2.2.2.1.toNat (0,0,0)).2.2))
      some (0,(jL a0 (y2,x6.2.1,x6.2.2.1,x6.2.2.2,a0.2.2.2.2.2.2.2.2.2.2.1,y0,a0.2.2.2.2.2.2.2.2.2.2.2.2))))
     else none)
    else none)
   else none)
  else none)
 else none
def XX (k:Nat)(a0 a1:Int):Option vJ:=
 bif decide (a1 > 0) then (bif decide (a0>(zA (9223372036854775807-a1))) then some (0,false)
  else bif decide (a1 < 0) then (bif decide (a0<(zA ((-9223372036854775808)-a1))) then some (0,false)
   else some ((zA (a0+a1)),true))
  else some ((zA (a0+a1)),true))
 else bif decide (a1 < 0) then (bif decide (a0<(zA ((-9223372036854775808)-a1))) then some (0,false)
  else some ((zA (a0+a1)),true))
 else some ((zA (a0+a1)),true)
def K4 (k:Nat)(a0:zI)(a1:Int):Option (zI×Int):=
 (XX k a0.1 a1).bind fun x0=>
 bif !x0.2 then some (a0,8)
 else(A8 k x0.1 a0.2.1 a0.2.2).bind fun x1=>
 bif !x1 then some (a0,8)
 else some ((x0.1,a0.2),0)
def K5 (k:Nat)(a0:zI)(a1:Int):Option (zI×Int):=
 (K4 k a0 a1).bind fun x0=>
 some (x0.1,x0.2)
def sx (k:Nat)(lh lj gC a1:Int):Option Int:=
 some (AH false (zA (gC-a1)) 0)
def K6 (k:Nat)(a0:zI)(a1 a2:Int):Option (zI×Int):=
 (K4 k a0 (zA (0-a1))).bind fun x0=>
 bif decide (x0.2 = 0) then (bif decide (a2 = 1) then ((sx k a0.1 a0.2.1 a0.2.2 a1).bind fun x1=>
   some ((x0.1.1,x0.1.2.1,x1),x0.2))
  else bif decide (a2 = 2) then ((sx k a0.1 a0.2.1 a0.2.2 a1).bind fun x2=>
   some ((x0.1.1,x0.1.2.1,x2),x0.2))
  else some (x0.1,x0.2))
 else some (x0.1,x0.2)
def K7 (k:Nat)(a0:zI)(a1:Int):Option Int:=
 bif decide (a1=3) then some (zA ((zA (a0.1+a0.2.1))-a0.2.2))
 else some (zA (a0.1+a0.2.1))
def K8 (k:Nat)(a0:vE)(a1 a2 a3:Int):Option (Int×vE):=
 (yU k a2 0 (zA (a0.1-1))).bind fun x0=>
 bif !x0 then some (1,a0)
 else(yU k a3 1 1099511627776).bind fun x1=>
 bif !x1 then some (1,a0)
 else bif zC a2 a0.2.2.2.2.2.2.1.length then ((K5 k (a0.2.2.2.2.2.2.1.getD a2.toNat (0,0,0)) a3).bind fun x2=>
  bif decide (a1 = 11) then ((K6 k (a0.2.2.2.2.2.2.1.getD a2.toNat (0,0,0)) a3 3).bind fun x3=>
   (K7 k (a0.2.2.2.2.2.2.1.getD a2.toNat (0,0,0)) 3).bind fun x4=>
   bif decide (x4<a3) then some (9,a0)
   else bif decide ((zA (a0.2.2.2.2.2.2.2.2.2.2.2.2.2.2.1-a3))<0) then some (9,a0)
   else bif !(decide (x3.2=0)) then some (x3.2,a0)
   else bif decide ((zA (a0.2.2.2.2.2.2.2.2.2.2.2.2.2.2.1-a3))>1152921504606846976) then some (8,a0)
   else(jS k a0.2.2.2.2.2.2.1 a0.2.2.2.2.2.2.2.1 a0.2.2.2.2.2.2.2.2.1 a0.2.2.2.2.2.2.2.2.2.1).bind fun x5=>
   bif zC a2 x5.1.length then some (0,(jL a0 ((x5.1.set a2.toNat x3.1),x5.2.1,x5.2.2.1,x5.2.2.2,(DD a0 ((zA (a0.2.2.2.2.2.2.2.2.2.2.2.2.2.2.1-a3)),a0.2.2.2.2.2.2.2.2.2.2.2.2.2.2.2)))))
   else none)
  else bif !(decide (x2.2=0)) then some (x2.2,a0)
  else bif decide ((zA (a0.2.2.2.2.2.2.2.2.2.2.2.2.2.2.1+a3))>1152921504606846976) then some (8,a0)
  else(jS k a0.2.2.2.2.2.2.1 a0.2.2.2.2.2.2.2.1 a0.2.2.2.2.2.2.2.2.1 a0.2.2.2.2.2.2.2.2.2.1).bind fun x6=>
  bif zC a2 x6.1.length then some (0,(jL a0 ((x6.1.set a2.toNat x2.1),x6.2.1,x6.2.2.1,x6.2.2.2,(DD a0 ((zA (a0.2.2.2.2.2.2.2.2.2.2.2.2.2.2.1+a3)),a0.2.2.2.2.2.2.2.2.2.2.2.2.2.2.2)))))
  else none)
 else none
abbrev Lc:Type:=(jT×(List yP)×AC×(List zI)×EQ×AC×EQ)⊕(Int×jT×(List yP))
abbrev La:Type:=EQ→Int→Int→jT→List yP→AC→List zI→EQ→AC→EQ→Option Lc
def X8 (k:Nat)(rec:La)(di:EQ)(gD dJ:Int)(b0:jT)(r1:List yP)(r2:AC)(r4:List zI)(m5:EQ)(r6:AC)(m7:EQ):Option Lc:=
 bif decide (dJ < gD) then (bif zC dJ di.length then ((gp k b0.2.1 r2 (di.getD dJ.toNat [])).bind fun x4=>
   bif !x4.2 then some (.inr (8,b0,r1))
   else bif decide (x4.1>1152921504606846976) then some (.inr (8,b0,r1))
   else bif zC dJ r4.length then (let y0:List zI:=(r4.set dJ.toNat ((r4.getD dJ.toNat (0,0,0)).1,x4.1,(r4.getD dJ.toNat (0,0,0)).2.2))
    rec di gD (zA (dJ+1)) b0 r1 r2 y0 m5 r6 m7)
   else none)
  else none)
 else some (.inl (b0,r1,r2,r4,m5,r6,m7))
def Ld (k:Nat):Nat→La:=yT (fun _ _ _ _ _ _ _ _ _ _=>none) (X8 k)
def X9 (k:Nat)(a0:vE)(a1 a2:Int):Option (Int×vE):=
 (yc k a0 a1).bind fun x0=>
 bif !x0 then some (1,a0)
 else(yU k a2 0 1048576).bind fun x1=>
 bif !x1 then some (1,a0)
 else(yd k a0.2.2.2.2.2.2.2.2.2.2.1 a1 a2).bind fun x2=>
 (jS k a0.2.2.2.2.2.2.1 a0.2.2.2.2.2.2.2.1 a0.2.2.2.2.2.2.2.2.1 a0.2.2.2.2.2.2.2.2.2.1).bind fun x3=>
 (Ld k k a0.2.2.2.2.2.2.2.2.2.2.2.1 (a0.2.2.2.2.2.2.2.2.2.2.2.1.length:Int) 0 (jU a0) a0.2.2.2.2.2.2.2.2.2.2.2.2.2.2.2.2.2 x2 x3.1 x3.2.1 x3.2.2.1 x3.2.2.2).bind fun z=>
 match z with
 |.inl z1=>some (0,(jL z1.1 (yJ5 z1 (z1.2.2.1,(qFx z1.1 z1.2.1)))))
 |.inr z2=>some (z2.1,(yB z2.2.1 z2.2.2))
def Ya (k:Nat)(a0:vE)(a1:zB):Option (Int×vE):=
 bif decide (a1.1 = 1) then ((Xx k a0 a1.2).bind fun x0=>
  some (x0.1,x0.2))
 else bif decide (a1.1 = 2) then ((CM k a0 a1).bind fun x1=>
  some (x1.1,x1.2))
 else bif decide (a1.1 = 3) then ((CM k a0 a1).bind fun x2=>
  some (x2.1,x2.2))
 else bif decide (a1.1 = 4) then ((CM k a0 a1).bind fun x3=>
  some (x3.1,x3.2))
 else bif decide (a1.1 = 5) then ((CN k a0 a1).bind fun x4=>
  some (x4.1,x4.2))
 else bif decide (a1.1 = 6) then ((CN k a0 a1).bind fun x5=>
  some (x5.1,x5.2))
 else bif decide (a1.1 = 7) then ((CN k a0 a1).bind fun x6=>
  some (x6.1,x6.2))
 else bif decide (a1.1 = 8) then ((XW k a0 a1.2.1 a1.2.2.1).bind fun x7=>
  some (x7.1,x7.2))
 else bif decide (a1.1 = 10) then ((K8 k a0 a1.1 a1.2.1 a1.2.2.1).bind fun x8=>
  some (x8.1,x8.2))
 else bif decide (a1.1 = 11) then ((K8 k a0 a1.1 a1.2.1 a1.2.2.1).bind fun x9=>
  some (x9.1,x9.2))
 else bif decide (a1.1 = 12) then ((X9 k a0 a1.2.1 a1.2.2.1).bind fun gE=>
  some (gE.1,gE.2))
 else some (0,a0)
def ye (k:Nat)(a0 a1:Int)(a2:AC):Option yP:=
 some (a0,a1,(bif (Nat.blt 0 a2.length) then(a2.getD 0 0) else 0),(bif (Nat.blt 1 a2.length) then(a2.getD 1 0) else 0),(bif (Nat.blt 2 a2.length) then(a2.getD 2 0) else 0),(bif (Nat.blt 3 a2.length) then(a2.getD 3 0) else 0),(bif (Nat.blt 4 a2.length) then(a2.getD 4 0) else 0),(bif (Nat.blt 5 a2.length) then(a2.getD 5 0) else 0))
abbrev Lf:Type:=Int×(List zI)×EQ×AC×EQ×AC×EQ×(List zB)×AC×Int×Bool×Int×Int×Bool×(List yP)
abbrev Le:Type:=List zB→Int→Int→Int→List zI→EQ→AC→EQ→AC→EQ→List zB→AC→Int→Bool→Int→Int→Bool→List yP→Option Lf
def Yh (k:Nat)(rec:Le)(ak:List zB)(bY fN aa:Int)(ae:List zI)(ag:EQ)(af:AC)(aN:EQ)(aV:AC)(aW:EQ)(cn:List zB)(cp:AC)(cq:Int)(bq:Bool)(ao aX:Int)(aD:Bool)(r2:List yP):Option Lf:=
 bif decide (fN < bY) then (bif zC fN ak.length then ((ye k (ak.getD fN.toNat (0,0,0,0,0,0,0)).2.1 22 [(ak.getD fN.toNat (0,0,0,0,0,0,0)).1]).bind fun x0=>
   bif qT (r2.length+1) 64 then(rec ak bY (zA (fN+1)) aa ae ag af aN aV aW cn cp cq bq ao aX aD (r2++[x0]))
   else none)
  else none)
 else some (aa,ae,ag,af,aN,aV,aW,cn,cp,cq,bq,ao,aX,aD,r2)
def CQ (k:Nat):Nat→Le
 |0,_,_,_,_,_,_,_,_,_,_,_,_,_,_,_,_,_,_=>none
 |n+1,ak,bY,fN,aa,ae,ag,af,aN,aV,aW,cn,cp,cq,bq,ao,aX,aD,r2=>Yh k (CQ k n) ak bY fN aa ae ag af aN aV aW cn cp cq bq ao aX aD r2
abbrev Lg:Type:=List zI→Int→Int→Int→List zI→EQ→AC→EQ→AC→EQ→List zB→AC→Int→Bool→Int→Int→Bool→List yP→Option Lf
def Yi (k:Nat)(rec:Lg)(dU:List zI)(cG eM aa:Int)(ae:List zI)(ag:EQ)(af:AC)(aN:EQ)(aV:AC)(aW:EQ)(cn:List zB)(cp:AC)(cq:Int)(bq:Bool)(ao aX:Int)(aD:Bool)(r2:List yP):Option Lf:=
 bif decide (eM < cG) then (bif zC eM dU.length then ((ye k eM 23 [(dU.getD eM.toNat (0,0,0)).1]).bind fun x1=>
   bif qT (r2.length+1) 64 then(rec dU cG (zA (eM+1)) aa ae ag af aN aV aW cn cp cq bq ao aX aD (r2++[x1]))
   else none)
  else none)
 else some (aa,ae,ag,af,aN,aV,aW,cn,cp,cq,bq,ao,aX,aD,r2)
def CT (k:Nat):Nat→Lg
 |0,_,_,_,_,_,_,_,_,_,_,_,_,_,_,_,_,_,_=>none
 |n+1,dU,cG,eM,aa,ae,ag,af,aN,aV,aW,cn,cp,cq,bq,ao,aX,aD,r2=>Yi k (CT k n) dU cG eM aa ae ag af aN aV aW cn cp cq bq ao aX aD r2
def Yj (k:Nat)(DM:Int)(Nh:List zI)(Ni:EQ)(Nj:AC)(Nk:EQ)(Nl:AC)(Nm:EQ)(yn:List zB)(Nn:AC)(No:Int)(Np:Bool):Option MZ:=
 (CQ k k yn (yn.length:Int) 0 DM Nh Ni Nj Nk Nl Nm yn Nn No Np 0 0 false []).bind fun z=>
 (CT k k z.2.1 (z.2.1.length:Int) 0 z.1 z.2.1 z.2.2.1 z.2.2.2.1 z.2.2.2.2.1 z.2.2.2.2.2.1 z.2.2.2.2.2.2.1 z.2.2.2.2.2.2.2.1 z.2.2.2.2.2.2.2.2.1 z.2.2.2.2.2.2.2.2.2.1 z.2.2.2.2.2.2.2.2.2.2.1 z.2.2.2.2.2.2.2.2.2.2.2.1 z.2.2.2.2.2.2.2.2.2.2.2.2.1 z.2.2.2.2.2.2.2.2.2.2.2.2.2.1 z.2.2.2.2.2.2.2.2.2.2.2.2.2.2).bind fun z1=>
 some (tB z1 ([],z1.2.2.2.2.2.2.2.2.1,z1.2.2.2.2.2.2.2.2.2.1,true,z1.2.2.2.2.2.2.2.2.2.2.2.2.2.2))
def Yl (k:Nat)(dy bJ cm dI cO dz dh a1:Int):Option Bool:=
 some (decide (a1>dh))
def Yn (k:Nat)(DH:Int)(DI:List vA)(DJ tH tI a1:Int):Option Bool:=
 bif decide (a1 > 0) then (bif decide (a1 < tH) then (bif !(decide (tI=0)) then some (decide ((Int.tmod a1 tI)=0))
   else none)
  else some false)
 else some false
def Yp (k:Nat)(dy bJ cm dI cO dz dh a1:Int):Option Bool:=
 bif decide (a1≥dz) then some (decide (a1≤dh))
 else some false
def Yq (k:Nat)(dy bJ cm dI cO dz dh a1:Int):Option Bool:=
 (Yp k dy bJ cm dI cO dz dh a1).bind fun x0=>
 some x0
def Yw (k:Nat)(rec:Ku)(s8:List zB)(s9 ak aa:Int)(r1:List zB):Option Kw:=
 bif decide (ak < s9) then (bif zC ak s8.length then ((Yq k (s8.getD ak.toNat (0,0,0,0,0,0,0)).1 (s8.getD ak.toNat (0,0,0,0,0,0,0)).2.1 (s8.getD ak.toNat (0,0,0,0,0,0,0)).2.2.1 (s8.getD ak.toNat (0,0,0,0,0,0,0)).2.2.2.1 (s8.getD ak.toNat (0,0,0,0,0,0,0)).2.2.2.2.1 (s8.getD ak.toNat (0,0,0,0,0,0,0)).2.2.2.2.2.1 (s8.getD ak.toNat (0,0,0,0,0,0,0)).2.2.2.2.2.2 aa).bind fun x0=>
   bif x0 then (bif qT (r1.length + 1) 56 then (let y0:List zB:=(r1++[(s8.getD ak.toNat (0,0,0,0,0,0,0))])
     rec s8 s9 (zA (ak+1)) aa y0)
    else none)
   else rec s8 s9 (zA (ak+1)) aa r1)
  else none)
 else some r1
def CU (k:Nat):Nat→Ku
 |0,_,_,_,_,_=>none
 |n+1,s8,s9,ak,aa,r1=>Yw k (CU k n) s8 s9 ak aa r1
def Yx (k:Nat)(a0:List zB)(bO:Int):Option (List zB):=
 (CU k k a0 (a0.length:Int) 0 bO []).bind fun z=>
 some z
def CV (k:Nat)(a0:List zB)(a1:Int):Option (List zB):=
 (Yx k a0 a1).bind fun x0=>
 some x0
def Yy (k:Nat)(dy bJ cm dI cO dz dh DE fk j6 m9 j7 DF DG:Int):Option Bool:=
 bif decide (bJ=fk) then some (!(decide (cO=3)))
 else some false
abbrev Lm:Type:=List zB→Int→Int→Int→Int→Int→Int→Int→Int→Int→Option (Unit⊕Int)
def YF (k:Nat)(rec:Lm)(s0:List zB)(s7 s8 aa ae ag af aN aV aW:Int):Option (Unit⊕Int):=
 bif decide (s8 < s7) then (bif zC s8 s0.length then ((Yy k (s0.getD s8.toNat (0,0,0,0,0,0,0)).1 (s0.getD s8.toNat (0,0,0,0,0,0,0)).2.1 (s0.getD s8.toNat (0,0,0,0,0,0,0)).2.2.1 (s0.getD s8.toNat (0,0,0,0,0,0,0)).2.2.2.1 (s0.getD s8.toNat (0,0,0,0,0,0,0)).2.2.2.2.1 (s0.getD s8.toNat (0,0,0,0,0,0,0)).2.2.2.2.2.1 (s0.getD s8.toNat (0,0,0,0,0,0,0)).2.2.2.2.2.2 aa ae ag af aN aV aW).bind fun x0=>
   bif x0 then some (.inr s8)
   else rec s0 s7 (zA (s8+1)) aa ae ag af aN aV aW)
  else none)
 else some (.inl ())
def CW (k:Nat):Nat→Lm
 |0,_,_,_,_,_,_,_,_,_,_=>none
 |n+1,s0,s7,s8,aa,ae,ag,af,aN,aV,aW=>YF k (CW k n) s0 s7 s8 aa ae ag af aN aV aW
def YG (k:Nat)(a0:List zB)(Nq Nr Ns Nt Nu Nv Nw:Int):Option Int:=
 (CW k k a0 (a0.length:Int) 0 Nq Nr Ns Nt Nu Nv Nw).bind fun z=>
 match z with
 |.inl z1=>some (-1)
 |.inr z2=>some z2
def YH (k:Nat)(a0:List zB)(Nq Nr Ns Nt Nu Nv Nw:Int):Option Bool:=
 (YG k a0 Nq Nr Ns Nt Nu Nv Nw).bind fun x0=>
 some (decide (x0≥0))
def YI (k:Nat)(dy bJ cm dI cO dz dh:Int)(a1:List vJ)(a2:List zB):Option (Bool×(List vJ)):=
 bif !(Option.getD (List.lookup bJ a1) false) then some (true,((bJ,true)::a1))
 else bif decide (cO = 3) then ((YH k a2 dy bJ cm dI cO dz dh).bind fun x0=>
  some ((!x0),((bJ,true)::a1)))
 else some (false,((bJ,true)::a1))
abbrev Ls:Type:=(List vJ)×(List zB)×(List zB)
abbrev Lq:Type:=List zB→Int→Int→List vJ→List zB→List zB→Option Ls
def YO (k:Nat)(rec:Lq)(s8:List zB)(s9 ak:Int)(p1:List vJ)(bp r3:List zB):Option Ls:=
 bif decide (ak < s9) then (bif zC ak s8.length then ((YI k (s8.getD ak.toNat (0,0,0,0,0,0,0)).1 (s8.getD ak.toNat (0,0,0,0,0,0,0)).2.1 (s8.getD ak.toNat (0,0,0,0,0,0,0)).2.2.1 (s8.getD ak.toNat (0,0,0,0,0,0,0)).2.2.2.1 (s8.getD ak.toNat (0,0,0,0,0,0,0)).2.2.2.2.1 (s8.getD ak.toNat (0,0,0,0,0,0,0)).2.2.2.2.2.1 (s8.getD ak.toNat (0,0,0,0,0,0,0)).2.2.2.2.2.2 p1 bp).bind fun x0=>
   bif x0.1 then (bif qT (r3.length + 1) 56 then (let y0:List zB:=(r3++[(s8.getD ak.toNat (0,0,0,0,0,0,0))])
     rec s8 s9 (zA (ak+1)) x0.2 bp y0)
    else none)
   else rec s8 s9 (zA (ak+1)) x0.2 bp r3)
  else none)
 else some (p1,bp,r3)
def CX (k:Nat):Nat→Lq
 |0,_,_,_,_,_,_=>none
 |n+1,s8,s9,ak,p1,bp,r3=>YO k (CX k n) s8 s9 ak p1 bp r3
def YP (k:Nat)(a0:List zB)(bO:List vJ)(Nx:List zB):Option ((List zB)×(List vJ)):=
 (CX k k a0 (a0.length:Int) 0 bO Nx []).bind fun z=>
 some (z.2.2,z.1)
def Lt (k:Nat)(a0:List zB)(a1:Int):Option (List zB):=
 (CV k a0 a1).bind fun x0=>
 (YP k x0 [] x0).bind fun x1=>
 some x1.1
def YQ (k:Nat)(dy bJ cm dI cO dz dh:Int)(fl:List zI)(tJ:EQ)(tK:AC)(tL:EQ):Option Bool:=
 (so k fl tJ tK tL dy bJ cm dI cO dz dh).bind fun x0=>
 some (!x0)
abbrev Lu:Type:=List zB→Int→Int→List zI→EQ→AC→EQ→Option (Unit⊕Int)
def YX (k:Nat)(rec:Lu)(s0:List zB)(s7 s8:Int)(aa:List zI)(ae:EQ)(ag:AC)(af:EQ):Option (Unit⊕Int):=
 bif decide (s8 < s7) then (bif zC s8 s0.length then ((YQ k (s0.getD s8.toNat (0,0,0,0,0,0,0)).1 (s0.getD s8.toNat (0,0,0,0,0,0,0)).2.1 (s0.getD s8.toNat (0,0,0,0,0,0,0)).2.2.1 (s0.getD s8.toNat (0,0,0,0,0,0,0)).2.2.2.1 (s0.getD s8.toNat (0,0,0,0,0,0,0)).2.2.2.2.1 (s0.getD s8.toNat (0,0,0,0,0,0,0)).2.2.2.2.2.1 (s0.getD s8.toNat (0,0,0,0,0,0,0)).2.2.2.2.2.2 aa ae ag af).bind fun x0=>
   bif x0 then some (.inr s8)
   else rec s0 s7 (zA (s8+1)) aa ae ag af)
  else none)
 else some (.inl ())
def CY (k:Nat):Nat→Lu
 |0,_,_,_,_,_,_,_=>none
 |n+1,s0,s7,s8,aa,ae,ag,af=>YX k (CY k n) s0 s7 s8 aa ae ag af
def YY (k:Nat)(a0:List zB)(pC:List zI)(pD:EQ)(pE:AC)(pF:EQ):Option Int:=
 (CY k k a0 (a0.length:Int) 0 pC pD pE pF).bind fun z=>
 match z with
 |.inl z1=>some (-1)
 |.inr z2=>some z2
def YZ (k:Nat)(a0:List zB)(pC:List zI)(pD:EQ)(pE:AC)(pF:EQ):Option Bool:=
 (YY k a0 pC pD pE pF).bind fun x0=>
 some (decide (x0≥0))
abbrev LA:Type:=AC×AC×EQ
abbrev Lx:Type:=List zB→Int→Int→AC→AC→EQ→Option LA
def Y4 (k:Nat)(rec:Lx)(az:List zB)(bb aK:Int)(r2 r3:AC)(m4:EQ):Option LA:=
 bif decide (aK < bb) then (bif zC aK az.length then (bif zC (az.getD aK.toNat (0, 0, 0, 0, 0, 0, 0)).2.1 r2.length then (bif zC (az.getD aK.toNat (0, 0, 0, 0, 0, 0, 0)).2.1 r2.length then (let y0:AC:=(r2.set (az.getD aK.toNat (0,0,0,0,0,0,0)).2.1.toNat (zA ((r2.getD (az.getD aK.toNat (0,0,0,0,0,0,0)).2.1.toNat 0)-(az.getD aK.toNat (0,0,0,0,0,0,0)).2.2.2.1)))
     bif zC (az.getD aK.toNat (0, 0, 0, 0, 0, 0, 0)).2.2.1 y0.length then (bif zC (az.getD aK.toNat (0, 0, 0, 0, 0, 0, 0)).2.2.1 y0.length then (let y1:AC:=(y0.set (az.getD aK.toNat (0,0,0,0,0,0,0)).2.2.1.toNat (zA ((y0.getD (az.getD aK.toNat (0,0,0,0,0,0,0)).2.2.1.toNat 0)+(az.getD aK.toNat (0,0,0,0,0,0,0)).2.2.2.1)))
       bif zC (az.getD aK.toNat (0, 0, 0, 0, 0, 0, 0)).2.1 m4.length then (bif zC (az.getD aK.toNat (0, 0, 0, 0, 0, 0, 0)).2.2.1 (m4.getD (az.getD aK.toNat (0, 0, 0, 0, 0, 0, 0)).2.1.toNat []).length then (bif zC (az.getD aK.toNat (0, 0, 0, 0, 0, 0, 0)).2.2.1 (m4.getD (az.getD aK.toNat (0, 0, 0, 0, 0, 0, 0)).2.1.toNat []).length then (let y2:EQ:=(m4.set (az.getD aK.toNat (0,0,0,0,0,0,0)).2.1.toNat ((m4.getD (az.getD aK.toNat (0,0,0,0,0,0,0)).2.1.toNat []).set (az.getD aK.toNat (0,0,0,0,0,0,0)).2.2.1.toNat (zA (((m4.getD (az.getD aK.toNat (0,0,0,0,0,0,0)).2.1.toNat []).getD (az.getD aK.toNat (0,0,0,0,0,0,0)).2.2.1.toNat 0)+(az.getD aK.toNat (0,0,0,0,0,0,0)).2.2.2.1))))
          bif zC (az.getD aK.toNat (0, 0, 0, 0, 0, 0, 0)).2.2.1 y2.length then (bif zC (az.getD aK.toNat (0, 0, 0, 0, 0, 0, 0)).2.1 (y2.getD (az.getD aK.toNat (0, 0, 0, 0, 0, 0, 0)).2.2.1.toNat []).length then (bif zC (az.getD aK.toNat (0, 0, 0, 0, 0, 0, 0)).2.1 (y2.getD (az.getD aK.toNat (0, 0, 0, 0, 0, 0, 0)).2.2.1.toNat []).length then (let y3:EQ:=(y2.set (az.getD aK.toNat (0,0,0,0,0,0,0)).2.2.1.toNat ((y2.getD (az.getD aK.toNat (0,0,0,0,0,0,0)).2.2.1.toNat []).set (az.getD aK.toNat (0,0,0,0,0,0,0)).2.1.toNat (zA (((y2.getD (az.getD aK.toNat (0,0,0,0,0,0,0)).2.2.1.toNat []).getD (az.getD aK.toNat (0,0,0,0,0,0,0)).2.1.toNat 0)-(az.getD aK.toNat (0,0,0,0,0,0,0)).2.2.2.1))))
             bif !(decide ((az.getD aK.toNat (0, 0, 0, 0, 0, 0, 0)).2.2.2.2.1 = 3)) then (bif zC (az.getD aK.toNat (0, 0, 0, 0, 0, 0, 0)).2.1 r3.length then (bif zC (az.getD aK.toNat (0, 0, 0, 0, 0, 0, 0)).2.1 r3.length then (let y4:AC:=(r3.set (az.getD aK.toNat (0,0,0,0,0,0,0)).2.1.toNat (zA ((r3.getD (az.getD aK.toNat (0,0,0,0,0,0,0)).2.1.toNat 0)+(az.getD aK.toNat (0,0,0,0,0,0,0)).2.2.2.1)))
                rec az bb (zA (aK+1)) y1 y4 y3)
               else none)
              else none)
             else rec az bb (zA (aK+1)) y1 r3 y3)
            else none)
           else none)
          else none)
         else none)
        else none)
       else none)
      else none)
     else none)
    else none)
   else none)
  else none)
 else some (r2,r3,m4)
def CZ (k:Nat):Nat→Lx
 |0,_,_,_,_,_,_=>none
 |n+1,az,bb,aK,r2,r3,m4=>Y4 k (CZ k n) az bb aK r2 r3 m4
def Y5 (k:Nat)(a0:Int)(a1:List zB):Option (AC×AC×EQ):=
 (xV k a0 0).bind fun x0=>
 (xV k a0 0).bind fun x1=>
 (CA k a0 0).bind fun x2=>
 (CZ k k a1 (a1.length:Int) 0 x0 x1 x2).bind fun z=>
 some (z.1,z.2.1,z.2.2)
def Y7 (k:Nat)(dy bJ cm dI cO dz dh a1:Int):Option Bool:=
 some (decide (bJ=a1))
def Ze (k:Nat)(rec:IV)(s0:List zB)(s7 s8 aa:Int):Option (Unit⊕Int):=
 bif decide (s8 < s7) then (bif zC s8 s0.length then ((Y7 k (s0.getD s8.toNat (0,0,0,0,0,0,0)).1 (s0.getD s8.toNat (0,0,0,0,0,0,0)).2.1 (s0.getD s8.toNat (0,0,0,0,0,0,0)).2.2.1 (s0.getD s8.toNat (0,0,0,0,0,0,0)).2.2.2.1 (s0.getD s8.toNat (0,0,0,0,0,0,0)).2.2.2.2.1 (s0.getD s8.toNat (0,0,0,0,0,0,0)).2.2.2.2.2.1 (s0.getD s8.toNat (0,0,0,0,0,0,0)).2.2.2.2.2.2 aa).bind fun x0=>
   bif x0 then some (.inr s8)
   else rec s0 s7 (zA (s8+1)) aa)
  else none)
 else some (.inl ())
def C3 (k:Nat):Nat→IV
 |0,_,_,_,_=>none
 |n+1,s0,s7,s8,aa=>Ze k (C3 k n) s0 s7 s8 aa
def Zf (k:Nat)(a0:List zB)(bO:Int):Option Int:=
 (C3 k k a0 (a0.length:Int) 0 bO).bind fun z=>
 match z with
 |.inl z1=>some (-1)
 |.inr z2=>some z2
def Zg (k:Nat)(a0:List zB)(bO:Int):Option Bool:=
 (Zf k a0 bO).bind fun x0=>
 some (decide (x0≥0))
def Zm (k:Nat)(rec:Int→AC→Int→Int→Option Int)(s5:Int)(fN:AC)(bj aP:Int):Option Int:=
 bif decide (aP < bj) then (bif zC aP fN.length then(rec (zA (s5+(fN.getD aP.toNat 0))) fN bj (zA (aP+1)))
  else none)
 else some s5
def C4 (k:Nat):Nat→Int→AC→Int→Int→Option Int
 |0,_,_,_,_=>none
 |n+1,s5,fN,bj,aP=>Zm k (C4 k n) s5 fN bj aP
def Zn (k:Nat)(aR:List zI)(bm:EQ)(bg:AC)(bd:EQ)(a1:Int):Option Int:=
 bif zC a1 bd.length then ((C4 k k 0 (bd.getD a1.toNat []) ((bd.getD a1.toNat []).length:Int) 0).bind fun z=>
  some z)
 else none
def C5 (k:Nat)(a0 a1:Int):Option Bool:=
 bif !(decide (a1=(-1))) then some (decide (a0>a1))
 else some false
def Zp (k:Nat)(dy bJ cm dI cO dz dh a1 yVm yVn yVo:Int)(Ny fm:AC)(cy:EQ)(a4:Int)(yVp:List zI)(tM:EQ)(yVr:AC)(tN:EQ):Option Bool:=
 bif !(decide (bJ=a1)) then some false
 else bif zC a1 fm.length then ((sx k yVm yVn yVo (fm.getD a1.toNat 0)).bind fun x0=>
  bif decide (cO = 3) then (bif decide (a4<x0) then some true
   else bif zC a1 tN.length then (bif zC cm (tN.getD a1.toNat []).length then (bif zC a1 cy.length then (bif zC cm (cy.getD a1.toNat []).length then (bif zC a1 tM.length then (bif zC cm (tM.getD a1.toNat []).length then ((C5 k (zA (((tN.getD a1.toNat []).getD cm.toNat 0)+((cy.getD a1.toNat []).getD cm.toNat 0))) ((tM.getD a1.toNat []).getD cm.toNat 0)).bind fun x1=>
         some x1)
        else none)
       else none)
      else none)
     else none)
    else none)
   else none)
  else bif zC a1 tN.length then (bif zC cm (tN.getD a1.toNat []).length then (bif zC a1 cy.length then (bif zC cm (cy.getD a1.toNat []).length then (bif zC a1 tM.length then (bif zC cm (tM.getD a1.toNat []).length then ((C5 k (zA (((tN.getD a1.toNat []).getD cm.toNat 0)+((cy.getD a1.toNat []).getD cm.toNat 0))) ((tM.getD a1.toNat []).getD cm.toNat 0)).bind fun x2=>
        some x2)
       else none)
      else none)
     else none)
    else none)
   else none)
  else none)
 else none
abbrev LH:Type:=List zB→Int→Int→Int→Int→Int→Int→AC→AC→EQ→Int→List zI→EQ→AC→EQ→Option (Unit⊕Int)
def Zw (k:Nat)(rec:LH)(s0:List zB)(s7 s8 aa ao aw ax:Int)(bp lk:AC)(ll:EQ)(bx:Int)(dj:List zI)(lq:EQ)(lr:AC)(lu:EQ):Option (Unit⊕Int):=
 bif decide (s8 < s7) then (bif zC s8 s0.length then ((Zp k (s0.getD s8.toNat (0,0,0,0,0,0,0)).1 (s0.getD s8.toNat (0,0,0,0,0,0,0)).2.1 (s0.getD s8.toNat (0,0,0,0,0,0,0)).2.2.1 (s0.getD s8.toNat (0,0,0,0,0,0,0)).2.2.2.1 (s0.getD s8.toNat (0,0,0,0,0,0,0)).2.2.2.2.1 (s0.getD s8.toNat (0,0,0,0,0,0,0)).2.2.2.2.2.1 (s0.getD s8.toNat (0,0,0,0,0,0,0)).2.2.2.2.2.2 aa ao aw ax bp lk ll bx dj lq lr lu).bind fun x0=>
   bif x0 then some (.inr s8)
   else rec s0 s7 (zA (s8+1)) aa ao aw ax bp lk ll bx dj lq lr lu)
  else none)
 else some (.inl ())
def C7 (k:Nat):Nat→LH
 |0,_,_,_,_,_,_,_,_,_,_,_,_,_,_,_=>none
 |n+1,s0,s7,s8,aa,ao,aw,ax,bp,lk,ll,bx,dj,lq,lr,lu=>Zw k (C7 k n) s0 s7 s8 aa ao aw ax bp lk ll bx dj lq lr lu
def Zx (k:Nat)(a0:List zB)(bO Nz NA NB:Int)(cL cz:AC)(cM:EQ)(pG:Int)(NC:List zI)(ND:EQ)(NF:AC)(NG:EQ):Option Int:=
 (C7 k k a0 (a0.length:Int) 0 bO Nz NA NB cL cz cM pG NC ND NF NG).bind fun z=>
 match z with
 |.inl z1=>some (-1)
 |.inr z2=>some z2
def Zy (k:Nat)(a0:List zB)(bO Nz NA NB:Int)(cL cz:AC)(cM:EQ)(pG:Int)(NC:List zI)(ND:EQ)(NF:AC)(NG:EQ):Option Bool:=
 (Zx k a0 bO Nz NA NB cL cz cM pG NC ND NF NG).bind fun x0=>
 some (decide (x0≥0))
abbrev LM:Type:=(List zB)×Int×AC×AC×EQ×(List zI)×EQ×AC×EQ×Int×Int×Int×Int×Int
abbrev LK:Type:=List zB→Int→AC→Int→Int→AC→AC→EQ→List zI→EQ→AC→EQ→Int→Int→Int→Int→Int→Option LM
def ZE (k:Nat)(rec:LK)(s3:List zB)(bY:Int)(j9:AC)(di gD:Int)(aa ae:AC)(ag:EQ)(ao:List zI)(aw:EQ)(ax:AC)(aB:EQ)(bp bx bP bT dj:Int):Option LM:=
 bif decide (gD < di) then (bif zC gD j9.length then(rec s3 (zA (bY+(j9.getD gD.toNat 0))) j9 di (zA (gD+1)) aa ae ag ao aw ax aB bp bx bP bT dj)
  else none)
 else some (s3,bY,aa,ae,ag,ao,aw,ax,aB,bp,bx,bP,bT,dj)
def C8 (k:Nat):Nat→LK
 |0,_,_,_,_,_,_,_,_,_,_,_,_,_,_,_,_,_=>none
 |n+1,s3,bY,j9,di,gD,aa,ae,ag,ao,aw,ax,aB,bp,bx,bP,bT,dj=>ZE k (C8 k n) s3 bY j9 di gD aa ae ag ao aw ax aB bp bx bP bT dj
def ZF (k:Nat)(dk lv:AC)(dm:EQ)(fl:List zI)(tJ:EQ)(tK:AC)(tL:EQ)(a2:Int)(a3:List zB):Option Bool:=
 bif zC a2 fl.length then (bif zC a2 dk.length then (bif decide ((zA ((zA ((fl.getD a2.toNat (0,0,0)).1+(fl.getD a2.toNat (0,0,0)).2.1))+(dk.getD a2.toNat 0)))<0) then some true
   else(Zn k fl tJ tK tL a2).bind fun x0=>
   bif zC a2 dm.length then ((C8 k k a3 x0 (dm.getD a2.toNat []) ((dm.getD a2.toNat []).length:Int) 0 dk lv dm fl tJ tK tL a2 (fl.getD a2.toNat (0,0,0)).1 (fl.getD a2.toNat (0,0,0)).2.1 (fl.getD a2.toNat (0,0,0)).2.2 (zA ((zA ((fl.getD a2.toNat (0,0,0)).1+(fl.getD a2.toNat (0,0,0)).2.1))+(dk.getD a2.toNat 0)))).bind fun z=>
    bif zC z.2.2.2.2.2.2.2.2.2.1 z.2.2.2.2.2.2.2.1.length then ((C5 k z.2.1 (z.2.2.2.2.2.2.2.1.getD z.2.2.2.2.2.2.2.2.2.1.toNat 0)).bind fun x1=>
     bif x1 then some true
     else(Zy k z.1 z.2.2.2.2.2.2.2.2.2.1 z.2.2.2.2.2.2.2.2.2.2.1 z.2.2.2.2.2.2.2.2.2.2.2.1 z.2.2.2.2.2.2.2.2.2.2.2.2.1 z.2.2.1 z.2.2.2.1 z.2.2.2.2.1 z.2.2.2.2.2.2.2.2.2.2.2.2.2 z.2.2.2.2.2.1 z.2.2.2.2.2.2.1 z.2.2.2.2.2.2.2.1 z.2.2.2.2.2.2.2.2.1).bind fun x2=>
     some x2)
    else none)
   else none)
  else none)
 else none
abbrev LN:Type:=List zB→Int→Int→List zI→EQ→AC→EQ→AC→AC→EQ→AC→Option AC
def ZL (k:Nat)(rec:LN)(s1:List zB)(bb aK:Int)(aa:List zI)(ae:EQ)(ag:AC)(af:EQ)(r2 r3:AC)(m4:EQ)(r5:AC):Option AC:=
 bif decide (aK < bb) then ((Zg k s1 aK).bind fun x1=>
  bif x1 then ((ZF k r2 r3 m4 aa ae ag af aK s1).bind fun x2=>
   bif x2 then (bif qT (r5.length+1) 8 then(rec s1 bb (zA (aK+1)) aa ae ag af r2 r3 m4 (r5++[aK]))
    else none)
   else rec s1 bb (zA (aK+1)) aa ae ag af r2 r3 m4 r5)
  else rec s1 bb (zA (aK+1)) aa ae ag af r2 r3 m4 r5)
 else some r5
def C9 (k:Nat):Nat→LN
 |0,_,_,_,_,_,_,_,_,_,_,_=>none
 |n+1,s1,bb,aK,aa,ae,ag,af,r2,r3,m4,r5=>ZL k (C9 k n) s1 bb aK aa ae ag af r2 r3 m4 r5
def LP (k:Nat)(aR:List zI)(bm:EQ)(bg:AC)(bd:EQ)(a1:List zB):Option AC:=
 (Y5 k (aR.length:Int) a1).bind fun x0=>
 (C9 k k a1 (aR.length:Int) 0 aR bm bg bd x0.1 x0.2.1 x0.2.2 []).bind fun z=>
 some z
def LQ (k:Nat)(aR:List zI)(bm:EQ)(bg:AC)(bd:EQ)(a1:List zB):Option Bool:=
 bif decide ((a1.length : Int) ≤ 64) then ((YZ k a1 aR bm bg bd).bind fun x0=>
  bif !x0 then ((LP k aR bm bg bd a1).bind fun x1=>
   some (decide ((x1.length:Int)=0)))
  else some false)
 else some false
def G8 (k:Nat)(dy bJ cm dI cO dz dh:Int)(fl:List zI)(tJ:EQ)(tK:AC)(tL:EQ):Option Bool:=
 (so k fl tJ tK tL dy bJ cm dI cO dz dh).bind fun x0=>
 some (!x0)
def sr (k:Nat)(rec:Lu)(s0:List zB)(s7 s8:Int)(aa:List zI)(ae:EQ)(ag:AC)(af:EQ):Option (Unit⊕Int):=
 bif decide (s8 < s7) then (bif zC s8 s0.length then ((G8 k (s0.getD s8.toNat (0,0,0,0,0,0,0)).1 (s0.getD s8.toNat (0,0,0,0,0,0,0)).2.1 (s0.getD s8.toNat (0,0,0,0,0,0,0)).2.2.1 (s0.getD s8.toNat (0,0,0,0,0,0,0)).2.2.2.1 (s0.getD s8.toNat (0,0,0,0,0,0,0)).2.2.2.2.1 (s0.getD s8.toNat (0,0,0,0,0,0,0)).2.2.2.2.2.1 (s0.getD s8.toNat (0,0,0,0,0,0,0)).2.2.2.2.2.2 aa ae ag af).bind fun x0=>
   bif x0 then some (.inr s8)
   else rec s0 s7 (zA (s8+1)) aa ae ag af)
  else none)
 else some (.inl ())
def w6 (k:Nat):Nat→Lu
 |0,_,_,_,_,_,_,_=>none
 |n+1,s0,s7,s8,aa,ae,ag,af=>sr k (w6 k n) s0 s7 s8 aa ae ag af
def G9 (k:Nat)(a0:List zB)(pC:List zI)(pD:EQ)(pE:AC)(pF:EQ):Option Int:=
 (w6 k k a0 (a0.length:Int) 0 pC pD pE pF).bind fun z=>
 match z with
 |.inl z1=>some (-1)
 |.inr z2=>some z2
def Bl (k:Nat)(a0:List zB)(pC:List zI)(pD:EQ)(pE:AC)(pF:EQ):Option Bool:=
 (G9 k a0 pC pD pE pF).bind fun x0=>
 some (decide (x0≥0))
abbrev LW:Type:=(List zI)×EQ×AC×EQ×(List zI)×EQ×AC×EQ
abbrev LU:Type:=List zB→Int→Int→List zI→EQ→AC→EQ→List zI→EQ→AC→EQ→Option LW
def sw (k:Nat)(rec:LU)(aQ:List zB)(dw aE:Int)(aa:List zI)(ae:EQ)(ag:AC)(af:EQ)(r3:List zI)(m4:EQ)(r5:AC)(m6:EQ):Option LW:=
 bif decide (aE < dw) then (bif zC aE aQ.length then (bif zC (aQ.getD aE.toNat (0, 0, 0, 0, 0, 0, 0)).2.1 r3.length then (bif zC (aQ.getD aE.toNat (0, 0, 0, 0, 0, 0, 0)).2.2.1 r3.length then (let y0:List zI:=(r3.set (aQ.getD aE.toNat (0,0,0,0,0,0,0)).2.1.toNat ((zA ((r3.getD (aQ.getD aE.toNat (0,0,0,0,0,0,0)).2.1.toNat (0,0,0)).1-(aQ.getD aE.toNat (0,0,0,0,0,0,0)).2.2.2.1)),(r3.getD (aQ.getD aE.toNat (0,0,0,0,0,0,0)).2.1.toNat (0,0,0)).2))
     let y1:List zI:=(y0.set (aQ.getD aE.toNat (0,0,0,0,0,0,0)).2.2.1.toNat ((zA ((y0.getD (aQ.getD aE.toNat (0,0,0,0,0,0,0)).2.2.1.toNat (0,0,0)).1+(aQ.getD aE.toNat (0,0,0,0,0,0,0)).2.2.2.1)),(y0.getD (aQ.getD aE.toNat (0,0,0,0,0,0,0)).2.2.1.toNat (0,0,0)).2))
     bif !(decide ((aQ.getD aE.toNat (0, 0, 0, 0, 0, 0, 0)).2.2.2.2.1 = 3)) then ((sx k (y1.getD (aQ.getD aE.toNat (0,0,0,0,0,0,0)).2.1.toNat (0,0,0)).1 (y1.getD (aQ.getD aE.toNat (0,0,0,0,0,0,0)).2.1.toNat (0,0,0)).2.1 (y1.getD (aQ.getD aE.toNat (0,0,0,0,0,0,0)).2.1.toNat (0,0,0)).2.2 (aQ.getD aE.toNat (0,0,0,0,0,0,0)).2.2.2.1).bind fun x2=>
      let y2:List zI:=(y1.set (aQ.getD aE.toNat (0,0,0,0,0,0,0)).2.1.toNat ((y1.getD (aQ.getD aE.toNat (0,0,0,0,0,0,0)).2.1.toNat (0,0,0)).1,(y1.getD (aQ.getD aE.toNat (0,0,0,0,0,0,0)).2.1.toNat (0,0,0)).2.1,x2))
      bif zC (aQ.getD aE.toNat (0, 0, 0, 0, 0, 0, 0)).2.1 m6.length then (bif zC (aQ.getD aE.toNat (0, 0, 0, 0, 0, 0, 0)).2.2.1 (m6.getD (aQ.getD aE.toNat (0, 0, 0, 0, 0, 0, 0)).2.1.toNat []).length then (bif zC (aQ.getD aE.toNat (0, 0, 0, 0, 0, 0, 0)).2.2.1 (m6.getD (aQ.getD aE.toNat (0, 0, 0, 0, 0, 0, 0)).2.1.toNat []).length then (let y3:EQ:=(m6.set (aQ.getD aE.toNat (0,0,0,0,0,0,0)).2.1.toNat ((m6.getD (aQ.getD aE.toNat (0,0,0,0,0,0,0)).2.1.toNat []).set (aQ.getD aE.toNat (0,0,0,0,0,0,0)).2.2.1.toNat (zA (((m6.getD (aQ.getD aE.toNat (0,0,0,0,0,0,0)).2.1.toNat []).getD (aQ.getD aE.toNat (0,0,0,0,0,0,0)).2.2.1.toNat 0)+(aQ.getD aE.toNat (0,0,0,0,0,0,0)).2.2.2.1))))
         bif zC (aQ.getD aE.toNat (0, 0, 0, 0, 0, 0, 0)).2.2.1 y3.length then (bif zC (aQ.getD aE.toNat (0, 0, 0, 0, 0, 0, 0)).2.1 (y3.getD (aQ.getD aE.toNat (0, 0, 0, 0, 0, 0, 0)).2.2.1.toNat []).length then (bif zC (aQ.getD aE.toNat (0, 0, 0, 0, 0, 0, 0)).2.1 (y3.getD (aQ.getD aE.toNat (0, 0, 0, 0, 0, 0, 0)).2.2.1.toNat []).length then (let y4:EQ:=(y3.set (aQ.getD aE.toNat (0,0,0,0,0,0,0)).2.2.1.toNat ((y3.getD (aQ.getD aE.toNat (0,0,0,0,0,0,0)).2.2.1.toNat []).set (aQ.getD aE.toNat (0,0,0,0,0,0,0)).2.1.toNat (zA (((y3.getD (aQ.getD aE.toNat (0,0,0,0,0,0,0)).2.2.1.toNat []).getD (aQ.getD aE.toNat (0,0,0,0,0,0,0)).2.1.toNat 0)-(aQ.getD aE.toNat (0,0,0,0,0,0,0)).2.2.2.1))))
            rec aQ dw (zA (aE+1)) aa ae ag af y2 m4 r5 y4)
           else none)
          else none)
         else none)
        else none)
       else none)
      else none)
     else bif zC (aQ.getD aE.toNat (0, 0, 0, 0, 0, 0, 0)).2.1 m6.length then (bif zC (aQ.getD aE.toNat (0, 0, 0, 0, 0, 0, 0)).2.2.1 (m6.getD (aQ.getD aE.toNat (0, 0, 0, 0, 0, 0, 0)).2.1.toNat []).length then (bif zC (aQ.getD aE.toNat (0, 0, 0, 0, 0, 0, 0)).2.2.1 (m6.getD (aQ.getD aE.toNat (0, 0, 0, 0, 0, 0, 0)).2.1.toNat []).length then (let y5:EQ:=(m6.set (aQ.getD aE.toNat (0,0,0,0,0,0,0)).2.1.toNat ((m6.getD (aQ.getD aE.toNat (0,0,0,0,0,0,0)).2.1.toNat []).set (aQ.getD aE.toNat (0,0,0,0,0,0,0)).2.2.1.toNat (zA (((m6.getD (aQ.getD aE.toNat (0,0,0,0,0,0,0)).2.1.toNat []).getD (aQ.getD aE.toNat (0,0,0,0,0,0,0)).2.2.1.toNat 0)+(aQ.getD aE.toNat (0,0,0,0,0,0,0)).2.2.2.1))))
        bif zC (aQ.getD aE.toNat (0, 0, 0, 0, 0, 0, 0)).2.2.1 y5.length then (bif zC (aQ.getD aE.toNat (0, 0, 0, 0, 0, 0, 0)).2.1 (y5.getD (aQ.getD aE.toNat (0, 0, 0, 0, 0, 0, 0)).2.2.1.toNat []).length then (bif zC (aQ.getD aE.toNat (0, 0, 0, 0, 0, 0, 0)).2.1 (y5.getD (aQ.getD aE.toNat (0, 0, 0, 0, 0, 0, 0)).2.2.1.toNat []).length then (let y6:EQ:=(y5.set (aQ.getD aE.toNat (0,0,0,0,0,0,0)).2.2.1.toNat ((y5.getD (aQ.getD aE.toNat (0,0,0,0,0,0,0)).2.2.1.toNat []).set (aQ.getD aE.toNat (0,0,0,0,0,0,0)).2.1.toNat (zA (((y5.getD (aQ.getD aE.toNat (0,0,0,0,0,0,0)).2.2.1.toNat []).getD (aQ.getD aE.toNat (0,0,0,0,0,0,0)).2.1.toNat 0)-(aQ.getD aE.toNat (0,0,0,0,0,0,0)).2.2.2.1))))
           rec aQ dw (zA (aE+1)) aa ae ag af y1 m4 r5 y6)
          else none)
         else none)
        else none)
       else none)
      else none)
     else none)
    else none)
   else none)
  else none)
 else some (aa,ae,ag,af,r3,m4,r5,m6)
def sv (k:Nat):Nat→LU
 |0,_,_,_,_,_,_,_,_,_,_,_=>none
 |n+1,aQ,dw,aE,aa,ae,ag,af,r3,m4,r5,m6=>sw k (sv k n) aQ dw aE aa ae ag af r3 m4 r5 m6
def mo (k:Nat)(aR:List zI)(bm:EQ)(bg:AC)(bd:EQ)(a1:List zB):Option ((List zI)×EQ×AC×EQ×Int):=
 bif decide ((a1.length:Int)>64) then some (aR,bm,bg,bd,1)
 else(Bl k a1 aR bm bg bd).bind fun x0=>
 bif x0 then some (aR,bm,bg,bd,1)
 else(jS k aR bm bg bd).bind fun x1=>
 (sv k k a1 (a1.length:Int) 0 aR bm bg bd x1.1 x1.2.1 x1.2.2.1 x1.2.2.2).bind fun z=>
 (sm k z.2.2.2.2.1 z.2.2.2.2.2.1 z.2.2.2.2.2.2.1 z.2.2.2.2.2.2.2).bind fun x3=>
 bif !x3 then some (vT z 8)
 else some (qJ1 z 0)
abbrev LZ:Type:=((List zI)×EQ×AC×EQ×Int×Int×Int×Int×Int×Int×Int)⊕(Bool×Int×Int×Int×Int×Int×Int×Int×(List zI)×EQ×AC×EQ)
abbrev LX:Type:=Int→Int→List zI→EQ→AC→EQ→Int→Int→Int→Int→Int→Int→Int→List zB→Option LZ
def Z2 (k:Nat)(rec:LX)(bb aK:Int)(aa:List zI)(ae:EQ)(ag:AC)(af:EQ)(ao aw ax aB aH aI aJ:Int)(r3:List zB):Option LZ:=
 bif decide (aK < bb) then (bif zC aK r3.length then ((LQ k aa ae ag af [(r3.getD aK.toNat (0,0,0,0,0,0,0))]).bind fun x1=>
   bif !x1 then(rec bb (zA (aK+1)) aa ae ag af ao aw ax aB aH aI aJ r3)
   else(mo k aa ae ag af [(r3.getD aK.toNat (0,0,0,0,0,0,0))]).bind fun x2=>
   bif decide (x2.2.2.2.2=0) then some (.inr (true,(gy (r3.getD aK.toNat (0,0,0,0,0,0,0)) (tA x2))))
   else rec bb (zA (aK+1)) aa ae ag af ao aw ax aB aH aI aJ r3)
  else none)
 else some (.inl (aa,ae,ag,af,ao,aw,ax,aB,aH,aI,aJ))
def Dc (k:Nat):Nat→LX
 |0,_,_,_,_,_,_,_,_,_,_,_,_,_,_=>none
 |n+1,bb,aK,aa,ae,ag,af,ao,aw,ax,aB,aH,aI,aJ,r3=>Z2 k (Dc k n) bb aK aa ae ag af ao aw ax aB aH aI aJ r3
def Z3 (k:Nat)(aR:List zI)(bm:EQ)(bg:AC)(bd:EQ)(a1:List zB)(a2:Int):Option (Int×Int×Int×Int×Int×Int×Int×(List zI)×EQ×AC×EQ×Bool):=
 (Lt k a1 a2).bind fun x0=>
 (Dc k k (x0.length:Int) 0 aR bm bg bd 0 0 0 0 0 0 0 x0).bind fun z=>
 match z with
 |.inl z1=>some (0,0,0,0,0,0,0,(vT z1 false))
 |.inr z2=>some (yNi z2 z2.1)
abbrev L3:Type:=(List zB)×(List zI)×EQ×AC×EQ×(List zB)
abbrev L1:Type:=Int→List zB→List zI→EQ→AC→EQ→List zB→Option L3
def Z9 (k:Nat)(rec:L1)(s2:Int)(s7:List zB)(aa:List zI)(ae:EQ)(ag:AC)(af:EQ)(r1:List zB):Option L3:=
 (Z3 k aa ae ag af s7 s2).bind fun x0=>
 bif !x0.2.2.2.2.2.2.2.2.2.2.2 then some (s7,aa,ae,ag,af,r1)
 else(mY k s7 x0.1).bind fun x1=>
 bif qT (r1.length + 1) 56 then (let y0:List zB:=(r1++[(jF x0)])
  rec s2 x1.1 x0.2.2.2.2.2.2.2.1 x0.2.2.2.2.2.2.2.2.1 x0.2.2.2.2.2.2.2.2.2.1 x0.2.2.2.2.2.2.2.2.2.2.1 y0)
 else none
def Dd (k:Nat):Nat→L1
 |0,_,_,_,_,_,_,_=>none
 |n+1,s2,s7,aa,ae,ag,af,r1=>Z9 k (Dd k n) s2 s7 aa ae ag af r1
def qF2 (k:Nat)(aR:List zI)(bm:EQ)(bg:AC)(bd:EQ)(a1:List zB)(a2:Int):Option ym:=
 (Dd k k a2 a1 aR bm bg bd []).bind fun z=>
 some (gA z (z.1,z.2.2.2.2.2))
abbrev L6:Type:=(Int×Int×(List zI)×EQ×AC×EQ×Int×Int×Int×Int×Int×Int×Int×Int×Int×Int×Int×Int×Int×Int×(List zB))⊕K9q
abbrev L4:Type:=Int→Int→Int→Int→List zI→EQ→AC→EQ→Int→Int→Int→Int→Int→Int→Int→Int→Int→Int→Int→Int→Int→Int→List zB→Int→Int→Int→Int→Int→Int→Int→Option L6
def qMz (k:Nat)(rec:L4)(cH bV dw aE:Int)(aa:List zI)(ae:EQ)(ag:AC)(af:EQ)(ao aw ax aB aH aI aJ bE bF aX aD bz bA bB:Int)(r2:List zB)(bx bP bT cR cS cT cU:Int):Option L6:=
 bif decide (aE < dw) then (bif zC aE r2.length then (bif !(decide ((r2.getD aE.toNat (0,0,0,0,0,0,0)).2.1=bT)) then(rec cH bV dw (zA (aE+1)) aa ae ag af ao aw ax aB aH aI aJ bE bF aX aD bz bA bB r2 bx bP bT cR cS cT cU)
   else bif !(decide ((r2.getD aE.toNat (0,0,0,0,0,0,0)).2.2.1=bP)) then(rec cH bV dw (zA (aE+1)) aa ae ag af ao aw ax aB aH aI aJ bE bF aX aD bz bA bB r2 bx bP bT cR cS cT cU)
   else bif decide (bP≥(r2.getD aE.toNat (0,0,0,0,0,0,0)).2.1) then(rec cH bV dw (zA (aE+1)) aa ae ag af ao aw ax aB aH aI aJ bE bF aX aD bz bA bB r2 bx bP bT cR cS cT cU)
   else(LQ k aa ae ag af [(bx,bP,bT,cR,cS,cT,cU),(r2.getD aE.toNat (0,0,0,0,0,0,0))]).bind fun x1=>
   bif !x1 then(rec cH bV dw (zA (aE+1)) aa ae ag af ao aw ax aB aH aI aJ bE bF aX aD bz bA bB r2 bx bP bT cR cS cT cU)
   else(mo k aa ae ag af [(bx,bP,bT,cR,cS,cT,cU),(r2.getD aE.toNat (0,0,0,0,0,0,0))]).bind fun x2=>
   bif decide (x2.2.2.2.2=0) then some (.inr (true,bx,bP,bT,cR,cS,cT,cU,(gy (r2.getD aE.toNat (0,0,0,0,0,0,0)) (tA x2))))
   else rec cH bV dw (zA (aE+1)) aa ae ag af ao aw ax aB aH aI aJ bE bF aX aD bz bA bB r2 bx bP bT cR cS cT cU)
  else none)
 else some (.inl (cH,bV,aa,ae,ag,af,ao,aw,ax,aB,aH,aI,aJ,bE,bF,aX,aD,bz,bA,bB,r2))
def Df (k:Nat):Nat→L4
 |0,_,_,_,_,_,_,_,_,_,_,_,_,_,_,_,_,_,_,_,_,_,_,_,_,_,_,_,_,_,_=>none
 |n+1,cH,bV,dw,aE,aa,ae,ag,af,ao,aw,ax,aB,aH,aI,aJ,bE,bF,aX,aD,bz,bA,bB,r2,bx,bP,bT,cR,cS,cT,cU=>qMz k (Df k n) cH bV dw aE aa ae ag af ao aw ax aB aH aI aJ bE bF aX aD bz bA bB r2 bx bP bT cR cS cT cU
abbrev Ma:Type:=(Int×Int×Int×Int×Int×Int×Int×Int×Int×Int×Int×Int×Int×Int)⊕K9q
abbrev L8:Type:=Int→Int→List zI→EQ→AC→EQ→Int→Int→Int→Int→Int→Int→Int→Int→Int→Int→Int→Int→Int→Int→List zB→Option Ma
def qV7 (k:Nat)(rec:L8)(cH bV:Int)(aa:List zI)(ae:EQ)(ag:AC)(af:EQ)(ao aw ax aB aH aI aJ bE bF aX aD bz bA bB:Int)(r2:List zB):Option Ma:=
 bif decide (bV < cH) then (bif zC bV r2.length then ((Df k k cH bV (r2.length:Int) 0 aa ae ag af ao aw ax aB aH aI aJ bE bF aX aD bz bA bB r2 (r2.getD bV.toNat (0,0,0,0,0,0,0)).1 (r2.getD bV.toNat (0,0,0,0,0,0,0)).2.1 (r2.getD bV.toNat (0,0,0,0,0,0,0)).2.2.1 (r2.getD bV.toNat (0,0,0,0,0,0,0)).2.2.2.1 (r2.getD bV.toNat (0,0,0,0,0,0,0)).2.2.2.2.1 (r2.getD bV.toNat (0,0,0,0,0,0,0)).2.2.2.2.2.1 (r2.getD bV.toNat (0,0,0,0,0,0,0)).2.2.2.2.2.2).bind fun z=>
   match z with
   |.inl z1=>rec z1.1 (zA (z1.2.1+1)) z1.2.2.1 z1.2.2.2.1 z1.2.2.2.2.1 z1.2.2.2.2.2.1 z1.2.2.2.2.2.2.1 z1.2.2.2.2.2.2.2.1 z1.2.2.2.2.2.2.2.2.1 z1.2.2.2.2.2.2.2.2.2.1 z1.2.2.2.2.2.2.2.2.2.2.1 z1.2.2.2.2.2.2.2.2.2.2.2.1 z1.2.2.2.2.2.2.2.2.2.2.2.2.1 z1.2.2.2.2.2.2.2.2.2.2.2.2.2.1 z1.2.2.2.2.2.2.2.2.2.2.2.2.2.2.1 z1.2.2.2.2.2.2.2.2.2.2.2.2.2.2.2.1 z1.2.2.2.2.2.2.2.2.2.2.2.2.2.2.2.2.1 z1.2.2.2.2.2.2.2.2.2.2.2.2.2.2.2.2.2.1 z1.2.2.2.2.2.2.2.2.2.2.2.2.2.2.2.2.2.2.1 z1.2.2.2.2.2.2.2.2.2.2.2.2.2.2.2.2.2.2.2.1 z1.2.2.2.2.2.2.2.2.2.2.2.2.2.2.2.2.2.2.2.2
   |.inr z2=>some (.inr (z2.1,z2.2.1,z2.2.2.1,z2.2.2.2.1,z2.2.2.2.2.1,z2.2.2.2.2.2.1,z2.2.2.2.2.2.2.1,z2.2.2.2.2.2.2.2.1,z2.2.2.2.2.2.2.2.2.1,z2.2.2.2.2.2.2.2.2.2.1,z2.2.2.2.2.2.2.2.2.2.2.1,z2.2.2.2.2.2.2.2.2.2.2.2.1,z2.2.2.2.2.2.2.2.2.2.2.2.2.1,z2.2.2.2.2.2.2.2.2.2.2.2.2.2.1,z2.2.2.2.2.2.2.2.2.2.2.2.2.2.2.1,z2.2.2.2.2.2.2.2.2.2.2.2.2.2.2.2.1,z2.2.2.2.2.2.2.2.2.2.2.2.2.2.2.2.2.1,z2.2.2.2.2.2.2.2.2.2.2.2.2.2.2.2.2.2.1,z2.2.2.2.2.2.2.2.2.2.2.2.2.2.2.2.2.2.2)))
  else none)
 else some (.inl (ao,aw,ax,aB,aH,aI,aJ,bE,bF,aX,aD,bz,bA,bB))
def Dg (k:Nat):Nat→L8
 |0,_,_,_,_,_,_,_,_,_,_,_,_,_,_,_,_,_,_,_,_,_=>none
 |n+1,cH,bV,aa,ae,ag,af,ao,aw,ax,aB,aH,aI,aJ,bE,bF,aX,aD,bz,bA,bB,r2=>qV7 k (Dg k n) cH bV aa ae ag af ao aw ax aB aH aI aJ bE bF aX aD bz bA bB r2
def qFz (k:Nat)(aR:List zI)(bm:EQ)(bg:AC)(bd:EQ)(a1:List zB)(a2:Int):Option (Int×Int×Int×Int×Int×Int×Int×Int×Int×Int×Int×Int×Int×Int×(List zI)×EQ×AC×EQ×Bool):=
 (Lt k a1 a2).bind fun x0=>
 (Dg k k (x0.length:Int) 0 aR bm bg bd 0 0 0 0 0 0 0 0 0 0 0 0 0 0 x0).bind fun z3=>
 match z3 with
 |.inl z4=>some (0,0,0,0,0,0,0,0,0,0,0,0,0,0,[],[],[],[],false)
 |.inr z5=>some (L7 z5 z5.1)
abbrev Mj:Type:=Int×(List zB)×(List zI)×EQ×AC×EQ×(List zB)
abbrev Mh:Type:=Int→List zB→Int→Int→List zI→EQ→AC→EQ→List zB→List zB→Option Mj
def qUz (k:Nat)(rec:Mh)(s2:Int)(s7:List zB)(pB j8:Int)(aa:List zI)(ae:EQ)(ag:AC)(af:EQ)(r1 r2:List zB):Option Mj:=
 bif decide (j8 < pB) then (bif zC j8 r2.length then ((mY k s7 (r2.getD j8.toNat (0,0,0,0,0,0,0)).1).bind fun x1=>
   bif qT (r1.length + 1) 56 then (let y0:List zB:=(r1++[(r2.getD j8.toNat (0,0,0,0,0,0,0))])
    rec s2 x1.1 pB (zA (j8+1)) aa ae ag af y0 r2)
   else none)
  else none)
 else some (s2,s7,aa,ae,ag,af,r1)
def Dh (k:Nat):Nat→Mh
 |0,_,_,_,_,_,_,_,_,_,_=>none
 |n+1,s2,s7,pB,j8,aa,ae,ag,af,r1,r2=>qUz k (Dh k n) s2 s7 pB j8 aa ae ag af r1 r2
def qKi (k:Nat)(rec:L1)(s2:Int)(s7:List zB)(aa:List zI)(ae:EQ)(ag:AC)(af:EQ)(r1:List zB):Option L3:=
 (qFz k aa ae ag af s7 s2).bind fun x0=>
 bif !x0.2.2.2.2.2.2.2.2.2.2.2.2.2.2.2.2.2.2 then some (s7,aa,ae,ag,af,r1)
 else(Dh k k s2 s7 2 0 x0.2.2.2.2.2.2.2.2.2.2.2.2.2.2.1 x0.2.2.2.2.2.2.2.2.2.2.2.2.2.2.2.1 x0.2.2.2.2.2.2.2.2.2.2.2.2.2.2.2.2.1 x0.2.2.2.2.2.2.2.2.2.2.2.2.2.2.2.2.2.1 r1 [(jF x0),(yC1 x0)]).bind fun z=>
 rec z.1 z.2.1 z.2.2.1 z.2.2.2.1 z.2.2.2.2.1 z.2.2.2.2.2.1 z.2.2.2.2.2.2
def Dl (k:Nat):Nat→L1
 |0,_,_,_,_,_,_,_=>none
 |n+1,s2,s7,aa,ae,ag,af,r1=>qKi k (Dl k n) s2 s7 aa ae ag af r1
def qNd (k:Nat)(aR:List zI)(bm:EQ)(bg:AC)(bd:EQ)(a1:List zB)(a2:Int):Option ym:=
 (Dl k k a2 a1 aR bm bg bd []).bind fun z1=>
 some (gA z1 (z1.1,z1.2.2.2.2.2))
def qJu (k:Nat)(rec:L1)(s2:Int)(s7:List zB)(aa:List zI)(ae:EQ)(ag:AC)(af:EQ)(r1:List zB):Option L3:=
 (qF2 k aa ae ag af s7 s2).bind fun x0=>
 (qNd k x0.1 x0.2.1 x0.2.2.1 x0.2.2.2.1 x0.2.2.2.2.1 s2).bind fun x1=>
 bif qT (r1.length + x0.2.2.2.2.2.length) 56 then (bif qT ((r1 ++ x0.2.2.2.2.2).length + x1.2.2.2.2.2.length) 56 then (let y0:List zB:=((r1++x0.2.2.2.2.2)++x1.2.2.2.2.2)
   bif decide ((x1.2.2.2.2.2.length:Int)=0) then some (x1.2.2.2.2.1,(vT x1 y0))
   else rec s2 x1.2.2.2.2.1 x1.1 x1.2.1 x1.2.2.1 x1.2.2.2.1 y0)
  else none)
 else none
def Dm (k:Nat):Nat→L1
 |0,_,_,_,_,_,_,_=>none
 |n+1,s2,s7,aa,ae,ag,af,r1=>qJu k (Dm k n) s2 s7 aa ae ag af r1
def Ms (k:Nat)(aR:List zI)(bm:EQ)(bg:AC)(bd:EQ)(a1:List zB)(a2:Int):Option ym:=
 (Dm k k a2 a1 aR bm bg bd []).bind fun z=>
 some (gA z (z.1,z.2.2.2.2.2))
def qZ8 (k:Nat)(a0:AC):Option AC:=
 bif qT (0+a0.length) 8 then some a0
 else none
def qQh (k:Nat)(dy bJ cm dI cO dz dh:Int)(a1:AC):Option (Bool×AC):=
 bif decide (bJ<0) then some (false,a1)
 else bif decide (bJ≥(a1.length:Int)) then some (false,a1)
 else bif zC bJ a1.length then (bif decide ((a1.getD bJ.toNat 0)<1) then some (false,a1)
  else bif zC bJ a1.length then (bif zC bJ a1.length then some (true,(a1.set bJ.toNat (zA ((a1.getD bJ.toNat 0)-1))))
   else none)
  else none)
 else none
abbrev Mv:Type:=AC×(List zB)
abbrev Mt:Type:=List zB→Int→Int→AC→List zB→Option Mv
def qP0 (k:Nat)(rec:Mt)(s8:List zB)(s9 ak:Int)(r1:AC)(r2:List zB):Option Mv:=
 bif decide (ak < s9) then (bif zC ak s8.length then ((qQh k (s8.getD ak.toNat (0,0,0,0,0,0,0)).1 (s8.getD ak.toNat (0,0,0,0,0,0,0)).2.1 (s8.getD ak.toNat (0,0,0,0,0,0,0)).2.2.1 (s8.getD ak.toNat (0,0,0,0,0,0,0)).2.2.2.1 (s8.getD ak.toNat (0,0,0,0,0,0,0)).2.2.2.2.1 (s8.getD ak.toNat (0,0,0,0,0,0,0)).2.2.2.2.2.1 (s8.getD ak.toNat (0,0,0,0,0,0,0)).2.2.2.2.2.2 r1).bind fun x0=>
   bif x0.1 then (bif qT (r2.length + 1) 56 then (let y0:List zB:=(r2++[(s8.getD ak.toNat (0,0,0,0,0,0,0))])
     rec s8 s9 (zA (ak+1)) x0.2 y0)
    else none)
   else rec s8 s9 (zA (ak+1)) x0.2 r2)
  else none)
 else some (r1,r2)
def Dn (k:Nat):Nat→Mt
 |0,_,_,_,_,_=>none
 |n+1,s8,s9,ak,r1,r2=>qP0 k (Dn k n) s8 s9 ak r1 r2
def qXh (k:Nat)(a0:List zB)(bO:AC):Option ((List zB)×AC):=
 (Dn k k a0 (a0.length:Int) 0 bO []).bind fun z=>
 some (z.2,z.1)
def Mw (k:Nat)(a0:List zB)(a1:AC):Option (List zB):=
 (qZ8 k a1).bind fun x0=>
 (qXh k a0 x0).bind fun x1=>
 some x1.1
abbrev My:Type:=Int×(List zI)×EQ×AC×EQ×AC×(List zB)
abbrev Mx:Type:=Int→Int→Int→List zI→EQ→AC→EQ→AC→List zB→Option My
def qJa (k:Nat)(rec:Mx)(s7 dv cH:Int)(aa:List zI)(ae:EQ)(ag:AC)(af:EQ)(r1:AC)(r2:List zB):Option My:=
 bif decide (cH < dv) then ((Kx k r2 cH).bind fun x1=>
  bif qT (r1.length+1) 8 then(rec s7 dv (zA (cH+1)) aa ae ag af (r1++[(x1.length:Int)]) r2)
  else none)
 else some (s7,aa,ae,ag,af,r1,r2)
def Dq (k:Nat):Nat→Mx
 |0,_,_,_,_,_,_,_,_,_=>none
 |n+1,s7,dv,cH,aa,ae,ag,af,r1,r2=>qJa k (Dq k n) s7 dv cH aa ae ag af r1 r2
abbrev Mz:Type:=Int→Int→Int→List zI→EQ→AC→EQ→AC→List zB→AC→Option My
def qJk (k:Nat)(rec:Mz)(s7 DN fM:Int)(aa:List zI)(ae:EQ)(ag:AC)(af:EQ)(r1:AC)(r2:List zB)(r3:AC):Option My:=
 bif decide (fM < DN) then (bif zC fM r3.length then (bif zC (r3.getD fM.toNat 0) r1.length then (bif zC (r3.getD fM.toNat 0) r1.length then (let y0:AC:=(r1.set (r3.getD fM.toNat 0).toNat (zA ((r1.getD (r3.getD fM.toNat 0).toNat 0)-1)))
     rec s7 DN (zA (fM+1)) aa ae ag af y0 r2 r3)
    else none)
   else none)
  else none)
 else some (s7,aa,ae,ag,af,r1,r2)
def Dr (k:Nat):Nat→Mz
 |0,_,_,_,_,_,_,_,_,_,_=>none
 |n+1,s7,DN,fM,aa,ae,ag,af,r1,r2,r3=>qJk k (Dr k n) s7 DN fM aa ae ag af r1 r2 r3
abbrev MC:Type:=Int→List zI→EQ→AC→EQ→AC→List zB→Option (Int×AC)
def qZf (k:Nat)(rec:MC)(s7:Int)(aa:List zI)(ae:EQ)(ag:AC)(af:EQ)(r1:AC)(r2:List zB):Option (Int×AC):=
 (Mw k r2 r1).bind fun x2=>
 (LP k aa ae ag af x2).bind fun x3=>
 bif decide ((x3.length:Int)=0) then some ((zA (s7+1)),r1)
 else(Dr k k (zA (s7+1)) (x3.length:Int) 0 aa ae ag af r1 r2 x3).bind fun z1=>
 rec z1.1 z1.2.1 z1.2.2.1 z1.2.2.2.1 z1.2.2.2.2.1 z1.2.2.2.2.2.1 z1.2.2.2.2.2.2
def Dt (k:Nat):Nat→MC
 |0,_,_,_,_,_,_,_=>none
 |n+1,s7,aa,ae,ag,af,r1,r2=>qZf k (Dt k n) s7 aa ae ag af r1 r2
def qRc (k:Nat)(aR:List zI)(bm:EQ)(bg:AC)(bd:EQ)(a1:List zB)(a2:Int):Option (AC×Int):=
 (CV k a1 a2).bind fun x0=>
 (Dq k k 0 (aR.length:Int) 0 aR bm bg bd [] x0).bind fun z=>
 (Dt k k z.1 z.2.1 z.2.2.1 z.2.2.2.1 z.2.2.2.2.1 z.2.2.2.2.2.1 z.2.2.2.2.2.2).bind fun z2=>
 some (z2.2,z2.1)
abbrev MD:Type:=List zB→Int→Int→List zI→EQ→AC→EQ→List zB→Option L3
def qOj (k:Nat)(rec:MD)(s7:List zB)(j9 di:Int)(aa:List zI)(ae:EQ)(ag:AC)(af:EQ)(r1:List zB):Option L3:=
 bif decide (di < j9) then (bif zC di r1.length then ((mY k s7 (r1.getD di.toNat (0,0,0,0,0,0,0)).1).bind fun x4=>
   rec x4.1 j9 (zA (di+1)) aa ae ag af r1)
  else none)
 else some (s7,aa,ae,ag,af,r1)
def Dv (k:Nat):Nat→MD
 |0,_,_,_,_,_,_,_,_=>none
 |n+1,s7,j9,di,aa,ae,ag,af,r1=>qOj k (Dv k n) s7 j9 di aa ae ag af r1
def qGe (k:Nat)(aR:List zI)(bm:EQ)(bg:AC)(bd:EQ)(a1:List zB)(a2:Int):Option ym:=
 (qRc k aR bm bg bd a1 a2).bind fun x0=>
 (CV k a1 a2).bind fun x1=>
 (Mw k x1 x0.1).bind fun x2=>
 (mo k aR bm bg bd x2).bind fun x3=>
 bif !(decide (x3.2.2.2.2=0)) then some (aR,bm,bg,bd,a1,[])
 else(Dv k k a1 (x2.length:Int) 0 x3.1 x3.2.1 x3.2.2.1 x3.2.2.2.1 x2).bind fun z=>
 some (gA z (z.1,z.2.2.2.2.2))
def qMr (k:Nat)(aR:List zI)(bm:EQ)(bg:AC)(bd:EQ)(a1:List zB)(a2:Int)(a3:Bool):Option ym:=
 (Ms k aR bm bg bd a1 a2).bind fun x0=>
 bif !a3 then some (x0.1,x0.2.1,x0.2.2.1,x0.2.2.2.1,x0.2.2.2.2.1,x0.2.2.2.2.2)
 else(qGe k x0.1 x0.2.1 x0.2.2.1 x0.2.2.2.1 x0.2.2.2.2.1 a2).bind fun x1=>
 bif decide ((x1.2.2.2.2.2.length:Int)=0) then some (yl x1 x0.2.2.2.2.2)
 else(Ms k x1.1 x1.2.1 x1.2.2.1 x1.2.2.2.1 x1.2.2.2.2.1 a2).bind fun x2=>
 bif qT (x0.2.2.2.2.2.length + x1.2.2.2.2.2.length) 56 then (bif qT ((x0.2.2.2.2.2 ++ x1.2.2.2.2.2).length + x2.2.2.2.2.2.length) 56 then (let y0:List zB:=((x0.2.2.2.2.2++x1.2.2.2.2.2)++x2.2.2.2.2.2)
   some (yl x2 y0))
  else none)
 else none
abbrev MI:Type:=(List zB)×Int×Int×(List yP)
abbrev MG:Type:=List zB→Int→Int→Int→Int→List yP→Int→Int→Int→Int→Int→Int→Int→AC→Option MI
def qJl (k:Nat)(rec:MG)(s8:List zB)(s9 ak cH bV:Int)(r0:List yP)(ao aw ax aB aH aI aJ:Int)(r2:AC):Option MI:=
 bif decide (bV < cH) then (bif zC bV r2.length then ((ye k (r2.getD bV.toNat 0) 18 [ao,aw,ax,aB]).bind fun x0=>
   bif qT (r0.length+1) 64 then(rec s8 s9 ak cH (zA (bV+1)) (r0++[x0]) ao aw ax aB aH aI aJ r2)
   else none)
  else none)
 else some (s8,s9,ak,r0)
def Dw (k:Nat):Nat→MG
 |0,_,_,_,_,_,_,_,_,_,_,_,_,_,_=>none
 |n+1,s8,s9,ak,cH,bV,r0,ao,aw,ax,aB,aH,aI,aJ,r2=>qJl k (Dw k n) s8 s9 ak cH bV r0 ao aw ax aB aH aI aJ r2
abbrev ML:Type:=List yP
abbrev MJ:Type:=List zB→Int→Int→List yP→Option ML
def qTc (k:Nat)(rec:MJ)(s8:List zB)(s9 ak:Int)(r0:List yP):Option ML:=
 bif decide (ak < s9) then (bif zC ak s8.length then ((Dw k k s8 s9 ak 2 0 r0 (s8.getD ak.toNat (0,0,0,0,0,0,0)).1 (s8.getD ak.toNat (0,0,0,0,0,0,0)).2.1 (s8.getD ak.toNat (0,0,0,0,0,0,0)).2.2.1 (s8.getD ak.toNat (0,0,0,0,0,0,0)).2.2.2.1 (s8.getD ak.toNat (0,0,0,0,0,0,0)).2.2.2.2.1 (s8.getD ak.toNat (0,0,0,0,0,0,0)).2.2.2.2.2.1 (s8.getD ak.toNat (0,0,0,0,0,0,0)).2.2.2.2.2.2 [(s8.getD ak.toNat (0,0,0,0,0,0,0)).2.1,(s8.getD ak.toNat (0,0,0,0,0,0,0)).2.2.1]).bind fun z=>
   rec z.1 z.2.1 (zA (z.2.2.1+1)) z.2.2.2)
  else none)
 else some r0
def Dx (k:Nat):Nat→MJ
 |0,_,_,_,_=>none
 |n+1,s8,s9,ak,r0=>qTc k (Dx k n) s8 s9 ak r0
def qUc (k:Nat)(a0:List zB):Option (List yP):=
 (Dx k k a0 (a0.length:Int) 0 []).bind fun z1=>
 some z1
def Dz (k:Nat)(DM:Int)(Nh:List zI)(Ni:EQ)(Nj:AC)(Nk:EQ)(Nl:AC)(Nm:EQ)(yn:List zB)(Nn:AC)(No:Int)(Np a1:Bool):Option MZ:=
 (qMr k Nh Ni Nj Nk yn DM a1).bind fun x0=>
 (qUc k x0.2.2.2.2.2).bind fun x1=>
 some (DM,(vT x0 (Nl,Nm,x0.2.2.2.2.1,Nn,No,Np,x1)))
abbrev MQ:Type:=Int×(List vA)×Int×Int×Int×Int×(List zI)×EQ×AC×EQ×AC×EQ×(List zB)×AC×Int×Bool×Int×Int×Bool×(List yP)×(List zB)
abbrev MO:Type:=List zB→Int→Int→Int→List vA→Int→Int→Int→Int→List zI→EQ→AC→EQ→AC→EQ→List zB→AC→Int→Bool→Int→Int→Bool→List yP→List zB→Option MQ
def qP1 (k:Nat)(rec:MO)(cF:List zB)(dU cG aa:Int)(ae:List vA)(ag af aN ao:Int)(aw:List zI)(ax:EQ)(aB:AC)(aH:EQ)(aI:AC)(aJ:EQ)(bE:List zB)(bF:AC)(aX:Int)(aD:Bool)(bp iC:Int)(dK:Bool)(r3:List yP)(r4:List zB):Option MQ:=
 bif decide (cG < dU) then (bif zC cG cF.length then ((Yl k (cF.getD cG.toNat (0,0,0,0,0,0,0)).1 (cF.getD cG.toNat (0,0,0,0,0,0,0)).2.1 (cF.getD cG.toNat (0,0,0,0,0,0,0)).2.2.1 (cF.getD cG.toNat (0,0,0,0,0,0,0)).2.2.2.1 (cF.getD cG.toNat (0,0,0,0,0,0,0)).2.2.2.2.1 (cF.getD cG.toNat (0,0,0,0,0,0,0)).2.2.2.2.2.1 (cF.getD cG.toNat (0,0,0,0,0,0,0)).2.2.2.2.2.2 ao).bind fun x2=>
   bif x2 then ((ye k (cF.getD cG.toNat (0,0,0,0,0,0,0)).2.1 21 [(cF.getD cG.toNat (0,0,0,0,0,0,0)).1]).bind fun x3=>
    bif qT (r3.length+1) 64 then(rec cF dU (zA (cG+1)) aa ae ag af aN ao aw ax aB aH aI aJ bE bF aX aD bp iC dK (r3++[x3]) r4)
    else none)
   else bif qT (r4.length + 1) 56 then (let y0:List zB:=(r4++[(cF.getD cG.toNat (0,0,0,0,0,0,0))])
    rec cF dU (zA (cG+1)) aa ae ag af aN ao aw ax aB aH aI aJ bE bF aX aD bp iC dK r3 y0)
   else none)
  else none)
 else some (aa,ae,ag,af,aN,ao,aw,ax,aB,aH,aI,aJ,bE,bF,aX,aD,bp,iC,dK,r3,r4)
def DA (k:Nat):Nat→MO
 |0,_,_,_,_,_,_,_,_,_,_,_,_,_,_,_,_,_,_,_,_,_,_,_,_=>none
 |n+1,cF,dU,cG,aa,ae,ag,af,aN,ao,aw,ax,aB,aH,aI,aJ,bE,bF,aX,aD,bp,iC,dK,r3,r4=>qP1 k (DA k n) cF dU cG aa ae ag af aN ao aw ax aB aH aI aJ bE bF aX aD bp iC dK r3 r4
def MR (k:Nat)(DH:Int)(DI:List vA)(DJ tH tI DO:Int)(NH:List zI)(NI:EQ)(NJ:AC)(NK:EQ)(NL:AC)(NM:EQ)(yo:List zB)(NN:AC)(NO:Int)(DP:Bool):Option MZ:=
 bif DP then some (DO,NH,NI,NJ,NK,NL,NM,yo,NN,NO,DP,[])
 else(xQ k DH DI DJ tH tI (zA (DO+1))).bind fun x0=>
 bif x0 then ((Yj k (zA (DO+1)) NH NI NJ NK NL NM yo NN NO DP).bind fun x1=>
  some (x1.1,x1.2.1,x1.2.2.1,x1.2.2.2.1,x1.2.2.2.2.1,x1.2.2.2.2.2.1,x1.2.2.2.2.2.2.1,x1.2.2.2.2.2.2.2.1,x1.2.2.2.2.2.2.2.2.1,x1.2.2.2.2.2.2.2.2.2.1,x1.2.2.2.2.2.2.2.2.2.2.1,x1.2.2.2.2.2.2.2.2.2.2.2))
 else(DA k k yo (yo.length:Int) 0 DH DI DJ tH tI (zA (DO+1)) NH NI NJ NK NL NM yo NN NO DP 0 0 false [] []).bind fun z=>
 (Yn k z.1 z.2.1 z.2.2.1 z.2.2.2.1 z.2.2.2.2.1 z.2.2.2.2.2.1).bind fun x4=>
 (Dz k z.2.2.2.2.2.1 z.2.2.2.2.2.2.1 z.2.2.2.2.2.2.2.1 z.2.2.2.2.2.2.2.2.1 z.2.2.2.2.2.2.2.2.2.1 z.2.2.2.2.2.2.2.2.2.2.1 z.2.2.2.2.2.2.2.2.2.2.2.1 z.2.2.2.2.2.2.2.2.2.2.2.2.2.2.2.2.2.2.2.2 z.2.2.2.2.2.2.2.2.2.2.2.2.2.1 z.2.2.2.2.2.2.2.2.2.2.2.2.2.2.1 z.2.2.2.2.2.2.2.2.2.2.2.2.2.2.2.1 x4).bind fun x5=>
 bif qT (z.2.2.2.2.2.2.2.2.2.2.2.2.2.2.2.2.2.2.2.1.length + x5.2.2.2.2.2.2.2.2.2.2.2.length) 64 then (let y1:List yP:=(z.2.2.2.2.2.2.2.2.2.2.2.2.2.2.2.2.2.2.2.1++x5.2.2.2.2.2.2.2.2.2.2.2)
  some (m1 x5 y1))
 else none
def qO2 (k:Nat)(a0:jT)(a1:(Int×Int×Int×Int×Int×Int)):Option (Int×vE):=
 (yU k a1.2.1 0 (zA (a0.1-1))).bind fun x0=>
 bif !x0 then some (1,(yB a0 []))
 else(yU k a1.2.2.2.1 1 3).bind fun x1=>
 bif !x1 then some (1,(yB a0 []))
 else(KC k (yE a0) a0.2.2.2.2.2.1 (a1.1,a0.2.2.2.2.2.2.2.2.2.2.2.2.2.2.2.2,a1.2)).bind fun x2=>
 bif !(decide (x2=0)) then some (x2,(yB a0 []))
 else(KI k a0.2.2.2.2.2.2.2.2.2.2.2.2.2.1 a1.1).bind fun x3=>
 bif !(decide (x3.2=0)) then some (x3.2,(yB a0 []))
 else(ya k a0.2.2.2.2.2.2.2.2.2.2.2.2.1 (a1.1,a0.2.2.2.2.2.2.2.2.2.2.2.2.2.2.2.2,a1.2)).bind fun x4=>
 bif !(decide (x4.2=0)) then some (x4.2,(yB a0 []))
 else some (0,(iB a0 (x4.1,x3.1,a0.2.2.2.2.2.2.2.2.2.2.2.2.2.2.1,a0.2.2.2.2.2.2.2.2.2.2.2.2.2.2.2.1,a0.2.2.2.2.2.2.2.2.2.2.2.2.2.2.2.2,[])))
def DB (k:Nat)(a0:jT)(a1:zB):Option (Int×vE):=
 (KP k (yB a0 []) a1.2.1).bind fun x0=>
 bif !(decide (x0.2=0)) then some (x0.2,(yB a0 []))
 else bif decide (a1.1 = 2) then ((mY k a0.2.2.2.2.2.2.2.2.2.2.2.2.1 a1.2.1).bind fun x1=>
  (Kz k (iB a0 (x1.1,a0.2.2.2.2.2.2.2.2.2.2.2.2.2)) 20 [a1.2.1]).bind fun x2=>
  some (x1.2.2.2.2.2.2.2.2,x2))
 else bif decide (a1.1 = 4) then ((yU k a1.2.2.1 1 3).bind fun x3=>
  bif !x3 then some (1,(yB a0 []))
  else(CG k (yE a0) a0.2.2.2.2.2.1 a1.2.2.1).bind fun x4=>
  bif !(decide (x4=0)) then some (x4,(yB a0 []))
  else(KT k a0.2.2.2.2.2.2.2.2.2.2.2.2.1 a1.2.1 a1.2.2.1).bind fun x5=>
  some (x5.2,(iB a0 (x5.1,(M3 a0 [])))))
 else bif decide (a1.2.2.1 = 0) then ((KY k a0.2.2.2.2.2.2.2.2.2.2.2.2.1 a1.2.1).bind fun x6=>
  some (x6.2,(iB a0 (x6.1,(M3 a0 [])))))
 else bif decide (a1.2.2.1 = 1) then ((KZ k a0.2.2.2.2.2.2.2.2.2.2.2.2.1 a1.2.1).bind fun x7=>
  some (x7.2,(iB a0 (x7.1,(M3 a0 [])))))
 else some (1,(yB a0 []))
def DC (k:Nat)(a0:jT)(a1:zB):Option (Int×vE):=
 (jS k a0.2.2.2.2.2.2.1 a0.2.2.2.2.2.2.2.1 a0.2.2.2.2.2.2.2.2.1 a0.2.2.2.2.2.2.2.2.2.1).bind fun x0=>
 bif decide (a1.1 = 5) then ((K2 k (yB a0 []) a1.2.1).bind fun x1=>
  bif !x1 then some (1,(yB a0 []))
  else(yU k a1.2.2.1 (-1) 1152921504606846976).bind fun x2=>
  bif !x2 then some (1,(yB a0 []))
  else bif zC a0.2.2.2.2.2.2.2.2.2.2.2.2.2.2.2.2 x0.2.1.length then (bif zC a1.2.1 (x0.2.1.getD a0.2.2.2.2.2.2.2.2.2.2.2.2.2.2.2.2.toNat []).length then (let y0:EQ:=(x0.2.1.set a0.2.2.2.2.2.2.2.2.2.2.2.2.2.2.2.2.toNat ((x0.2.1.getD a0.2.2.2.2.2.2.2.2.2.2.2.2.2.2.2.2.toNat []).set a1.2.1.toNat a1.2.2.1))
    some (0,(jL a0 (x0.1,y0,x0.2.2.1,x0.2.2.2,(M4 a0 [])))))
   else none)
  else none)
 else bif decide (a1.1 = 6) then ((yU k a1.2.1 (-1) 1152921504606846976).bind fun x3=>
  bif !x3 then some (1,(yB a0 []))
  else bif zC a0.2.2.2.2.2.2.2.2.2.2.2.2.2.2.2.2 x0.2.2.1.length then (let y1:AC:=(x0.2.2.1.set a0.2.2.2.2.2.2.2.2.2.2.2.2.2.2.2.2.toNat a1.2.1)
   some (0,(jL a0 (x0.1,x0.2.1,y1,x0.2.2.2,(M4 a0 [])))))
  else none)
 else(yU k a1.2.1 0 1152921504606846976).bind fun x4=>
 bif !x4 then some (1,(yB a0 []))
 else bif zC a0.2.2.2.2.2.2.2.2.2.2.2.2.2.2.2.2 x0.1.length then (let y2:List zI:=(x0.1.set a0.2.2.2.2.2.2.2.2.2.2.2.2.2.2.2.2.toNat ((x0.1.getD a0.2.2.2.2.2.2.2.2.2.2.2.2.2.2.2.2.toNat (0,0,0)).1,(x0.1.getD a0.2.2.2.2.2.2.2.2.2.2.2.2.2.2.2.2.toNat (0,0,0)).2.1,a1.2.1))
  some (0,(jL a0 (y2,x0.2.1,x0.2.2.1,x0.2.2.2,(M4 a0 [])))))
 else none
def qSp (k:Nat)(a0:jT)(a1 a2:Int):Option (Int×vE):=
 (yc k (yB a0 []) a1).bind fun x0=>
 bif !x0 then some (1,(yB a0 []))
 else(yU k a2 0 1099511627776).bind fun x1=>
 bif !x1 then some (1,(yB a0 []))
 else(K3 k a0.2.2.2.2.2.2.2.2.2.2.2.1).bind fun x2=>
 bif zC a0.2.2.2.2.2.2.2.2.2.2.2.2.2.2.2.2 x2.length then ((yd k (x2.getD a0.2.2.2.2.2.2.2.2.2.2.2.2.2.2.2.2.toNat []) a1 a2).bind fun x3=>
  bif zC a0.2.2.2.2.2.2.2.2.2.2.2.2.2.2.2.2 x2.length then (let y0:EQ:=(x2.set a0.2.2.2.2.2.2.2.2.2.2.2.2.2.2.2.2.toNat x3)
   bif zC a0.2.2.2.2.2.2.2.2.2.2.2.2.2.2.2.2 y0.length then ((gp k a0.2.1 a0.2.2.2.2.2.2.2.2.2.2.1 (y0.getD a0.2.2.2.2.2.2.2.2.2.2.2.2.2.2.2.2.toNat [])).bind fun x4=>
    bif zC a0.2.2.2.2.2.2.2.2.2.2.2.2.2.2.2.2 a0.2.2.2.2.2.2.1.length then (bif !x4.2 then some (8,(yB a0 []))
     else bif decide (x4.1>1152921504606846976) then some (8,(yB a0 []))
     else bif decide (x4.1 < (a0.2.2.2.2.2.2.1.getD a0.2.2.2.2.2.2.2.2.2.2.2.2.2.2.2.2.toNat (0, 0, 0)).2.1) then (bif decide ((zA ((a0.2.2.2.2.2.2.1.getD a0.2.2.2.2.2.2.2.2.2.2.2.2.2.2.2.2.toNat (0,0,0)).1+x4.1))<0) then some (9,(yB a0 []))
      else(jS k a0.2.2.2.2.2.2.1 a0.2.2.2.2.2.2.2.1 a0.2.2.2.2.2.2.2.2.1 a0.2.2.2.2.2.2.2.2.2.1).bind fun x5=>
      bif zC a0.2.2.2.2.2.2.2.2.2.2.2.2.2.2.2.2 x5.1.length then (let y1:List zI:=(x5.1.set a0.2.2.2.2.2.2.2.2.2.2.2.2.2.2.2.2.toNat ((x5.1.getD a0.2.2.2.2.2.2.2.2.2.2.2.2.2.2.2.2.toNat (0,0,0)).1,x4.1,(x5.1.getD a0.2.2.2.2.2.2.2.2.2.2.2.2.2.2.2.2.toNat (0,0,0)).2.2))
       some (0,(jL a0 (y1,x5.2.1,x5.2.2.1,x5.2.2.2,a0.2.2.2.2.2.2.2.2.2.2.1,y0,(qU9 a0 [])))))
      else none)
     else(jS k a0.2.2.2.2.2.2.1 a0.2.2.2.2.2.2.2.1 a0.2.2.2.2.2.2.2.2.1 a0.2.2.2.2.2.2.2.2.2.1).bind fun x6=>
     bif zC a0.2.2.2.2.2.2.2.2.2.2.2.2.2.2.2.2 x6.1.length then (let y2:List zI:=(x6.1.set a0.2.2.2.2.2.2.2.2.2.2.2.2.2.2.2.2.toNat ((x6.1.getD a0.2.2.2.2.2.2.2.2.2.2.2.2.2.2.2.2.toNat (0,0,0)).1,x4.1,(x6.1.getD a0.2.2.2.2.2.2.2.2.2.2.2.2.2.2.2.2.toNat (0,0,0)).2.2))
      some (0,(jL a0 (y2,x6.2.1,x6.2.2.1,x6.2.2.2,a0.2.2.2.2.2.2.2.2.2.2.1,y0,(qU9 a0 [])))))
     else none)
    else none)
   else none)
  else none)
 else none
def MS (k:Nat)(a0:jT)(a1 a2 a3:Int):Option (Int×vE):=
 (yU k a2 0 (zA (a0.1-1))).bind fun x0=>
 bif !x0 then some (1,(yB a0 []))
 else(yU k a3 1 1099511627776).bind fun x1=>
 bif !x1 then some (1,(yB a0 []))
 else bif zC a2 a0.2.2.2.2.2.2.1.length then ((K5 k (a0.2.2.2.2.2.2.1.getD a2.toNat (0,0,0)) a3).bind fun x2=>
  bif decide (a1 = 11) then ((K6 k (a0.2.2.2.2.2.2.1.getD a2.toNat (0,0,0)) a3 3).bind fun x3=>
   (K7 k (a0.2.2.2.2.2.2.1.getD a2.toNat (0,0,0)) 3).bind fun x4=>
   bif decide (x4<a3) then some (9,(yB a0 []))
   else bif decide ((zA (a0.2.2.2.2.2.2.2.2.2.2.2.2.2.2.1-a3))<0) then some (9,(yB a0 []))
   else bif !(decide (x3.2=0)) then some (x3.2,(yB a0 []))
   else bif decide ((zA (a0.2.2.2.2.2.2.2.2.2.2.2.2.2.2.1-a3))>1152921504606846976) then some (8,(yB a0 []))
   else(jS k a0.2.2.2.2.2.2.1 a0.2.2.2.2.2.2.2.1 a0.2.2.2.2.2.2.2.2.1 a0.2.2.2.2.2.2.2.2.2.1).bind fun x5=>
   bif zC a2 x5.1.length then some (0,(jL a0 ((x5.1.set a2.toNat x3.1),x5.2.1,x5.2.2.1,x5.2.2.2,(DD a0 ((zA (a0.2.2.2.2.2.2.2.2.2.2.2.2.2.2.1-a3)),a0.2.2.2.2.2.2.2.2.2.2.2.2.2.2.2.1,a0.2.2.2.2.2.2.2.2.2.2.2.2.2.2.2.2,[])))))
   else none)
  else bif !(decide (x2.2=0)) then some (x2.2,(yB a0 []))
  else bif decide ((zA (a0.2.2.2.2.2.2.2.2.2.2.2.2.2.2.1+a3))>1152921504606846976) then some (8,(yB a0 []))
  else(jS k a0.2.2.2.2.2.2.1 a0.2.2.2.2.2.2.2.1 a0.2.2.2.2.2.2.2.2.1 a0.2.2.2.2.2.2.2.2.2.1).bind fun x6=>
  bif zC a2 x6.1.length then some (0,(jL a0 ((x6.1.set a2.toNat x2.1),x6.2.1,x6.2.2.1,x6.2.2.2,(DD a0 ((zA (a0.2.2.2.2.2.2.2.2.2.2.2.2.2.2.1+a3)),a0.2.2.2.2.2.2.2.2.2.2.2.2.2.2.2.1,a0.2.2.2.2.2.2.2.2.2.2.2.2.2.2.2.2,[])))))
  else none)
 else none
abbrev MW:Type:=(jT×AC×(List zI)×EQ×AC×EQ)⊕(Int×jT)
abbrev MU:Type:=EQ→Int→Int→jT→AC→List zI→EQ→AC→EQ→Option MW
def qLc (k:Nat)(rec:MU)(di:EQ)(gD dJ:Int)(b0:jT)(r1:AC)(r3:List zI)(m4:EQ)(r5:AC)(m6:EQ):Option MW:=
 bif decide (dJ < gD) then (bif zC dJ di.length then ((gp k b0.2.1 r1 (di.getD dJ.toNat [])).bind fun x4=>
   bif !x4.2 then some (.inr (8,b0))
   else bif decide (x4.1>1152921504606846976) then some (.inr (8,b0))
   else bif zC dJ r3.length then (let y0:List zI:=(r3.set dJ.toNat ((r3.getD dJ.toNat (0,0,0)).1,x4.1,(r3.getD dJ.toNat (0,0,0)).2.2))
    rec di gD (zA (dJ+1)) b0 r1 y0 m4 r5 m6)
   else none)
  else none)
 else some (.inl (b0,r1,r3,m4,r5,m6))
def MX (k:Nat):Nat→MU:=yT (fun _ _ _ _ _ _ _ _ _=>none) (qLc k)
def qG8 (k:Nat)(a0:jT)(a1 a2:Int):Option (Int×vE):=
 (yc k (yB a0 []) a1).bind fun x0=>
 bif !x0 then some (1,(yB a0 []))
 else(yU k a2 0 1048576).bind fun x1=>
 bif !x1 then some (1,(yB a0 []))
 else(yd k a0.2.2.2.2.2.2.2.2.2.2.1 a1 a2).bind fun x2=>
 (jS k a0.2.2.2.2.2.2.1 a0.2.2.2.2.2.2.2.1 a0.2.2.2.2.2.2.2.2.1 a0.2.2.2.2.2.2.2.2.2.1).bind fun x3=>
 (MX k k a0.2.2.2.2.2.2.2.2.2.2.2.1 (a0.2.2.2.2.2.2.2.2.2.2.2.1.length:Int) 0 a0 x2 x3.1 x3.2.1 x3.2.2.1 x3.2.2.2).bind fun z=>
 match z with
 |.inl z1=>some (0,(jL z1.1 (UX z1 (z1.2.1,(qFx z1.1 [])))))
 |.inr z2=>some (wO z2 [])
def qZb (k:Nat)(a0:jT)(a1:zB):Option (Int×vE):=
 bif decide (a1.1 = 1) then ((qO2 k a0 a1.2).bind fun x0=>
  some (x0.1,x0.2))
 else bif decide (a1.1 = 2) then ((DB k a0 a1).bind fun x1=>
  some (x1.1,x1.2))
 else bif decide (a1.1 = 3) then ((DB k a0 a1).bind fun x2=>
  some (x2.1,x2.2))
 else bif decide (a1.1 = 4) then ((DB k a0 a1).bind fun x3=>
  some (x3.1,x3.2))
 else bif decide (a1.1 = 5) then ((DC k a0 a1).bind fun x4=>
  some (x4.1,x4.2))
 else bif decide (a1.1 = 6) then ((DC k a0 a1).bind fun x5=>
  some (x5.1,x5.2))
 else bif decide (a1.1 = 7) then ((DC k a0 a1).bind fun x6=>
  some (x6.1,x6.2))
 else bif decide (a1.1 = 8) then ((qSp k a0 a1.2.1 a1.2.2.1).bind fun x7=>
  some (x7.1,x7.2))
 else bif decide (a1.1 = 10) then ((MS k a0 a1.1 a1.2.1 a1.2.2.1).bind fun x8=>
  some (x8.1,x8.2))
 else bif decide (a1.1 = 11) then ((MS k a0 a1.1 a1.2.1 a1.2.2.1).bind fun x9=>
  some (x9.1,x9.2))
 else bif decide (a1.1 = 12) then ((qG8 k a0 a1.2.1 a1.2.2.1).bind fun gE=>
  some (gE.1,gE.2))
 else some (0,(yB a0 []))
def qZ9 (k:Nat)(a0:yA)(a1:yN)(a2:yP):Option (yN×(List yP)×Int):=
 (Xc k a0 a1 a2).bind fun x0=>
 bif !(decide (x0=0)) then some (a1,[],x0)
 else bif decide (a2.2.1 = 9) then ((Xm k a1 a2.1).bind fun x1=>
  some (a1,x1,0))
 else bif !(decide (a2.1 = (-1))) then ((Kz k (gw a0 (iz a1 a2.1)) 15 []).bind fun x2=>
  (Ya k x2 a2.2).bind fun x3=>
  bif !(decide (x3.1=0)) then some (a1,[],x3.1)
  else bif decide (a2.2.1 = 14) then ((MR k a0.1 a0.2.1 a0.2.2.1 a0.2.2.2.1 a0.2.2.2.2 a1.1 a1.2.1 a1.2.2.1 a1.2.2.2.1 a1.2.2.2.2.1 a1.2.2.2.2.2.1 a1.2.2.2.2.2.2.1 a1.2.2.2.2.2.2.2.1 a1.2.2.2.2.2.2.2.2.1 a1.2.2.2.2.2.2.2.2.2.1 a1.2.2.2.2.2.2.2.2.2.2).bind fun x4=>
   some ((vD x4),x4.2.2.2.2.2.2.2.2.2.2.2,0))
  else(Dz k x3.2.2.2.2.2.2.1 x3.2.2.2.2.2.2.2.1 x3.2.2.2.2.2.2.2.2.1 x3.2.2.2.2.2.2.2.2.2.1 x3.2.2.2.2.2.2.2.2.2.2.1 x3.2.2.2.2.2.2.2.2.2.2.2.1 x3.2.2.2.2.2.2.2.2.2.2.2.2.1 x3.2.2.2.2.2.2.2.2.2.2.2.2.2.1 x3.2.2.2.2.2.2.2.2.2.2.2.2.2.2.1 x3.2.2.2.2.2.2.2.2.2.2.2.2.2.2.2.1 x3.2.2.2.2.2.2.2.2.2.2.2.2.2.2.2.2.1 (decide (a2.2.1=13))).bind fun x5=>
  bif qT (x3.2.2.2.2.2.2.2.2.2.2.2.2.2.2.2.2.2.2.length + x5.2.2.2.2.2.2.2.2.2.2.2.length) 64 then (let y0:List yP:=(x3.2.2.2.2.2.2.2.2.2.2.2.2.2.2.2.2.2.2++x5.2.2.2.2.2.2.2.2.2.2.2)
   bif decide (a2.2.1 = 1) then ((jo k x5.2.2.2.2.2.2.2.1 a2.2.2.1).bind fun x6=>
    bif decide (x6 ≥ 0) then ((CL k (qWy x3 y0) 19 [a2.2.2.1]).bind fun x7=>
     some ((vD x5),x7.2.2.2.2.2.2.2.2.2.2.2.2.2.2.2.2.2,0))
    else some ((vD x5),y0,0))
   else some ((vD x5),y0,0))
  else none)
 else(qZb k (gw a0 (iz a1 a2.1)) a2.2).bind fun x8=>
 bif !(decide (x8.1=0)) then some (a1,[],x8.1)
 else bif decide (a2.2.1 = 14) then ((MR k a0.1 a0.2.1 a0.2.2.1 a0.2.2.2.1 a0.2.2.2.2 a1.1 a1.2.1 a1.2.2.1 a1.2.2.2.1 a1.2.2.2.2.1 a1.2.2.2.2.2.1 a1.2.2.2.2.2.2.1 a1.2.2.2.2.2.2.2.1 a1.2.2.2.2.2.2.2.2.1 a1.2.2.2.2.2.2.2.2.2.1 a1.2.2.2.2.2.2.2.2.2.2).bind fun x9=>
  some ((vD x9),x9.2.2.2.2.2.2.2.2.2.2.2,0))
 else(Dz k x8.2.2.2.2.2.2.1 x8.2.2.2.2.2.2.2.1 x8.2.2.2.2.2.2.2.2.1 x8.2.2.2.2.2.2.2.2.2.1 x8.2.2.2.2.2.2.2.2.2.2.1 x8.2.2.2.2.2.2.2.2.2.2.2.1 x8.2.2.2.2.2.2.2.2.2.2.2.2.1 x8.2.2.2.2.2.2.2.2.2.2.2.2.2.1 x8.2.2.2.2.2.2.2.2.2.2.2.2.2.2.1 x8.2.2.2.2.2.2.2.2.2.2.2.2.2.2.2.1 x8.2.2.2.2.2.2.2.2.2.2.2.2.2.2.2.2.1 (decide (a2.2.1=13))).bind fun gE=>
 bif qT (x8.2.2.2.2.2.2.2.2.2.2.2.2.2.2.2.2.2.2.length + gE.2.2.2.2.2.2.2.2.2.2.2.length) 64 then (let y1:List yP:=(x8.2.2.2.2.2.2.2.2.2.2.2.2.2.2.2.2.2.2++gE.2.2.2.2.2.2.2.2.2.2.2)
  bif decide (a2.2.1 = 1) then ((jo k gE.2.2.2.2.2.2.2.1 a2.2.2.1).bind fun x11=>
   bif decide (x11 ≥ 0) then ((CL k (qWy x8 y1) 19 [a2.2.2.1]).bind fun x12=>
    some ((vD gE),x12.2.2.2.2.2.2.2.2.2.2.2.2.2.2.2.2.2,0))
   else some ((vD gE),y1,0))
  else some ((vD gE),y1,0))
 else none
def MY (k:Nat)(a0:yA)(a1:yN)(a2:yP):Option (yN×(List yP)×Int):=
 (qZ9 k a0 a1 a2).bind fun x0=>
 bif !(decide (x0.2.2=0)) then some (a1,[],x0.2.2)
 else some (x0.1,x0.2.1,x0.2.2)
def Ie (k:Nat):Option Bool:=
 (xS k 0).bind fun x0=>
 (B6 k x0).bind fun x1=>
 (Kl k (-1) 10 [0,5]).bind fun x2=>
 (MY k x0 x1 x2).bind fun x3=>
 (Kl k 0 1 [1,1,3,3,0,9]).bind fun x4=>
 (MY k x0 x3.1 x4).bind fun x5=>
 bif decide (x5.2.2 = 0) then (bif decide ((x5.2.1.length : Int) = 3) then (bif zC 0 x5.2.1.length then (bif decide ((x5.2.1.getD 0 (0, 0, 0, 0, 0, 0, 0, 0)).2.1 = 15) then (bif zC 1 x5.2.1.length then ((Kk k 18 [1,0,1,3]).bind fun x6=>
      bif (decide ((x5.2.1.getD 1 (0, 0, 0, 0, 0, 0, 0, 0)).2.1 = x6.1)) && ((decide ((x5.2.1.getD 1 (0, 0, 0, 0, 0, 0, 0, 0)).2.2.1 = x6.2.1)) && ((decide ((x5.2.1.getD 1 (0, 0, 0, 0, 0, 0, 0, 0)).2.2.2.1 = x6.2.2.1)) && ((decide ((x5.2.1.getD 1 (0, 0, 0, 0, 0, 0, 0, 0)).2.2.2.2.1 = x6.2.2.2.1)) && ((decide ((x5.2.1.getD 1 (0, 0, 0, 0, 0, 0, 0, 0)).2.2.2.2.2.1 = x6.2.2.2.2.1)) && ((decide ((x5.2.1.getD 1 (0, 0, 0, 0, 0, 0, 0, 0)).2.2.2.2.2.2.1 = x6.2.2.2.2.2.1)) && (decide ((x5.2.1.getD 1 (0, 0, 0, 0, 0, 0, 0, 0)).2.2.2.2.2.2.2 = x6.2.2.2.2.2.2))))))) then (bif decide (x5.1.2.2.2.2.2.2.2.2.2.1 = 5) then (bif decide ((x5.1.2.1.length : Int) = 3) then (bif zC 0 x5.1.2.1.length then some (decide ((x5.1.2.1.getD 0 (0,0,0)).1=2))
         else none)
        else some false)
       else some false)
      else some false)
     else none)
    else some false)
   else none)
  else some false)
 else some false
def Ch (k:Nat)(a0:yA)(a1:yN):Option Bool:=
 (Cg k a0 a1).bind fun x0=>
 bif x0 then some true
 else(Cf k a0).bind fun x1=>
 bif !x1 then some true
 else(xP k a0 a1).bind fun x2=>
 (xD k a0 a1).bind fun x3=>
 bif jC x2 x3 then ((xS k 0).bind fun x4=>
  (xP k x4 a1).bind fun x5=>
  (xS k 0).bind fun x6=>
  (xD k x6 a1).bind fun x7=>
  bif jC x5 x7 then ((Ie k).bind fun x8=>
   some x8)
  else some false)
 else some false
abbrev qTi:Type:=List zB→Int→List zI→EQ→AC→EQ→Option I4
def w7 (k:Nat)(rec:qTi)(s1:List zB)(s5:Int)(aa:List zI)(ae:EQ)(ag:AC)(af:EQ):Option I4:=
 bif decide (s5 < (s1.length : Int)) then (bif zC s5 s1.length then ((Bj k aa ae ag af (s1.getD s5.toNat (0,0,0,0,0,0,0)).1 (s1.getD s5.toNat (0,0,0,0,0,0,0)).2.1 (s1.getD s5.toNat (0,0,0,0,0,0,0)).2.2.1 (s1.getD s5.toNat (0,0,0,0,0,0,0)).2.2.2.1 (s1.getD s5.toNat (0,0,0,0,0,0,0)).2.2.2.2.1 (s1.getD s5.toNat (0,0,0,0,0,0,0)).2.2.2.2.2.1 (s1.getD s5.toNat (0,0,0,0,0,0,0)).2.2.2.2.2.2).bind fun x0=>
   bif !x0 then some (.inr false)
   else rec s1 (zA (s5+1)) aa ae ag af)
  else none)
 else some (.inl s1)
def Hb (k:Nat):Nat→qTi
 |0,_,_,_,_,_,_=>none
 |n+1,s1,s5,aa,ae,ag,af=>w7 k (Hb k n) s1 s5 aa ae ag af
def Ha (k:Nat)(aR:List zI)(bm:EQ)(bg:AC)(bd:EQ)(a1:List zB):Option Bool:=
 (Hb k k a1 0 aR bm bg bd).bind fun z=>
 match z with
 |.inl z1=>some (decide ((z1.length:Int)≤64))
 |.inr z2=>some z2
abbrev qR1:Type:=EQ→Int→EQ→Option EQ
def wz (k:Nat)(rec:qR1)(s0:EQ)(s4:Int)(m0:EQ):Option EQ:=
 bif decide (s4 < (s0.length : Int)) then (bif zC s4 s0.length then (bif qT (0 + (s0.getD s4.toNat []).length) 8 then (bif qT (m0.length+1) 24 then(rec s0 (zA (s4+1)) (m0++[(s0.getD s4.toNat [])]))
    else none)
   else none)
  else none)
 else some m0
def G2 (k:Nat):Nat→qR1
 |0,_,_,_=>none
 |n+1,s0,s4,m0=>wz k (G2 k n) s0 s4 m0
def Bh (k:Nat)(a0:EQ):Option EQ:=
 (G2 k k a0 0 []).bind fun z=>
 some z
def G5 (k:Nat)(aR:List zI)(bm:EQ)(bg:AC)(bd:EQ):Option ((List zI)×EQ×AC×EQ):=
 bif qT (0 + aR.length) 24 then ((Bh k bm).bind fun x0=>
  bif qT (0 + bg.length) 8 then ((Bh k bd).bind fun x1=>
   some (aR,x0,bg,x1))
  else none)
 else none
abbrev qJr:Type:=List zB→Int→Int→Int→Int→Option vA
def xa (k:Nat)(rec:qJr)(s0:List zB)(s1 s6 s7 s8:Int):Option vA:=
 bif decide (s8 < (s0.length : Int)) then (bif zC s8 s0.length then (bif !(decide ((s0.getD s8.toNat (0,0,0,0,0,0,0)).2.1=s1)) then(rec s0 s1 s6 s7 (zA (s8+1)))
   else bif zC s8 s0.length then (bif decide ((s0.getD s8.toNat (0, 0, 0, 0, 0, 0, 0)).2.2.2.2.1 = 3) then (bif zC s8 s0.length then(rec s0 s1 (zA (s6+(s0.getD s8.toNat (0,0,0,0,0,0,0)).2.2.2.1)) s7 (zA (s8+1)))
     else none)
    else bif zC s8 s0.length then(rec s0 s1 s6 (zA (s7+(s0.getD s8.toNat (0,0,0,0,0,0,0)).2.2.2.1)) (zA (s8+1)))
    else none)
   else none)
  else none)
 else some (s6,s7)
def Hj (k:Nat):Nat→qJr
 |0,_,_,_,_,_=>none
 |n+1,s0,s1,s6,s7,s8=>xa k (Hj k n) s0 s1 s6 s7 s8
def Hi (k:Nat)(a0:List zB)(a1:Int):Option vA:=
 (Hj k k a0 a1 0 0 0).bind fun z=>
 some (z.1,z.2)
def Hk (k:Nat)(a0:List zB)(a1:Int):Option Int:=
 (Hi k a0 a1).bind fun x0=>
 some x0.2
def Hl (k:Nat)(lh lj gC a1:Int):Option Int:=
 bif decide (a1≥gC) then some 0
 else some (zA (gC-a1))
abbrev qJq:Type:=List zB→Int→Int→Int→Int→Option Int
def w9 (k:Nat)(rec:qJq)(s0:List zB)(s1 s2 s7 s8:Int):Option Int:=
 bif decide (s8 < (s0.length : Int)) then (bif zC s8 s0.length then (bif decide ((s0.getD s8.toNat (0, 0, 0, 0, 0, 0, 0)).2.1 = s1) then (bif zC s8 s0.length then (bif decide ((s0.getD s8.toNat (0, 0, 0, 0, 0, 0, 0)).2.2.1 = s2) then (bif zC s8 s0.length then(rec s0 s1 s2 (zA (s7+(s0.getD s8.toNat (0,0,0,0,0,0,0)).2.2.2.1)) (zA (s8+1)))
      else none)
     else rec s0 s1 s2 s7 (zA (s8+1)))
    else none)
   else rec s0 s1 s2 s7 (zA (s8+1)))
  else none)
 else some s7
def Hg (k:Nat):Nat→qJq
 |0,_,_,_,_,_=>none
 |n+1,s0,s1,s2,s7,s8=>w9 k (Hg k n) s0 s1 s2 s7 s8
def Bo (k:Nat)(a0:List zB)(a1 a2:Int):Option Int:=
 (Hg k k a0 a1 a2 0 0).bind fun z=>
 some z
def Hh (k:Nat)(a0:List zB)(a1 a2:Int):Option Int:=
 (Bo k a0 a1 a2).bind fun x0=>
 (Bo k a0 a2 a1).bind fun x1=>
 some (zA (x0-x1))
abbrev qNr:Type:=(List zB)×Int×(List zI)×EQ×AC×EQ×(List zI)×EQ×AC×EQ
abbrev yAq:Type:=List zB→Int→Int→List zI→EQ→AC→EQ→List zI→EQ→AC→EQ→Option qNr
def xc (k:Nat)(rec:yAq)(s1:List zB)(s7 s8:Int)(aa:List zI)(ae:EQ)(ag:AC)(af:EQ)(r3:List zI)(m4:EQ)(r5:AC)(m6:EQ):Option qNr:=
 bif decide (s8 < (r3.length : Int)) then ((Hh k s1 s7 s8).bind fun x4=>
  bif zC s7 r3.length then (bif zC s7 r3.length then (let y1:List zI:=(r3.set s7.toNat ((zA ((r3.getD s7.toNat (0,0,0)).1-x4)),(r3.getD s7.toNat (0,0,0)).2))
    bif zC s7 m6.length then (bif zC s7 m6.length then (bif zC s8 (m6.getD s7.toNat []).length then (bif zC s8 (m6.getD s7.toNat []).length then (let y2:EQ:=(m6.set s7.toNat ((m6.getD s7.toNat []).set s8.toNat (zA (((m6.getD s7.toNat []).getD s8.toNat 0)+x4))))
        rec s1 s7 (zA (s8+1)) aa ae ag af y1 m4 r5 y2)
       else none)
      else none)
     else none)
    else none)
   else none)
  else none)
 else some (s1,s7,aa,ae,ag,af,r3,m4,r5,m6)
def Bp (k:Nat):Nat→yAq
 |0,_,_,_,_,_,_,_,_,_,_,_=>none
 |n+1,s1,s7,s8,aa,ae,ag,af,r3,m4,r5,m6=>xc k (Bp k n) s1 s7 s8 aa ae ag af r3 m4 r5 m6
abbrev qL1:Type:=List zB→Int→List zI→EQ→AC→EQ→List zI→EQ→AC→EQ→Option LW
def xe (k:Nat)(rec:qL1)(s1:List zB)(s7:Int)(aa:List zI)(ae:EQ)(ag:AC)(af:EQ)(r3:List zI)(m4:EQ)(r5:AC)(m6:EQ):Option LW:=
 bif decide (s7 < (r3.length : Int)) then (bif zC s7 r3.length then ((Hk k s1 s7).bind fun x2=>
   (Hl k (r3.getD s7.toNat (0,0,0)).1 (r3.getD s7.toNat (0,0,0)).2.1 (r3.getD s7.toNat (0,0,0)).2.2 x2).bind fun x3=>
   bif zC s7 r3.length then (let y0:List zI:=(r3.set s7.toNat ((r3.getD s7.toNat (0,0,0)).1,(r3.getD s7.toNat (0,0,0)).2.1,x3))
    (Bp k k s1 s7 0 aa ae ag af y0 m4 r5 m6).bind fun z=>
    rec z.1 (zA (z.2.1+1)) z.2.2.1 z.2.2.2.1 z.2.2.2.2.1 z.2.2.2.2.2.1 z.2.2.2.2.2.2.1 z.2.2.2.2.2.2.2.1 z.2.2.2.2.2.2.2.2.1 z.2.2.2.2.2.2.2.2.2)
   else none)
  else none)
 else some (aa,ae,ag,af,r3,m4,r5,m6)
def Br (k:Nat):Nat→qL1
 |0,_,_,_,_,_,_,_,_,_,_=>none
 |n+1,s1,s7,aa,ae,ag,af,r3,m4,r5,m6=>xe k (Br k n) s1 s7 aa ae ag af r3 m4 r5 m6
def Hn (k:Nat)(aR:List zI)(bm:EQ)(bg:AC)(bd:EQ)(a1:List zB):Option ((List zI)×EQ×AC×EQ×Int):=
 (Ha k aR bm bg bd a1).bind fun x0=>
 bif !x0 then some (aR,bm,bg,bd,1)
 else(G5 k aR bm bg bd).bind fun x1=>
 (Br k k a1 0 aR bm bg bd x1.1 x1.2.1 x1.2.2.1 x1.2.2.2).bind fun z1=>
 (rZ k z1.2.2.2.2.1 z1.2.2.2.2.2.1 z1.2.2.2.2.2.2.1 z1.2.2.2.2.2.2.2).bind fun x5=>
 bif !x5 then some (vT z1 8)
 else some (qJ1 z1 0)
end Go.Ab.Gi
