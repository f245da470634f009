/- part 6 -/
import Derived.Test.YtpgcgnfpnjolpaaGreatGiAbD
set_option linter.unusedVariables false
set_option maxRecDepth 100000
abbrev Go.Ab.Ty.i:Go.Ab.Ty:=.int .i64
abbrev Go.Ab.CS.i:Go.Ab.CS:=.int .i64
abbrev Go.Ab.PC.i:Go.Ab.PC:=.int .i64
abbrev Go.Ab.RC.i:Go.Ab.RC:=.int .i64
namespace Go.Ab.Gi
abbrev AC:=List Int
abbrev EQ:=List AC
abbrev jM:Go.Ab.Ty:=.pair .i .i
abbrev wV:Type:=Int×Bool
abbrev gi:Type:=Int×Int×Bool
abbrev qP:Type:=Int×Int×Int×Int×Int×Int×Int×Int
abbrev zB:Type:=Int×Int×Int×Int×Int×Int×Int
abbrev Ip:Type:=Int×Int×Int×Int×Int×Int
abbrev zH:Type:=Int×Int×Int
abbrev vY:Type:=Int×Int
abbrev Ya:Type:=(List zB)×Int×Int×Int×Int×Int×Int×Int×Int
abbrev oS:Type:=(List zH)×EQ×AC×EQ×(List zB)×(List zB)
abbrev yD:Go.Ab.Ty:=.pair .i jM
abbrev yIw:Type:=Bool×Int×Int×Int×Int×Int×Int×Int×Int×Int×Int×Int×Int×Int×Int×(List zH)×EQ×AC×EQ
abbrev M6:Type:=Int×(List zH)×EQ×AC×EQ×AC×EQ×(List zB)×AC×Int×Bool×(List qP)
abbrev yN:Type:=Int×(List zH)×EQ×AC×EQ×AC×EQ×(List zB)×AC×Int×Bool
abbrev rz:Type:=Int×(List vY)×Int×Int×Int×Int×(List zH)×EQ×AC×EQ×AC×EQ×(List zB)×AC×Int×Bool×Int×(List qP)×Int
abbrev wK:Type:=Int×(List vY)×Int×Int×Int×Int×(List zH)×EQ×AC×EQ×AC×EQ×(List zB)×AC×Int×Bool×Int×(List qP)
abbrev nr:Type:=Int×(List vY)×Int×Int×Int×Int×(List zH)×EQ×AC×EQ×AC×EQ×(List zB)×AC×Int×Bool×Int×Int
abbrev iX:Type:=Int×(List vY)×Int×Int×Int×Int×(List zH)×EQ×AC×EQ×AC×EQ×(List zB)×AC×Int×Bool×Int
abbrev yI:Type:=Int×(List vY)×Int×Int×Int
abbrev vA6:Go.Ab.Ty:=.pair .i yD
abbrev vGf:Go.Ab.Ty:=.pair .i vA6
abbrev vC6:Go.Ab.Ty:=.pair .i vGf
abbrev zF:Go.Ab.Ty:=.pair .i vC6
abbrev yM:Go.Ab.Ty:=.pair .i zF
abbrev U5:List Go.Ab.CS:=[.dat false .i,.dat false .i,.dat false (.sl .i)]
abbrev wU:List Go.Ab.CS:=[.dat false yD,.dat false (.sl .i),.dat false .i,.dat false (.sl .i)]
abbrev vU:List Go.Ab.CS:=[.dat true yD,.dat true (.sl .i),.dat true .i,.dat true (.sl .i)]
abbrev iI:List Go.Ab.CS:=[.i,.dat false jM,.i,.i,.i]
abbrev mq:List Go.Ab.CS:=[.i,.dat false yD,.dat false (.sl .i),.dat false .i,.dat false (.sl .i),.dat false .i,.dat false (.sl .i),.dat false zF,.dat false .i,.i,.bool]
abbrev UC:List Go.Ab.CS:=[.i,.dat true jM,.i,.i,.i,.i,.dat true yD,.dat true (.sl .i),.dat true .i,.dat true (.sl .i),.dat true .i,.dat true (.sl .i),.dat true zF,.dat true .i,.i,.bool,.i,.lit (.osl 1001001 none)]
abbrev V8:List Go.Ab.CS:=[.i,.dat true jM,.i,.i,.i,.i,.dat true yD,.dat true (.sl .i),.dat true .i,.dat true (.sl .i),.dat true .i,.dat true (.sl .i),.dat true zF,.dat true .i,.i,.bool,.i,.lit .nsl]
abbrev XS:List Go.Ab.CS:=[.i,.dat true jM,.i,.i,.i,.i,.dat true yD,.dat true (.sl .i),.dat true .i,.dat true (.sl .i),.dat true .i,.dat true (.sl .i),.dat true zF,.dat true .i,.i,.bool,.i,.lit .nsl,.i]
abbrev mu:List Go.Ab.CS:=[.i,.dat true yD,.dat true (.sl .i),.dat true .i,.dat true (.sl .i),.dat true .i,.dat true (.sl .i),.dat true zF,.dat true .i,.i,.bool]
abbrev vW:List Go.Ab.CS:=[.i,.i,.i,.i,.i,.i,.i]
abbrev qT3:List Go.Ab.CS:=[.i,.i,.i,.i,.i,.i,.i,.i,.i,.i,.i,.i,.i,.i,.dat true yD,.dat true (.sl .i),.dat true .i,.dat true (.sl .i)]
abbrev MJ:List Go.Ab.CS:=[.i,.i,.i,.i,.i,.i,.i,.i,.i,.i,.i,.i,.i,.i,.lit .nsl,.lit .nsl,.lit .nsl,.lit .nsl]
abbrev qWt:List Go.Ab.CS:=[.i,.lit (.osl 1001003 none),.lit (.osl 1001004 none),.lit (.osl 1001005 none),.lit (.osl 1001006 none),.lit (.osl 1001007 none),.lit .nsl,.lit .nsl,.lit .nsl,.i,.bool]
abbrev iT:List Go.Ab.CS:=[.i,.lit .nsl,.lit .nsl,.lit .nsl,.lit .nsl,.lit .nsl,.lit .nsl,.lit .nsl,.lit .nsl,.i,.bool]
abbrev UX:List Go.Ab.CS:=[.lit (.osl 1001002 none),.lit (.osl 1001003 none),.lit (.osl 1001004 none)]
abbrev oR:List Go.Ab.CS:=[.lit (.osl 1001003 none),.lit (.osl 1001004 none),.lit (.osl 1001005 none),.lit (.osl 1001006 none)]
abbrev qVn:List Go.Ab.CS:=[.lit (.osl 1001004 none),.lit (.osl 1001005 none),.lit (.osl 1001006 none),.lit (.osl 1001007 none)]
abbrev lD:List Go.Ab.CS:=[.lit .nsl,.lit .nsl,.lit .nsl,.lit .nsl]
abbrev MI:List Go.Ab.PC:=[.dat false .i,.dat false .i,.dat false (.sl .i)]
abbrev wN:List Go.Ab.PC:=[.dat false yD,.dat false (.sl .i),.dat false .i,.dat false (.sl .i)]
abbrev iJ:List Go.Ab.PC:=[.dat true yD,.dat true (.sl .i),.dat true .i,.dat true (.sl .i)]
abbrev fM:List Go.Ab.PC:=[.i,.dat false jM,.i,.i,.i]
abbrev Ut:List Go.Ab.PC:=[.i,.dat false jM,.i,.i,.i,.i,.dat false yD,.dat false (.sl .i),.dat false .i,.dat false (.sl .i),.dat false .i,.dat false (.sl .i),.dat false zF,.dat false .i,.i,.bool,.i,.dat false yM]
abbrev yG0:List Go.Ab.PC:=[.i,.dat false jM,.i,.i,.i,.i,.dat false yD,.dat false (.sl .i),.dat false .i,.dat false (.sl .i),.dat false .i,.dat false (.sl .i),.dat false zF,.dat false .i,.i,.bool,.i,.dat false yM,.i]
abbrev kO:List Go.Ab.PC:=[.i,.dat false yD,.dat false (.sl .i),.dat false .i,.dat false (.sl .i),.dat false .i,.dat false (.sl .i),.dat false zF,.dat false .i,.i,.bool]
abbrev H7:List Go.Ab.PC:=[.i,.dat true jM,.i,.i,.i]
abbrev rr:List Go.Ab.PC:=[.i,.dat true yD,.dat true (.sl .i),.dat true .i,.dat true (.sl .i),.dat true .i,.dat true (.sl .i),.dat true zF,.dat true .i,.i,.bool]
abbrev lC:List Go.Ab.PC:=[.i,.i,.i]
abbrev H2:List Go.Ab.PC:=[.i,.i,.i,.i,.i,.i]
abbrev vC:List Go.Ab.PC:=[.i,.i,.i,.i,.i,.i,.i]
abbrev DU:List Go.Ab.PC:=[.i,.i,.i,.i,.i,.i,.i,.i]
abbrev kQ:List Go.Ab.RC:=[.fro yD,.fro (.sl .i),.fro .i,.fro (.sl .i)]
abbrev vJ:List Go.Ab.RC:=[.i]
abbrev iU:List Go.Ab.RC:=[.i,.fro jM,.i,.i,.i,.i,.fro yD,.fro (.sl .i),.fro .i,.fro (.sl .i),.fro .i,.fro (.sl .i),.fro zF,.fro .i,.i,.bool,.i,.own yM]
abbrev xP:List Go.Ab.RC:=[.i,.fro jM,.i,.i,.i,.i,.fro yD,.fro (.sl .i),.fro .i,.fro (.sl .i),.fro .i,.fro (.sl .i),.fro zF,.fro .i,.i,.bool,.i,.own yM,.i]
abbrev xL:List Go.Ab.RC:=[.i,.fro yD,.fro (.sl .i),.fro .i,.fro (.sl .i),.fro .i,.fro (.sl .i),.fro zF,.fro .i,.i,.bool]
abbrev oP:List Go.Ab.RC:=[.i,.i,.i,.i,.i,.i,.i]
abbrev tY:List Go.Ab.XC:=[.p .i,.p (.dat true jM),.p .i,.p .i,.p .i,.p .i,.p (.dat true yD),.p (.dat true (.sl .i)),.p (.dat true .i),.p (.dat true (.sl .i)),.p (.dat true .i),.p (.dat true (.sl .i)),.p (.dat true zF),.p (.dat true .i),.p .i,.p .bool,.p .i,.own yM]
abbrev tX:List Go.Ab.XC:=[.p .i,.p (.dat true jM),.p .i,.p .i,.p .i,.p .i,.p (.dat true yD),.p (.dat true (.sl .i)),.p (.dat true .i),.p (.dat true (.sl .i)),.p (.dat true .i),.p (.dat true (.sl .i)),.p (.dat true zF),.p (.dat true .i),.p .i,.p .bool,.p .i,.p (.nil)]
abbrev xO:List Go.Ab.XC:=[.p .i,.p (.dat true jM),.p .i,.p .i,.p .i,.p .i,.p (.dat true yD),.p (.dat true (.sl .i)),.p (.dat true .i),.p (.dat true (.sl .i)),.p (.dat true .i),.p (.dat true (.sl .i)),.p (.dat true zF),.p (.dat true .i),.p .i,.p .bool,.p .i,.p (.nil),.p .i]
section
variable {A B C D E F G H I J K L M N O P Q R S U V W X Z a b Aa T Y:Type}
abbrev rq (x:A×B×C×D)(t:T):=(x.1,x.2.1,x.2.2.1,x.2.2.2,t)
abbrev jZ (x:A×B×C×D×E)(t:T):=(x.1,rq x.2 t)
abbrev lE (x:A×B×C×D×E×F)(t:T):=(x.1,jZ x.2 t)
abbrev gh (x:A×B×C×D×E×F×G)(t:T):=(x.1,lE x.2 t)
abbrev Mw (x:A×B×C×D×E×F×G×H)(t:T):=(x.1,gh x.2 t)
abbrev MC (x:A×B×C×D×E×F×G×H×I)(t:T):=(x.1,Mw x.2 t)
abbrev yTu (x:A×B×C×D×E×F×G×H×I×J)(t:T):=(x.1,MC x.2 t)
abbrev jJ (x:A×B×C×D×E×F×G×H×I×J×K)(t:T):=(x.1,yTu x.2 t)
abbrev DY (x:A×B×C×D×E×F×G×H×I×J×K×L)(t:T):=(x.1,jJ x.2 t)
abbrev vGg (x:A×B×C×D×E×F×G×H×I×J×K×L×M)(t:T):=(x.1,DY x.2 t)
abbrev Vx (x:A×B×C×D×E×F×G×H×I×J×K×L×M×N)(t:T):=(x.1,vGg x.2 t)
abbrev qWl (x:A×B×C×D×E×F×G×H×I×J×K×L×M×N×O)(t:T):=(x.1,Vx x.2 t)
abbrev vBz (x:A×B×C×D×E×F×G×H×I×J×K×L×M×N×O×P)(t:T):=(x.1,qWl x.2 t)
abbrev vA (x:A×B×C×D×E×F×G×H×I×J×K×L×M×N×O×P×Q)(t:T):=(x.1,vBz x.2 t)
abbrev jL (x:A×B×C×D×E×F×G×H×I×J×K×L×M×N×O×P×Q×R)(t:T):=(x.1,vA x.2 t)
abbrev ub (x:A×B×C×D×E×F×G×H×I×J×K×L×M×N×O×P×Q×R×S)(t:T):=(x.1,jL x.2 t)
abbrev rp (x:A×B×C×D×E):=(x.1,x.2.1,x.2.2.1,x.2.2.2.1)
abbrev qZ (x:A×B×C×D×E×F):=(x.1,rp x.2)
abbrev kR (x:A×B×C×D×E×F×G):=(x.1,qZ x.2)
abbrev wC (x:A×B×C×D×E×F×G×H):=(x.1,kR x.2)
abbrev DT (x:A×B×C×D×E×F×G×H×I):=(x.1,wC x.2)
abbrev MD (x:A×B×C×D×E×F×G×H×I×J):=(x.1,DT x.2)
abbrev vHf (x:A×B×C×D×E×F×G×H×I×J×K):=(x.1,MD x.2)
abbrev qR (x:A×B×C×D×E×F×G×H×I×J×K×L):=(x.1,vHf x.2)
abbrev DZ (x:A×B×C×D×E×F×G×H×I×J×K×L×M):=(x.1,qR x.2)
abbrev vNt (x:A×B×C×D×E×F×G×H×I×J×K×L×M×N):=(x.1,DZ x.2)
abbrev yIz (x:A×B×C×D×E×F×G×H×I×J×K×L×M×N×O):=(x.1,vNt x.2)
abbrev yNq (x:A×B×C×D×E×F×G×H×I×J×K×L×M×N×O×P):=(x.1,yIz x.2)
abbrev vN1 (x:A×B×C×D×E×F×G×H×I×J×K×L×M×N×O×P×Q):=(x.1,yNq x.2)
abbrev iV (x:A×B×C×D×E×F×G×H×I×J×K×L×M×N×O×P×Q×R):=(x.1,vN1 x.2)
abbrev fm (x:A×B×C×D×E×F×G×H×I×J×K×L×M×N×O×P×Q×R×S):=(x.1,iV x.2)
abbrev MK (x:A×B×C×D×E×F×G×H×I×J×K×L×M×N×O×P×Q×R×S×U):=(x.1,fm x.2)
abbrev vG (x:A×B×C×D×E)(t:T):=(x.1,x.2.1,x.2.2.1,x.2.2.2.1,t)
abbrev xM (x:A×B×C×D×E×F)(t:T):=(x.1,vG x.2 t)
abbrev wJ (x:A×B×C×D×E×F×G)(t:T):=(x.1,xM x.2 t)
abbrev gQ (x:A×B×C×D×E×F×G×H)(t:T):=(x.1,wJ x.2 t)
abbrev yWg (x:A×B×C×D×E×F×G×H×I)(t:T):=(x.1,gQ x.2 t)
abbrev vAw (x:A×B×C×D×E×F×G×H×I×J)(t:T):=(x.1,yWg x.2 t)
abbrev vQb (x:A×B×C×D×E×F×G×H×I×J×K)(t:T):=(x.1,vAw x.2 t)
abbrev ua (x:A×B×C×D×E×F×G×H×I×J×K×L)(t:T):=(x.1,vQb x.2 t)
abbrev gV (x:A×B×C×D×E×F×G×H×I×J×K×L×M)(t:T):=(x.1,ua x.2 t)
abbrev yTm (x:A×B×C×D×E×F×G×H×I×J×K×L×M×N)(t:T):=(x.1,gV x.2 t)
abbrev Vz (x:A×B×C×D×E×F×G×H×I×J×K×L×M×N×O)(t:T):=(x.1,yTm x.2 t)
abbrev vP1 (x:A×B×C×D×E×F×G×H×I×J×K×L×M×N×O×P)(t:T):=(x.1,Vz x.2 t)
abbrev vOx (x:A×B×C×D×E×F×G×H×I×J×K×L×M×N×O×P×Q)(t:T):=(x.1,vP1 x.2 t)
abbrev qV (x:A×B×C×D×E×F×G×H×I×J×K×L×M×N×O×P×Q×R)(t:T):=(x.1,vOx x.2 t)
abbrev yDd (x:A×B×C×D×E×F×G×H×I×J×K×L×M×N×O×P×Q×R×S)(t:T):=(x.1,qV x.2 t)
abbrev yU (f:A→B→C→D→Y)(x:A×B×C×D×E):Y:=f x.1 x.2.1 x.2.2.1 x.2.2.2.1
abbrev iW (f:A→B→C→D→E→Y)(x:A×B×C×D×E×F):Y:=yU (f x.1) x.2
abbrev gU (f:A→B→C→D→E→F→Y)(x:A×B×C×D×E×F×G):Y:=iW (f x.1) x.2
abbrev kb (f:A→B→C→D→E→F→G→Y)(x:A×B×C×D×E×F×G×H):Y:=gU (f x.1) x.2
abbrev ka (f:A→B→C→D→E→F→G→H→Y)(x:A×B×C×D×E×F×G×H×I):Y:=kb (f x.1) x.2
abbrev MH (f:A→B→C→D→E→F→G→H→I→Y)(x:A×B×C×D×E×F×G×H×I×J):Y:=ka (f x.1) x.2
abbrev vLp (f:A→B→C→D→E→F→G→H→I→J→Y)(x:A×B×C×D×E×F×G×H×I×J×K):Y:=MH (f x.1) x.2
abbrev oO (f:A→B→C→D→E→F→G→H→I→J→K→Y)(x:A×B×C×D×E×F×G×H×I×J×K×L):Y:=vLp (f x.1) x.2
abbrev HV (f:A→B→C→D→E→F→G→H→I→J→K→L→Y)(x:A×B×C×D×E×F×G×H×I×J×K×L×M):Y:=oO (f x.1) x.2
abbrev U8 (f:A→B→C→D→E→F→G→H→I→J→K→L→M→Y)(x:A×B×C×D×E×F×G×H×I×J×K×L×M×N):Y:=HV (f x.1) x.2
abbrev DP (f:A→B→C→D→E→F→G→H→I→J→K→L→M→N→Y)(x:A×B×C×D×E×F×G×H×I×J×K×L×M×N×O):Y:=U8 (f x.1) x.2
abbrev yVx (f:A→B→C→D→E→F→G→H→I→J→K→L→M→N→O→Y)(x:A×B×C×D×E×F×G×H×I×J×K×L×M×N×O×P):Y:=DP (f x.1) x.2
abbrev qXj (f:A→B→C→D→E→F→G→H→I→J→K→L→M→N→O→P→Y)(x:A×B×C×D×E×F×G×H×I×J×K×L×M×N×O×P×Q):Y:=yVx (f x.1) x.2
abbrev vQs (f:A→B→C→D→E→F→G→H→I→J→K→L→M→N→O→P→Q→Y)(x:A×B×C×D×E×F×G×H×I×J×K×L×M×N×O×P×Q×R):Y:=qXj (f x.1) x.2
abbrev yS6 (f:A→B→C→D→E→F→G→H→I→J→K→L→M→N→O→P→Q→R→Y)(x:A×B×C×D×E×F×G×H×I×J×K×L×M×N×O×P×Q×R×S):Y:=vQs (f x.1) x.2
abbrev yX9 (f:A→B→C→D→E→F→G→H→I→J→K→L→M→N→O→P→Q→R→S→Y)(x:A×B×C×D×E×F×G×H×I×J×K×L×M×N×O×P×Q×R×S×U):Y:=yS6 (f x.1) x.2
abbrev Yb (x:A×B×C×D×E×F×G×H×I×J×K×L×M×N×O×P×Q)(t:T):=rq x.2.2.2.2.2.2.2.2.2.2.2.2.2 t
abbrev xj (x:A×B×C×D×E×F)(t:T):=rq x.2.2 t
abbrev vRy (x:A×B×C×D×E×F×G)(t:T):=rq x.2.2.2 t
abbrev qVv (x:A×B×C×D×E×F×G×H)(t:T):=rq x.2.2.2.2 t
abbrev vJ2 (x:A×B×C×D×E×F×G×H×I)(t:T):=rq x.2.2.2.2.2 t
abbrev yZ7 (x:A×B×C×D×E×F×G×H×I×J×K×L)(t:T):=rq x.2.2.2.2.2.2.2.2 t
abbrev qYf (x:A×B×C×D×E×F×G×H×I×J×K×L×M×N×O×P×Q)(t:T):=jZ x.2.2.2.2.2.2.2.2.2.2.2.2 t
abbrev Rx (x:A×B×C×D×E×F×G×H×I×J×K×L×M×N×O×P×Q)(t:T):=lE x.2.2.2.2.2.2.2.2.2.2.2 t
abbrev vKo (x:A×B×C×D×E×F×G×H)(t:T):=lE x.2.2 t
abbrev Yc (x:A×B×C×D×E×F×G×H×I×J×K×L×M×N×O×P×Q)(t:T):=gh x.2.2.2.2.2.2.2.2.2.2 t
abbrev qX1 (x:A×B×C×D×E×F×G×H)(t:T):=gh x.2 t
abbrev vQ6 (x:A×B×C×D×E×F×G×H×I×J×K)(t:T):=gh x.2.2.2.2 t
abbrev yK0 (x:A×B×C×D×E×F×G×H×I×J×K×L×M×N)(t:T):=gh x.2.2.2.2.2.2.2 t
abbrev yNn (x:A×B×C×D×E×F×G×H×I×J×K×L×M×N×O)(t:T):=gh x.2.2.2.2.2.2.2.2 t
abbrev vAa (x:A×B×C×D×E×F×G×H×I×J×K×L)(t:T):=jJ x.2 t
abbrev yX0 (x:A×B×C×D×E×F×G×H×I×J×K×L×M×N×O)(t:T):=Vx x.2 t
abbrev Vt (x:A×B×C×D×E×F×G×H×I×J×K×L×M×N×O×P×Q×R×S)(t:T):=jL x.2 t
abbrev yHg (x:A×B×C×D×E×F×G×H×I×J×K×L×M×N×O×P×Q×R×S×U×V×W×X×Z×a):=kR x.2.2.2.2.2.2.2.2.2.2.2.2.2.2.2.2.2.2
abbrev vId (x:A×B×C×D×E×F×G×H×I×J×K×L×M×N×O×P×Q×R×S×U×V×W×X×Z×a×b):=kR x.2.2.2.2.2.2.2.2.2.2.2.2.2.2.2.2.2.2.2
abbrev yR2 (x:A×B×C×D×E×F×G×H×I×J×K×L×M×N×O×P×Q×R×S×U×V×W×X×Z×a×b×Aa):=kR x.2.2.2.2.2.2.2.2.2.2.2.2.2.2.2.2.2.2.2.2
abbrev DV (x:A×B×C×D×E×F×G×H×I×J×K×L×M×N×O×P×Q×R×S×U×V×W×X×Z×a×b):=wC x.2.2.2.2.2.2.2.2.2.2.2.2.2.2.2.2.2.2
abbrev vBa (x:A×B×C×D×E×F×G×H×I×J×K×L×M×N×O×P×Q×R×S×U×V×W×X×Z×a×b×Aa):=wC x.2.2.2.2.2.2.2.2.2.2.2.2.2.2.2.2.2.2.2
abbrev MA (x:A×B×C×D×E×F×G×H×I):=wC x.2
abbrev Uj (x:A×B×C×D×E×F×G×H×I×J×K×L×M×N):=wC x.2.2.2.2.2.2
abbrev Yd (x:A×B×C×D×E×F×G×H×I×J×K×L×M×N×O):=wC x.2.2.2.2.2.2.2
abbrev xG (x:A×B×C×D×E×F×G×H×I×J×K×L×M×N×O×P×Q×R×S×U×V×W×X×Z×a):=DT x.2.2.2.2.2.2.2.2.2.2.2.2.2.2.2.2
abbrev vQk (x:A×B×C×D×E×F×G×H×I×J×K×L×M×N):=DT x.2.2.2.2.2
abbrev yVi (x:A×B×C×D×E×F×G×H×I×J×K×L×M×N×O×P×Q×R×S×U×V×W×X):=qR x.2.2.2.2.2.2.2.2.2.2.2
abbrev mo (x:A×B×C×D×E×F×G×H×I×J×K×L×M×N×O×P×Q):=qR x.2.2.2.2.2
abbrev yTv (x:A×B×C×D×E×F×G×H×I×J×K×L×M×N×O×P×Q×R×S):=qR x.2.2.2.2.2.2.2
abbrev kP (x:A×B×C×D×E×F×G×H×I×J×K×L×M×N×O×P×Q×R×S×U):=fm x.2
abbrev xQ (x:A×B×C×D×E×F×G×H×I×J×K×L×M×N×O×P×Q×R×S×U×V):=MK x.2
abbrev D4 (x:A×B×C×D×E×F×G×H×I×J×K×L×M×N×O)(t:T):=vG x.2.2.2.2.2.2.2.2.2.2 t
abbrev M7 (x:A×B×C×D×E×F×G×H×I×J×K×L×M×N×O×P×Q×R)(t:T):=vG x.2.2.2.2.2.2.2.2.2.2.2.2.2 t
abbrev fO (x:A×B×C×D×E×F)(t:T):=vG x.2 t
abbrev Mx (x:A×B×C×D×E×F×G)(t:T):=vG x.2.2 t
abbrev vG4 (x:A×B×C×D×E×F×G×H×I×J)(t:T):=vG x.2.2.2.2.2 t
abbrev qX2 (x:A×B×C×D×E×F×G×H×I×J×K×L×M×N×O×P×Q×R)(t:T):=xM x.2.2.2.2.2.2.2.2.2.2.2.2 t
abbrev qXn (x:A×B×C×D×E×F×G×H×I×J×K×L×M×N×O×P×Q×R)(t:T):=wJ x.2.2.2.2.2.2.2.2.2.2.2 t
abbrev X8 (x:A×B×C×D×E×F×G×H×I×J×K×L×M×N×O×P×Q×R)(t:T):=gQ x.2.2.2.2.2.2.2.2.2.2 t
abbrev yTy (x:A×B×C×D×E×F×G×H×I×J×K×L×M×N×O×P×Q×R×S×U)(t:T):=gQ x.2.2.2.2.2.2.2.2.2.2.2.2 t
abbrev Vm (x:A×B×C×D×E×F×G×H×I)(t:T):=gQ x.2 t
abbrev vK3 (x:A×B×C×D×E×F×G×H×I×J×K×L×M)(t:T):=gQ x.2.2.2.2.2 t
abbrev vKx (x:A×B×C×D×E×F×G×H×I×J×K×L×M×N×O×P×Q)(t:T):=ua x.2.2.2.2.2 t
abbrev vQr (x:A×B×C×D×E×F×G×H×I×J×K×L×M×N×O×P×Q×R×S×U×V)(t:T):=Vz x.2.2.2.2.2.2 t
abbrev LR (x:A×B×C×D×E×F×G×H×I×J×K×L×M×N×O×P×Q×R×S)(t:T):=qV x.2 t
end
def iY:AC:=[0,1,2,2,3,3,3,3,4,4,4,4,4,4,4,4,5,5,5,5,5,5,5,5,5,5,5,5,5,5,5,5,6,6,6,6,6,6,6,6,6,6,6,6,6,6,6,6,6,6,6,6,6,6,6,6,6,6,6,6,6,6,6,6,7,7,7,7,7,7,7,7,7,7,7,7,7,7,7,7,7,7,7,7,7,7,7,7,7,7,7,7,7,7,7,7,7,7,7,7,7,7,7,7,7,7,7,7,7,7,7,7,7,7,7,7,7,7,7,7,7,7,7,7,7,7,7,7,8,8,8,8,8,8,8,8,8,8,8,8,8,8,8,8,8,8,8,8,8,8,8,8,8,8,8,8,8,8,8,8,8,8,8,8,8,8,8,8,8,8,8,8,8,8,8,8,8,8,8,8,8,8,8,8,8,8,8,8,8,8,8,8,8,8,8,8,8,8,8,8,8,8,8,8,8,8,8,8,8,8,8,8,8,8,8,8,8,8,8,8,8,8,8,8,8,8,8,8,8,8,8,8,8,8,8,8,8,8,8,8,8,8,8,8,8,8,8,8,8,8,8,8,8,8,8,8]
def L8 (k:Nat)(a0:yI)(a1:yN):Option Bool:=
 bif decide ((zA ((zA ((zA ((zA ((zA ((a0.2.1.length:Int)+(a1.2.2.2.2.2.2.2.1.length:Int)))+(a1.2.2.2.2.2.2.2.2.1.length:Int)))+(a1.2.2.2.2.2.1.length:Int)))+(a1.2.1.length:Int)))+(a1.2.2.2.1.length:Int)))>300) then some true
 else bif decide ((a1.2.2.2.2.2.2.1.length:Int)>20) then some true
 else bif decide ((a1.2.2.1.length:Int)>20) then some true
 else bif decide ((a1.2.2.2.2.1.length:Int)>20) then some true
 else bif decide (a0.1>20) then some true
 else some (decide (a0.1<0))
def tU (k:Nat)(a0 a1 a2:Int):Option Bool:=
 bif decide (a0≥a1) then some (decide (a0≤a2))
 else some false
abbrev Sb:Type:=yI⊕Bool
abbrev R9:Type:=Int→yI→Option Sb
def DO (k:Nat)(rec:R9)(s3:Int)(b0:yI):Option Sb:=
 bif decide (s3 < (b0.2.1.length : Int)) then (bif zC s3 b0.2.1.length then ((tU k (b0.2.1.getD s3.toNat (0,0)).1 0 1048576).bind fun x0=>
   bif !x0 then some (.inr false)
   else bif zC s3 b0.2.1.length then ((tU k (b0.2.1.getD s3.toNat (0,0)).2 0 10000).bind fun x1=>
    bif !x1 then some (.inr false)
    else rec (zA (s3+1)) b0)
   else none)
  else none)
 else some (.inl b0)
def xF (k:Nat):Nat→R9:=vH (fun _ _=>none) (DO k)
def L7 (k:Nat)(a0:yI):Option Bool:=
 bif decide (a0.1<1) then some false
 else bif decide (a0.1>6) then some false
 else bif decide ((a0.2.1.length:Int)>3) then some false
 else(xF k k 0 a0).bind fun z=>
 match z with
 |.inl z1=>(tU k z1.2.2.2.1 1 1048576).bind fun x2=>
  bif x2 then ((tU k z1.2.2.1 0 z1.2.2.2.1).bind fun x3=>
   bif x3 then ((tU k z1.2.2.2.2 1 1048576).bind fun x4=>
    some x4)
   else some false)
  else some false
 |.inr z2=>some z2
def yW (k:Nat)(a0 a1 a2:Int):Option Bool:=
 bif decide (a0≥a1) then some (decide (a0≤a2))
 else some false
def JV (k:Nat)(bn bz aP:Int):Option Bool:=
 bif decide (bn > (-4611686018427387904)) then (bif decide (bn < 4611686018427387904) then (bif decide (bz ≥ 0) then (bif decide (bz ≤ 2305843009213693952) then (bif decide (aP≥0) then some (decide (aP≤2305843009213693952))
     else some false)
    else some false)
   else some false)
  else some false)
 else some false
def P7 (k:Nat)(bn bz aP:Int):Option Bool:=
 (JV k bn bz aP).bind fun x0=>
 some (!x0)
abbrev Sc:Type:=List zH→Int→Int→Option (Unit⊕Int)
def AE (k:Nat)(rec:Sc)(s0:List zH)(s7 s8:Int):Option (Unit⊕Int):=
 bif decide (s8 < s7) then (bif zC s8 s0.length then ((P7 k (s0.getD s8.toNat (0,0,0)).1 (s0.getD s8.toNat (0,0,0)).2.1 (s0.getD s8.toNat (0,0,0)).2.2).bind fun x0=>
   bif x0 then some (.inr s8)
   else rec s0 s7 (zA (s8+1)))
  else none)
 else some (.inl ())
def Fy (k:Nat):Nat→Sc
 |0,_,_,_=>none
 |n+1,s0,s7,s8=>AE k (Fy k n) s0 s7 s8
def P8 (k:Nat)(a0:List zH):Option Int:=
 (Fy k k a0 (a0.length:Int) 0).bind fun z=>
 match z with
 |.inl z1=>some (-1)
 |.inr z2=>some z2
def JX (k:Nat)(a0:List zH):Option Bool:=
 (P8 k a0).bind fun x0=>
 some (decide (x0≥0))
def P5 (k:Nat)(a0:Int):Option Bool:=
 bif decide (a0≥(-1)) then some (decide (a0≤2305843009213693952))
 else some false
def P9 (k:Nat)(a0:Int):Option Bool:=
 (P5 k a0).bind fun x0=>
 some (!x0)
abbrev Se:Type:=AC→Int→Int→Option (Unit⊕Int)
def AF (k:Nat)(rec:Se)(s0:AC)(s7 s8:Int):Option (Unit⊕Int):=
 bif decide (s8 < s7) then (bif zC s8 s0.length then ((P9 k (s0.getD s8.toNat 0)).bind fun x0=>
   bif x0 then some (.inr s8)
   else rec s0 s7 (zA (s8+1)))
  else none)
 else some (.inl ())
def Fz (k:Nat):Nat→Se
 |0,_,_,_=>none
 |n+1,s0,s7,s8=>AF k (Fz k n) s0 s7 s8
def Qa (k:Nat)(a0:AC):Option Int:=
 (Fz k k a0 (a0.length:Int) 0).bind fun z=>
 match z with
 |.inl z1=>some (-1)
 |.inr z2=>some z2
def JY (k:Nat)(a0:AC):Option Bool:=
 (Qa k a0).bind fun x0=>
 some (decide (x0≥0))
def FB (k:Nat)(a0:AC)(a1:Int):Option Bool:=
 bif decide ((a0.length : Int) = a1) then ((JY k a0).bind fun x0=>
  some (!x0))
 else some false
abbrev Sh:Type:=Int→EQ→Int→Int→Option (Unit⊕Bool)
def AH (k:Nat)(rec:Sh)(s1:Int)(bL:EQ)(bx ba:Int):Option (Unit⊕Bool):=
 bif decide (ba < bx) then (bif zC ba bL.length then ((FB k (bL.getD ba.toNat []) s1).bind fun x0=>
   bif !x0 then some (.inr false)
   else rec s1 bL bx (zA (ba+1)))
  else none)
 else some (.inl ())
def FC (k:Nat):Nat→Sh
 |0,_,_,_,_=>none
 |n+1,s1,bL,bx,ba=>AH k (FC k n) s1 bL bx ba
def J1 (k:Nat)(a0:EQ)(a1:Int):Option Bool:=
 bif !(decide ((a0.length:Int)=a1)) then some false
 else(FC k k a1 a0 (a0.length:Int) 0).bind fun z=>
 match z with
 |.inl z1=>some true
 |.inr z2=>some z2
def JW (k:Nat)(a0:Int):Option Bool:=
 bif decide (a0>(-72057594037927936)) then some (decide (a0<72057594037927936))
 else some false
def Qb (k:Nat)(a0:Int):Option Bool:=
 (JW k a0).bind fun x0=>
 some (!x0)
def AG (k:Nat)(rec:Se)(s0:AC)(s7 s8:Int):Option (Unit⊕Int):=
 bif decide (s8 < s7) then (bif zC s8 s0.length then ((Qb k (s0.getD s8.toNat 0)).bind fun x0=>
   bif x0 then some (.inr s8)
   else rec s0 s7 (zA (s8+1)))
  else none)
 else some (.inl ())
def FA (k:Nat):Nat→Se
 |0,_,_,_=>none
 |n+1,s0,s7,s8=>AG k (FA k n) s0 s7 s8
def Qc (k:Nat)(a0:AC):Option Int:=
 (FA k k a0 (a0.length:Int) 0).bind fun z=>
 match z with
 |.inl z1=>some (-1)
 |.inr z2=>some z2
def JZ (k:Nat)(a0:AC):Option Bool:=
 (Qc k a0).bind fun x0=>
 some (decide (x0≥0))
def J0 (k:Nat)(a0:AC)(a1:Int):Option Bool:=
 bif decide ((a0.length : Int) = a1) then ((JZ k a0).bind fun x0=>
  some (!x0))
 else some false
def AI (k:Nat)(rec:Sh)(s1:Int)(bL:EQ)(bx ba:Int):Option (Unit⊕Bool):=
 bif decide (ba < bx) then (bif zC ba bL.length then ((J0 k (bL.getD ba.toNat []) s1).bind fun x0=>
   bif !x0 then some (.inr false)
   else rec s1 bL bx (zA (ba+1)))
  else none)
 else some (.inl ())
def FD (k:Nat):Nat→Sh
 |0,_,_,_,_=>none
 |n+1,s1,bL,bx,ba=>AI k (FD k n) s1 bL bx ba
def J2 (k:Nat)(a0:EQ)(a1:Int):Option Bool:=
 bif !(decide ((a0.length:Int)=a1)) then some false
 else(FD k k a1 a0 (a0.length:Int) 0).bind fun z=>
 match z with
 |.inl z1=>some true
 |.inr z2=>some z2
abbrev Sp:Type:=(EQ×EQ×Int×Int)⊕Bool
abbrev Sn:Type:=EQ→Int→EQ→Int→Int→AC→Int→Int→Option Sp
def AK (k:Nat)(rec:Sn)(s0:EQ)(s3:Int)(s7:EQ)(s8 s9:Int)(bx:AC)(ba ca:Int):Option Sp:=
 bif decide (ca < ba) then (bif zC ca bx.length then (bif zC ca s0.length then (bif zC s3 (s0.getD ca.toNat []).length then (bif !(decide (((s0.getD ca.toNat []).getD s3.toNat 0)=(zA (0-(bx.getD ca.toNat 0))))) then some (.inr false)
     else rec s0 s3 s7 s8 s9 bx ba (zA (ca+1)))
    else none)
   else none)
  else none)
 else some (.inl (s0,s7,s8,s9))
def AJ (k:Nat):Nat→Sn
 |0,_,_,_,_,_,_,_,_=>none
 |n+1,s0,s3,s7,s8,s9,bx,ba,ca=>AK k (AJ k n) s0 s3 s7 s8 s9 bx ba ca
abbrev Sq:Type:=EQ→EQ→Int→Int→Option (Unit⊕Bool)
def AL (k:Nat)(rec:Sq)(s0 s7:EQ)(s8 s9:Int):Option (Unit⊕Bool):=
 bif decide (s9 < s8) then (bif zC s9 s7.length then ((AJ k k s0 s9 s7 s8 s9 (s7.getD s9.toNat []) ((s7.getD s9.toNat []).length:Int) 0).bind fun z=>
   match z with
   |.inl z1=>rec z1.1 z1.2.1 z1.2.2.1 (zA (z1.2.2.2+1))
   |.inr z2=>some (.inr z2))
  else none)
 else some (.inl ())
def FE (k:Nat):Nat→Sq
 |0,_,_,_,_=>none
 |n+1,s0,s7,s8,s9=>AL k (FE k n) s0 s7 s8 s9
def J3 (k:Nat)(a0:EQ):Option Bool:=
 (FE k k a0 a0 (a0.length:Int) 0).bind fun z3=>
 match z3 with
 |.inl z4=>some true
 |.inr z5=>some z5
def v9 (k:Nat)(aL:List zH)(aY:EQ)(aX:AC)(aT:EQ):Option Bool:=
 bif decide ((aL.length:Int)<1) then some false
 else bif decide ((aL.length:Int)>6) then some false
 else(JX k aL).bind fun x0=>
 bif x0 then some false
 else(J1 k aY (aL.length:Int)).bind fun x1=>
 bif x1 then ((FB k aX (aL.length:Int)).bind fun x2=>
  bif x2 then ((J2 k aT (aL.length:Int)).bind fun x3=>
   bif x3 then ((J3 k aT).bind fun x4=>
    some x4)
   else some false)
  else some false)
 else some false
def R1 (k:Nat)(a0:Int):Option Bool:=
 (yW k a0 0 1048576).bind fun x0=>
 some (!x0)
def Du (k:Nat)(rec:Se)(s0:AC)(s7 s8:Int):Option (Unit⊕Int):=
 bif decide (s8 < s7) then (bif zC s8 s0.length then ((R1 k (s0.getD s8.toNat 0)).bind fun x0=>
   bif x0 then some (.inr s8)
   else rec s0 s7 (zA (s8+1)))
  else none)
 else some (.inl ())
def xy (k:Nat):Nat→Se
 |0,_,_,_=>none
 |n+1,s0,s7,s8=>Du k (xy k n) s0 s7 s8
def R2 (k:Nat)(a0:AC):Option Int:=
 (xy k k a0 (a0.length:Int) 0).bind fun z=>
 match z with
 |.inl z1=>some (-1)
 |.inr z2=>some z2
def HF (k:Nat)(a0:AC):Option Bool:=
 (R2 k a0).bind fun x0=>
 some (decide (x0≥0))
def QT (k:Nat)(a0:Int):Option Bool:=
 bif decide (a0≥0) then some (decide (a0≤10000))
 else some false
def Gx (k:Nat)(a0 a1:Int):Option vY:=
 some ((IntKind.wrap .u64 ((IntKind.wrap .u64 ((IntKind.wrap .u64 ((shr .u64 a0 32)*(shr .u64 a1 32)))+(shr .u64 (IntKind.wrap .u64 ((IntKind.wrap .u64 ((shr .u64 a0 32)*(yA .u64 a1 4294967295)))+(shr .u64 (IntKind.wrap .u64 ((yA .u64 a0 4294967295)*(yA .u64 a1 4294967295))) 32))) 32)))+(shr .u64 (IntKind.wrap .u64 ((yA .u64 (IntKind.wrap .u64 ((IntKind.wrap .u64 ((shr .u64 a0 32)*(yA .u64 a1 4294967295)))+(shr .u64 (IntKind.wrap .u64 ((yA .u64 a0 4294967295)*(yA .u64 a1 4294967295))) 32))) 4294967295)+(IntKind.wrap .u64 ((yA .u64 a0 4294967295)*(shr .u64 a1 32))))) 32))),(IntKind.wrap .u64 (a0*a1)))
def yPs (k:Nat)(a0:Int):Option Int:=
 bif decide (a0 ≥ 4294967296) then (bif decide ((shr .u64 a0 32) ≥ 65536) then (bif decide ((shr .u64 (shr .u64 a0 32) 16) ≥ 256) then (bif zC (IntKind.wrap .u8 ((shr .u64 (shr .u64 (shr .u64 a0 32) 16) 8))) iY.length then some (zA (56+(zA ((iY.getD (IntKind.wrap .u8 ((shr .u64 (shr .u64 (shr .u64 a0 32) 16) 8))).toNat 0)))))
    else none)
   else bif zC (IntKind.wrap .u8 ((shr .u64 (shr .u64 a0 32) 16))) iY.length then some (zA (48+(zA ((iY.getD (IntKind.wrap .u8 ((shr .u64 (shr .u64 a0 32) 16))).toNat 0)))))
   else none)
  else bif decide ((shr .u64 a0 32) ≥ 256) then (bif zC (IntKind.wrap .u8 ((shr .u64 (shr .u64 a0 32) 8))) iY.length then some (zA (40+(zA ((iY.getD (IntKind.wrap .u8 ((shr .u64 (shr .u64 a0 32) 8))).toNat 0)))))
   else none)
  else bif zC (IntKind.wrap .u8 ((shr .u64 a0 32))) iY.length then some (zA (32+(zA ((iY.getD (IntKind.wrap .u8 ((shr .u64 a0 32))).toNat 0)))))
  else none)
 else bif decide (a0 ≥ 65536) then (bif decide ((shr .u64 a0 16) ≥ 256) then (bif zC (IntKind.wrap .u8 ((shr .u64 (shr .u64 a0 16) 8))) iY.length then some (zA (24+(zA ((iY.getD (IntKind.wrap .u8 ((shr .u64 (shr .u64 a0 16) 8))).toNat 0)))))
   else none)
  else bif zC (IntKind.wrap .u8 ((shr .u64 a0 16))) iY.length then some (zA (16+(zA ((iY.getD (IntKind.wrap .u8 ((shr .u64 a0 16))).toNat 0)))))
  else none)
 else bif decide (a0 ≥ 256) then (bif zC (IntKind.wrap .u8 ((shr .u64 a0 8))) iY.length then some (zA (8+(zA ((iY.getD (IntKind.wrap .u8 ((shr .u64 a0 8))).toNat 0)))))
  else none)
 else bif zC (IntKind.wrap .u8 (a0)) iY.length then some (zA (0+(zA ((iY.getD (IntKind.wrap .u8 (a0)).toNat 0)))))
 else none
def qXw (k:Nat)(a0:Int):Option Int:=
 (yPs k a0).bind fun x0=>
 some (zA (64-x0))
abbrev Sx:Type:=Int→Int→Int→Int→Int→Int→Int→Int→Int→Option qP
def yF9 (k:Nat)(rec:Sx)(s2 s8 s9 ao bc bL bx ba ca:Int):Option qP:=
 bif decide (ba ≥ 4294967296) then (bif decide ((IntKind.wrap .u64 (ca+s9))≥4294967296) then some (s2,s8,s9,ao,bc,bL,bx,(IntKind.wrap .u64 (ba-1)))
  else rec s2 s8 s9 ao bc bL bx (IntKind.wrap .u64 (ba-1)) (IntKind.wrap .u64 (ca+s9)))
 else bif decide ((IntKind.wrap .u64 (ba * ao)) > (IntKind.wrap .u64 ((IntKind.wrap .u64 (4294967296 * ca)) + bL))) then (bif decide ((IntKind.wrap .u64 (ca+s9))≥4294967296) then some (s2,s8,s9,ao,bc,bL,bx,(IntKind.wrap .u64 (ba-1)))
  else rec s2 s8 s9 ao bc bL bx (IntKind.wrap .u64 (ba-1)) (IntKind.wrap .u64 (ca+s9)))
 else some (s2,s8,s9,ao,bc,bL,bx,ba)
def Sz (k:Nat):Nat→Sx:=vH (fun _ _ _ _ _ _ _ _ _=>none) (yF9 k)
abbrev SA:Type:=Int→Int→Int→Int→Int→Int→Int→Int→Int→Option Ip
def qU8 (k:Nat)(rec:SA)(s2 s8 s9 ao bx ba ca bm mv:Int):Option Ip:=
 bif decide (mv ≥ 4294967296) then (bif decide ((IntKind.wrap .u64 (ca+s9))≥4294967296) then some (s2,s8,bx,ba,bm,(IntKind.wrap .u64 (mv-1)))
  else rec s2 s8 s9 ao bx ba (IntKind.wrap .u64 (ca+s9)) bm (IntKind.wrap .u64 (mv-1)))
 else bif decide ((IntKind.wrap .u64 (mv * ao)) > (IntKind.wrap .u64 ((IntKind.wrap .u64 (4294967296 * ca)) + bx))) then (bif decide ((IntKind.wrap .u64 (ca+s9))≥4294967296) then some (s2,s8,bx,ba,bm,(IntKind.wrap .u64 (mv-1)))
  else rec s2 s8 s9 ao bx ba (IntKind.wrap .u64 (ca+s9)) bm (IntKind.wrap .u64 (mv-1)))
 else some (s2,s8,bx,ba,bm,mv)
def SC (k:Nat):Nat→SA:=vH (fun _ _ _ _ _ _ _ _ _=>none) (qU8 k)
def KP (k:Nat)(a0 a1 a2:Int):Option vY:=
 bif decide (a2=0) then none
 else bif decide (a2≤a0) then none
 else bif decide (a0 = 0) then (bif !(decide (a2 = 0)) then (bif !(decide (a2=0)) then some ((IntKind.wrap .u64 (Int.tdiv a1 a2)),(Int.tmod a1 a2))
   else none)
  else none)
 else(qXw k a2).bind fun x0=>
 bif !(decide ((IntKind.wrap .u64 (x0)) < 0)) then (bif !(decide ((IntKind.wrap .u64 (x0)) < 0)) then (bif !(decide ((IntKind.wrap .u64 (64 - (IntKind.wrap .u64 (x0)))) < 0)) then (bif !(decide ((IntKind.wrap .u64 (x0)) < 0)) then (bif !(decide ((shr .u64 (shl .u64 a2 (IntKind.wrap .u64 (x0))) 32) = 0)) then ((Sz k k (shl .u64 a2 (IntKind.wrap .u64 (x0))) (IntKind.wrap .u64 (x0)) (shr .u64 (shl .u64 a2 (IntKind.wrap .u64 (x0))) 32) (yA .u64 (shl .u64 a2 (IntKind.wrap .u64 (x0))) 4294967295) (fe .u64 (shl .u64 a0 (IntKind.wrap .u64 (x0))) (shr .u64 a1 (IntKind.wrap .u64 (64-(IntKind.wrap .u64 (x0)))))) (shr .u64 (shl .u64 a1 (IntKind.wrap .u64 (x0))) 32) (yA .u64 (shl .u64 a1 (IntKind.wrap .u64 (x0))) 4294967295) (IntKind.wrap .u64 (Int.tdiv (fe .u64 (shl .u64 a0 (IntKind.wrap .u64 (x0))) (shr .u64 a1 (IntKind.wrap .u64 (64-(IntKind.wrap .u64 (x0)))))) (shr .u64 (shl .u64 a2 (IntKind.wrap .u64 (x0))) 32))) (IntKind.wrap .u64 ((fe .u64 (shl .u64 a0 (IntKind.wrap .u64 (x0))) (shr .u64 a1 (IntKind.wrap .u64 (64-(IntKind.wrap .u64 (x0))))))-(IntKind.wrap .u64 ((IntKind.wrap .u64 (Int.tdiv (fe .u64 (shl .u64 a0 (IntKind.wrap .u64 (x0))) (shr .u64 a1 (IntKind.wrap .u64 (64-(IntKind.wrap .u64 (x0)))))) (shr .u64 (shl .u64 a2 (IntKind.wrap .u64 (x0))) 32)))*(shr .u64 (shl .u64 a2 (IntKind.wrap .u64 (x0))) 32)))))).bind fun z=>
      bif !(decide (z.2.2.1 = 0)) then ((SC k k z.1 z.2.1 z.2.2.1 z.2.2.2.1 z.2.2.2.2.2.2.1 z.2.2.2.2.2.2.2 (IntKind.wrap .u64 ((IntKind.wrap .u64 ((IntKind.wrap .u64 ((IntKind.wrap .u64 (z.2.2.2.2.1*4294967296))+z.2.2.2.2.2.1))-(IntKind.wrap .u64 (z.2.2.2.2.2.2.2*z.1))))-(IntKind.wrap .u64 ((IntKind.wrap .u64 (Int.tdiv (IntKind.wrap .u64 ((IntKind.wrap .u64 ((IntKind.wrap .u64 (z.2.2.2.2.1*4294967296))+z.2.2.2.2.2.1))-(IntKind.wrap .u64 (z.2.2.2.2.2.2.2*z.1)))) z.2.2.1))*z.2.2.1)))) (IntKind.wrap .u64 ((IntKind.wrap .u64 ((IntKind.wrap .u64 (z.2.2.2.2.1*4294967296))+z.2.2.2.2.2.1))-(IntKind.wrap .u64 (z.2.2.2.2.2.2.2*z.1)))) (IntKind.wrap .u64 (Int.tdiv (IntKind.wrap .u64 ((IntKind.wrap .u64 ((IntKind.wrap .u64 (z.2.2.2.2.1*4294967296))+z.2.2.2.2.2.1))-(IntKind.wrap .u64 (z.2.2.2.2.2.2.2*z.1)))) z.2.2.1))).bind fun z1=>
       bif !(decide (z1.2.1<0)) then some ((IntKind.wrap .u64 ((IntKind.wrap .u64 (z1.2.2.2.1*4294967296))+z1.2.2.2.2.2)),(shr .u64 (IntKind.wrap .u64 ((IntKind.wrap .u64 ((IntKind.wrap .u64 (z1.2.2.2.2.1*4294967296))+z1.2.2.1))-(IntKind.wrap .u64 (z1.2.2.2.2.2*z1.1)))) z1.2.1))
       else none)
      else none)
     else none)
    else none)
   else none)
  else none)
 else none
def KQ (k:Nat)(a0 a1 a2:Int):Option wV:=
 bif decide (a0<0) then some (0,false)
 else bif decide (a1<0) then some (0,false)
 else(QT k a2).bind fun x0=>
 bif !x0 then some (0,false)
 else(Gx k (IntKind.wrap .u64 (a0)) (IntKind.wrap .u64 (a1))).bind fun x1=>
 (KP k (Int.tmod x1.1 10000) x1.2 10000).bind fun x2=>
 (Gx k x2.1 (IntKind.wrap .u64 ((zA (10000-a2))))).bind fun x3=>
 (As k x3.2 (IntKind.wrap .u64 (Int.tdiv (IntKind.wrap .u64 (x2.2*(IntKind.wrap .u64 ((zA (10000-a2)))))) 10000)) 0).bind fun x4=>
 bif decide ((IntKind.wrap .u64 (Int.tdiv x1.1 10000)) > 0) then (bif decide ((IntKind.wrap .u64 ((zA (10000-a2))))>0) then some (0,false)
  else bif decide ((IntKind.wrap .u64 (x3.1+x4.2))>0) then some (0,false)
  else bif decide (x4.1>9223372036854775807) then some (0,false)
  else some ((zA (x4.1)),true))
 else bif decide ((IntKind.wrap .u64 (x3.1+x4.2))>0) then some (0,false)
 else bif decide (x4.1>9223372036854775807) then some (0,false)
 else some ((zA (x4.1)),true)
abbrev SF:Type:=Int→Int→AC→Int→Int→Option vY
def BR (k:Nat)(rec:SF)(s4 s5:Int)(s9:AC)(ao bc:Int):Option vY:=
 bif decide (bc < ao) then (bif zC bc s9.length then ((As k s5 (IntKind.wrap .u64 ((s9.getD bc.toNat 0))) 0).bind fun x0=>
   rec (zA (s4+(zA ((shr .i64 (s9.getD bc.toNat 0) 63)+(zA (x0.2)))))) x0.1 s9 ao (zA (bc+1)))
  else none)
 else some (s4,s5)
def BQ (k:Nat):Nat→SF
 |0,_,_,_,_,_=>none
 |n+1,s4,s5,s9,ao,bc=>BR k (BQ k n) s4 s5 s9 ao bc
def BP (k:Nat)(a0:AC):Option wV:=
 (BQ k k 0 0 a0 (a0.length:Int) 0).bind fun z=>
 bif !(decide (z.1=(shr .i64 (zA (z.2)) 63))) then some (0,false)
 else some ((zA (z.2)),true)
abbrev SH:Type:=AC→AC→List vY→Int→Int→AC→Option (AC⊕wV)
def BU (k:Nat)(rec:SH)(s1 s2:AC)(gW:List vY)(aR ee:Int)(r0:AC):Option (AC⊕wV):=
 bif decide (ee < aR) then (bif zC ee gW.length then (bif zC ee s1.length then (bif zC ee s2.length then ((KQ k (s1.getD ee.toNat 0) (s2.getD ee.toNat 0) (gW.getD ee.toNat (0,0)).2).bind fun x0=>
     bif !x0.2 then some (.inr (0,false))
     else bif zR (r0.length+1) 8 then(rec s1 s2 gW aR (zA (ee+1)) (r0++[x0.1]))
     else none)
    else none)
   else none)
  else none)
 else some (.inl r0)
def BS (k:Nat):Nat→SH:=vH (fun _ _ _ _ _ _=>none) (BU k)
def oE (k:Nat)(a0:List vY)(a1 a2:AC):Option wV:=
 bif !(decide ((a1.length:Int)=(a0.length:Int))) then some (0,false)
 else bif !(decide ((a2.length:Int)=(a0.length:Int))) then some (0,false)
 else(BS k k a1 a2 a0 (a0.length:Int) 0 []).bind fun z=>
 match z with
 |.inl z1=>(BP k z1).bind fun x1=>
  some (x1.1,x1.2)
 |.inr z2=>some (z2.1,z2.2)
def R3 (k:Nat)(a0:Int):Option Bool:=
 some (decide (a0>1099511627776))
def Dv (k:Nat)(rec:Se)(s0:AC)(s7 s8:Int):Option (Unit⊕Int):=
 bif decide (s8 < s7) then (bif zC s8 s0.length then ((R3 k (s0.getD s8.toNat 0)).bind fun x0=>
   bif x0 then some (.inr s8)
   else rec s0 s7 (zA (s8+1)))
  else none)
 else some (.inl ())
def xz (k:Nat):Nat→Se
 |0,_,_,_=>none
 |n+1,s0,s7,s8=>Dv k (xz k n) s0 s7 s8
def R4 (k:Nat)(a0:AC):Option Int:=
 (xz k k a0 (a0.length:Int) 0).bind fun z=>
 match z with
 |.inl z1=>some (-1)
 |.inr z2=>some z2
def LZ (k:Nat)(a0:AC):Option Bool:=
 (R4 k a0).bind fun x0=>
 some (decide (x0≥0))
abbrev SM:Type:=EQ→Int→Int→yI→yN→Option (Unit⊕Bool)
def Dw (k:Nat)(rec:SM)(iZ:EQ)(eg kh:Int)(b0:yI)(b1:yN):Option (Unit⊕Bool):=
 bif decide (kh < eg) then (bif zC kh iZ.length then ((oE k b0.2.1 b1.2.2.2.2.2.1 (iZ.getD kh.toNat [])).bind fun x1=>
   bif !x1.2 then some (.inr false)
   else bif decide (x1.1>1152921504606846976) then some (.inr false)
   else bif zC kh b1.2.1.length then (bif !(decide (x1.1=(b1.2.1.getD kh.toNat (0,0,0)).2.1)) then some (.inr false)
    else(LZ k (iZ.getD kh.toNat [])).bind fun x2=>
    bif x2 then some (.inr false)
    else rec iZ eg (zA (kh+1)) b0 b1)
   else none)
  else none)
 else some (.inl ())
def tO (k:Nat):Nat→SM:=vH (fun _ _ _ _ _=>none) (Dw k)
def HG (k:Nat)(a0:yI)(a1:yN):Option Bool:=
 bif !(decide ((a1.2.2.2.2.2.1.length:Int)=(a0.2.1.length:Int))) then some false
 else bif !(decide ((a1.2.2.2.2.2.2.1.length:Int)=a0.1)) then some false
 else(HF k a1.2.2.2.2.2.1).bind fun x0=>
 bif x0 then some false
 else(tO k k a1.2.2.2.2.2.2.1 (a1.2.2.2.2.2.2.1.length:Int) 0 a0 a1).bind fun z=>
 match z with
 |.inl z1=>some true
 |.inr z2=>some z2
def QJ (k:Nat)(bU aq bq aB az aI aN a1:Int):Option Bool:=
 some (decide (bU=a1))
abbrev SO:Type:=List zB→Int→Int→Int→Option (Unit⊕Int)
def BE (k:Nat)(rec:SO)(s0:List zB)(s7 s8 aa:Int):Option (Unit⊕Int):=
 bif decide (s8 < s7) then (bif zC s8 s0.length then ((QJ k (s0.getD s8.toNat (0,0,0,0,0,0,0)).1 (s0.getD s8.toNat (0,0,0,0,0,0,0)).2.1 (s0.getD s8.toNat (0,0,0,0,0,0,0)).2.2.1 (s0.getD s8.toNat (0,0,0,0,0,0,0)).2.2.2.1 (s0.getD s8.toNat (0,0,0,0,0,0,0)).2.2.2.2.1 (s0.getD s8.toNat (0,0,0,0,0,0,0)).2.2.2.2.2.1 (s0.getD s8.toNat (0,0,0,0,0,0,0)).2.2.2.2.2.2 aa).bind fun x0=>
   bif x0 then some (.inr s8)
   else rec s0 s7 (zA (s8+1)) aa)
  else none)
 else some (.inl ())
def BD (k:Nat):Nat→SO
 |0,_,_,_,_=>none
 |n+1,s0,s7,s8,aa=>BE k (BD k n) s0 s7 s8 aa
def QK (k:Nat)(a0:List zB)(cH:Int):Option Int:=
 (BD k k a0 (a0.length:Int) 0 cH).bind fun z=>
 match z with
 |.inl z1=>some (-1)
 |.inr z2=>some z2
def me (k:Nat)(a0:List zB)(a1:Int):Option Int:=
 (QK k a0 a1).bind fun x0=>
 some x0
def KG (k:Nat)(a0:Int):Option Bool:=
 some (!(decide (a0=a0)))
def Gp (k:Nat)(a0 a1:Int):Option Int:=
 (KG k a0).bind fun x0=>
 (KG k a1).bind fun x1=>
 bif x0 then (bif x1 then some 0
  else some (-1))
 else bif x1 then some 1
 else bif decide (a0<a1) then some (-1)
 else bif decide (a0>a1) then some 1
 else some 0
abbrev SQ:Type:=Int→AC→Int→Int→Option (Int⊕Int)
def yJy (k:Nat)(rec:SQ)(s3:Int)(s6:AC)(s7 s8:Int):Option (Int⊕Int):=
 bif decide (s8 < s7) then (bif zC s8 s6.length then (bif !(decide ((s6.getD s8.toNat 0)=s3)) then some (.inr (s6.getD s8.toNat 0))
   else rec s3 s6 s7 (zA (s8+1)))
  else none)
 else some (.inl s3)
def Gn (k:Nat):Nat→SQ
 |0,_,_,_,_=>none
 |n+1,s3,s6,s7,s8=>yJy k (Gn k n) s3 s6 s7 s8
def KF (k:Nat)(a0:AC):Option Int:=
 (Gn k k 0 a0 (a0.length:Int) 0).bind fun z=>
 match z with
 |.inl z1=>some z1
 |.inr z2=>some z2
def BF (k:Nat)(bU aq bq aB az aI aN oT gj kf lF kg rA rC:Int):Option Int:=
 (Gp k aq gj).bind fun x0=>
 (Gp k az kg).bind fun x1=>
 (KF k [x0,x1]).bind fun x2=>
 some x2
abbrev SS:Type:=List zB→Int→Option (Unit⊕Bool)
def LW (k:Nat)(rec:SS)(s0:List zB)(s5:Int):Option (Unit⊕Bool):=
 bif decide (s5 > 0) then (bif zC s5 s0.length then (bif zC (zA (s5 - 1)) s0.length then ((BF k (s0.getD s5.toNat (0,0,0,0,0,0,0)).1 (s0.getD s5.toNat (0,0,0,0,0,0,0)).2.1 (s0.getD s5.toNat (0,0,0,0,0,0,0)).2.2.1 (s0.getD s5.toNat (0,0,0,0,0,0,0)).2.2.2.1 (s0.getD s5.toNat (0,0,0,0,0,0,0)).2.2.2.2.1 (s0.getD s5.toNat (0,0,0,0,0,0,0)).2.2.2.2.2.1 (s0.getD s5.toNat (0,0,0,0,0,0,0)).2.2.2.2.2.2 (s0.getD (zA (s5-1)).toNat (0,0,0,0,0,0,0)).1 (s0.getD (zA (s5-1)).toNat (0,0,0,0,0,0,0)).2.1 (s0.getD (zA (s5-1)).toNat (0,0,0,0,0,0,0)).2.2.1 (s0.getD (zA (s5-1)).toNat (0,0,0,0,0,0,0)).2.2.2.1 (s0.getD (zA (s5-1)).toNat (0,0,0,0,0,0,0)).2.2.2.2.1 (s0.getD (zA (s5-1)).toNat (0,0,0,0,0,0,0)).2.2.2.2.2.1 (s0.getD (zA (s5-1)).toNat (0,0,0,0,0,0,0)).2.2.2.2.2.2).bind fun x0=>
    bif decide (x0<0) then some (.inr false)
    else rec s0 (zA (s5-1)))
   else none)
  else none)
 else some (.inl ())
def HA (k:Nat):Nat→SS:=vH (fun _ _=>none) (LW k)
def LV (k:Nat)(a0:List zB):Option Bool:=
 (HA k k a0 (zA ((a0.length:Int)-1))).bind fun z=>
 match z with
 |.inl z1=>some true
 |.inr z2=>some z2
abbrev SY:Type:=(List zB)⊕Bool
abbrev SW:Type:=List zB→List zB→Int→Int→Option SY
def Dr (k:Nat)(rec:SW)(s0 s5:List zB)(s6 s7:Int):Option SY:=
 bif decide (s7 < s6) then (bif zC s7 s5.length then ((me k s0 (s5.getD s7.toNat (0,0,0,0,0,0,0)).1).bind fun x0=>
   bif !(decide (x0=s7)) then some (.inr false)
   else rec s0 s5 s6 (zA (s7+1)))
  else none)
 else some (.inl s0)
def xw (k:Nat):Nat→SW
 |0,_,_,_,_=>none
 |n+1,s0,s5,s6,s7=>Dr k (xw k n) s0 s5 s6 s7
def Hz (k:Nat)(a0:List zB):Option Bool:=
 (xw k k a0 a0 (a0.length:Int) 0).bind fun z=>
 match z with
 | .inl z1 => bif decide ((z1.length : Int) ≤ 40) then ((LV k z1).bind fun x1=>
   some x1)
  else some false
 |.inr z2=>some z2
abbrev SZ:Type:=AC→Int→AC→Int→Int→Option (AC⊕Bool)
def Ds (k:Nat)(rec:SZ)(s0:AC)(s3:Int)(s6:AC)(s7 s8:Int):Option (AC⊕Bool):=
 bif decide (s8 < s7) then (bif zC s8 s6.length then (bif decide ((s6.getD s8.toNat 0)≤s3) then some (.inr false)
   else rec s0 (s6.getD s8.toNat 0) s6 s7 (zA (s8+1)))
  else none)
 else some (.inl s0)
def HC (k:Nat):Nat→SZ:=vH (fun _ _ _ _ _=>none) (Ds k)
def HB (k:Nat)(a0:AC):Option Bool:=
 (HC k k a0 0 a0 (a0.length:Int) 0).bind fun z=>
 match z with
 |.inl z1=>some (decide ((z1.length:Int)≤200))
 |.inr z2=>some z2
def AR (k:Nat)(aL:List zH)(aY:EQ)(aX:AC)(aT:EQ)(oT gj kf lF kg rA rC:Int):Option Bool:=
 bif decide (gj ≥ 0) then (bif decide (gj < (aL.length : Int)) then (bif decide (kf ≥ 0) then (bif decide (kf < (aL.length : Int)) then (bif !(decide (gj = kf)) then (bif decide (lF ≥ 1) then (bif decide (lF ≤ 1099511627776) then (bif decide (kg≥1) then some (decide (kg≤3))
        else some false)
       else some false)
      else some false)
     else some false)
    else some false)
   else some false)
  else some false)
 else some false
def KJ (k:Nat)(a0:Int):Option Bool:=
 some (!(decide (a0=a0)))
def KI (k:Nat)(a0 a1:Int):Option Bool:=
 (KJ k a0).bind fun x0=>
 bif x0 then ((KJ k a1).bind fun x1=>
  bif !x1 then some true
  else some (decide (a0<a1)))
 else some (decide (a0<a1))
def KL (k:Nat)(a0:Int):Option Bool:=
 some (!(decide (a0=a0)))
abbrev S4:Type:=AC×Int×Int×Int
abbrev S2:Type:=AC→Int→Int→Int→Int→Option S4
def KK (k:Nat)(rec:S2)(s0:AC)(s1 s6 s7 s8:Int):Option S4:=
 bif decide (s7 < s8) then (bif zC (zA ((shr .u64 (IntKind.wrap .u64 ((zA (s7 + s8)))) 1))) s0.length then ((KI k (s0.getD (zA ((shr .u64 (IntKind.wrap .u64 ((zA (s7+s8)))) 1))).toNat 0) s1).bind fun x0=>
   bif x0 then(rec s0 s1 s6 (zA ((zA ((shr .u64 (IntKind.wrap .u64 ((zA (s7+s8)))) 1)))+1)) s8)
   else rec s0 s1 s6 s7 (zA ((shr .u64 (IntKind.wrap .u64 ((zA (s7+s8)))) 1))))
  else none)
 else some (s0,s1,s6,s7)
def Gw (k:Nat):Nat→S2:=vH (fun _ _ _ _ _=>none) (KK k)
def BN (k:Nat)(a0:AC)(a1:Int):Option wV:=
 (Gw k k a0 a1 (a0.length:Int) 0 (a0.length:Int)).bind fun z=>
 bif decide (z.2.2.2 < z.2.2.1) then (bif zC z.2.2.2 z.1.length then (bif decide ((z.1.getD z.2.2.2.toNat 0)=z.2.1) then some (z.2.2.2,true)
   else bif zC z.2.2.2 z.1.length then ((KL k (z.1.getD z.2.2.2.toNat 0)).bind fun x1=>
    bif x1 then ((KL k z.2.1).bind fun x2=>
     some (z.2.2.2,x2))
    else some (z.2.2.2,false))
   else none)
  else none)
 else some (z.2.2.2,false)
def KM (k:Nat)(a0:AC)(a1:Int):Option Bool:=
 (BN k a0 a1).bind fun x0=>
 some x0.2
def LY (k:Nat)(a0:zB)(a1:yN):Option Bool:=
 (AR k a1.2.1 a1.2.2.1 a1.2.2.2.1 a1.2.2.2.2.1 a0.1 a0.2.1 a0.2.2.1 a0.2.2.2.1 a0.2.2.2.2.1 a0.2.2.2.2.2.1 a0.2.2.2.2.2.2).bind fun x0=>
 bif !x0 then some true
 else bif decide (a0.2.2.2.2.2.1<0) then some true
 else(yW k a0.2.2.2.2.2.2 a0.2.2.2.2.2.1 1048576).bind fun x1=>
 bif !x1 then some true
 else(KM k a1.2.2.2.2.2.2.2.2.1 a0.1).bind fun x2=>
 some (!x2)
abbrev S5:Type:=List zB→Int→Int→Int→List zH→EQ→AC→EQ→AC→EQ→List zB→AC→Int→Bool→Option (Unit⊕Int)
def Dt (k:Nat)(rec:S5)(s0:List zB)(s7 s8 aa:Int)(ae:List zH)(af:EQ)(ab:AC)(aV:EQ)(bg:AC)(bh:EQ)(dv:List zB)(dw:AC)(dy:Int)(bR:Bool):Option (Unit⊕Int):=
 bif decide (s8 < s7) then (bif zC s8 s0.length then ((LY k (s0.getD s8.toNat (0,0,0,0,0,0,0)) (aa,ae,af,ab,aV,bg,bh,dv,dw,dy,bR)).bind fun x0=>
   bif x0 then some (.inr s8)
   else rec s0 s7 (zA (s8+1)) aa ae af ab aV bg bh dv dw dy bR)
  else none)
 else some (.inl ())
def xx (k:Nat):Nat→S5
 |0,_,_,_,_,_,_,_,_,_,_,_,_,_,_=>none
 |n+1,s0,s7,s8,aa,ae,af,ab,aV,bg,bh,dv,dw,dy,bR=>Dt k (xx k n) s0 s7 s8 aa ae af ab aV bg bh dv dw dy bR
def R0 (k:Nat)(a0:List zB)(ez:Int)(bM:List zH)(cd:EQ)(cf:AC)(cg:EQ)(cV:AC)(dH:EQ)(eA:List zB)(gk:AC)(dI:Int)(eC:Bool):Option Int:=
 (xx k k a0 (a0.length:Int) 0 ez bM cd cf cg cV dH eA gk dI eC).bind fun z=>
 match z with
 |.inl z1=>some (-1)
 |.inr z2=>some z2
def LX (k:Nat)(a0:List zB)(ez:Int)(bM:List zH)(cd:EQ)(cf:AC)(cg:EQ)(cV:AC)(dH:EQ)(eA:List zB)(gk:AC)(dI:Int)(eC:Bool):Option Bool:=
 (R0 k a0 ez bM cd cf cg cV dH eA gk dI eC).bind fun x0=>
 some (decide (x0≥0))
def HD (k:Nat)(a0:yN):Option Bool:=
 (Hz k a0.2.2.2.2.2.2.2.1).bind fun x0=>
 bif x0 then ((HB k a0.2.2.2.2.2.2.2.2.1).bind fun x1=>
  bif x1 then ((LX k a0.2.2.2.2.2.2.2.1 a0.1 a0.2.1 a0.2.2.1 a0.2.2.2.1 a0.2.2.2.2.1 a0.2.2.2.2.2.1 a0.2.2.2.2.2.2.1 a0.2.2.2.2.2.2.2.1 a0.2.2.2.2.2.2.2.2.1 a0.2.2.2.2.2.2.2.2.2.1 a0.2.2.2.2.2.2.2.2.2.2).bind fun x2=>
   some (!x2))
  else some false)
 else some false
def xa (k:Nat)(cO:Int)(dz:List vY)(dA cP bV a1:Int):Option Bool:=
 some (decide (a1=cP))
abbrev S9:Type:=yI×yN×AC
abbrev S7:Type:=List zH→Int→Int→yI→yN→AC→Option S9
def Dy (k:Nat)(rec:S7)(lG:List zH)(s45 M8:Int)(b0:yI)(b1:yN)(r2:AC):Option S9:=
 bif decide (M8 < s45) then (bif zC M8 lG.length then (bif zR (r2.length+1) 8 then(rec lG s45 (zA (M8+1)) b0 b1 (r2++[(lG.getD M8.toNat (0,0,0)).1]))
   else none)
  else none)
 else some (b0,b1,r2)
def Dx (k:Nat):Nat→S7:=vH (fun _ _ _ _ _ _=>none) (Dy k)
def L1 (k:Nat)(a0:yI)(a1:yN):Option Bool:=
 (yW k a1.1 0 a0.2.2.2.1).bind fun x0=>
 bif !x0 then some false
 else(v9 k a1.2.1 a1.2.2.1 a1.2.2.2.1 a1.2.2.2.2.1).bind fun x1=>
 bif !x1 then some false
 else bif !(decide ((a1.2.1.length:Int)=a0.1)) then some false
 else(HG k a0 a1).bind fun x2=>
 bif !x2 then some false
 else(HD k a1).bind fun x3=>
 bif !x3 then some false
 else(Dx k k a1.2.1 (a1.2.1.length:Int) 0 a0 a1 []).bind fun z=>
 (BP k z.2.2).bind fun x4=>
 bif !x4.2 then some false
 else bif !(decide (x4.1=z.2.1.2.2.2.2.2.2.2.2.2.1)) then some false
 else(yW k x4.1 0 1152921504606846976).bind fun x5=>
 bif !x5 then some false
 else(xa k z.1.1 z.1.2.1 z.1.2.2.1 z.1.2.2.2.1 z.1.2.2.2.2 z.2.1.1).bind fun x6=>
 bif gY z.2.1.2.2.2.2.2.2.2.2.2.2 x6 then (bif !z.2.1.2.2.2.2.2.2.2.2.2.2 then some true
  else some (decide ((z.2.1.2.2.2.2.2.2.2.1.length:Int)=0)))
 else some false
abbrev Ta:Type:=EQ→Int→Int→Option (Unit⊕Bool)
def Aw (k:Nat)(rec:Ta)(s0:EQ)(s1 s5:Int):Option (Unit⊕Bool):=
 bif decide (s5 < s1) then (bif zC s5 s0.length then (bif !(decide (((s0.getD s5.toNat []).length:Int)=s1)) then some (.inr false)
   else rec s0 s1 (zA (s5+1)))
  else none)
 else some (.inl ())
def Fx (k:Nat):Nat→Ta
 |0,_,_,_=>none
 |n+1,s0,s1,s5=>Aw k (Fx k n) s0 s1 s5
def Fw (k:Nat)(a0:EQ)(a1:Int):Option Bool:=
 bif !(decide ((a0.length:Int)=a1)) then some false
 else(Fx k k a0 a1 0).bind fun z=>
 match z with
 |.inl z1=>some true
 |.inr z2=>some z2
def Fu (k:Nat)(bn bz aP:Int):Option Bool:=
 bif decide (bn > (-4611686018427387904)) then (bif decide (bn < 4611686018427387904) then (bif decide (bz ≥ 0) then (bif decide (bz ≤ 2305843009213693952) then (bif decide (aP≥0) then some (decide (aP≤2305843009213693952))
     else some false)
    else some false)
   else some false)
  else some false)
 else some false
def Fv (k:Nat)(a0:Int):Option Bool:=
 bif decide (a0≥(-1)) then some (decide (a0≤2305843009213693952))
 else some false
abbrev Tg:Type:=(Int×Int×(List zH)×EQ×AC×EQ)⊕Bool
abbrev Te:Type:=Int→Int→Int→List zH→EQ→AC→EQ→Option Tg
def Ay (k:Nat)(rec:Te)(s3 s4 s5:Int)(aa:List zH)(ae:EQ)(af:AC)(ab:EQ):Option Tg:=
 bif decide (s5 < s3) then (bif zC s4 ae.length then (bif zC s5 (ae.getD s4.toNat []).length then ((Fv k ((ae.getD s4.toNat []).getD s5.toNat 0)).bind fun x4=>
    bif !x4 then some (.inr false)
    else bif zC s4 ab.length then (bif zC s5 (ab.getD s4.toNat []).length then (bif decide (((ab.getD s4.toNat []).getD s5.toNat 0)≤(-72057594037927936)) then some (.inr false)
      else bif zC s4 ab.length then (bif zC s5 (ab.getD s4.toNat []).length then (bif decide (((ab.getD s4.toNat []).getD s5.toNat 0)≥72057594037927936) then some (.inr false)
        else bif zC s4 ab.length then (bif zC s5 (ab.getD s4.toNat []).length then (bif zC s5 ab.length then (bif zC s4 (ab.getD s5.toNat []).length then (bif !(decide (((ab.getD s4.toNat []).getD s5.toNat 0)=(zA (0-((ab.getD s5.toNat []).getD s4.toNat 0))))) then some (.inr false)
            else rec s3 s4 (zA (s5+1)) aa ae af ab)
           else none)
          else none)
         else none)
        else none)
       else none)
      else none)
     else none)
    else none)
   else none)
  else none)
 else some (.inl (s3,s4,aa,ae,af,ab))
def Ax (k:Nat):Nat→Te
 |0,_,_,_,_,_,_,_=>none
 |n+1,s3,s4,s5,aa,ae,af,ab=>Ay k (Ax k n) s3 s4 s5 aa ae af ab
abbrev Th:Type:=Int→Int→List zH→EQ→AC→EQ→Option (Unit⊕Bool)
def AA (k:Nat)(rec:Th)(s3 s4:Int)(aa:List zH)(ae:EQ)(af:AC)(ab:EQ):Option (Unit⊕Bool):=
 bif decide (s4 < s3) then (bif zC s4 aa.length then ((Fu k (aa.getD s4.toNat (0,0,0)).1 (aa.getD s4.toNat (0,0,0)).2.1 (aa.getD s4.toNat (0,0,0)).2.2).bind fun x2=>
   bif !x2 then some (.inr false)
   else bif zC s4 af.length then ((Fv k (af.getD s4.toNat 0)).bind fun x3=>
    bif !x3 then some (.inr false)
    else(Ax k k s3 s4 0 aa ae af ab).bind fun z=>
    match z with
    |.inl z1=>rec z1.1 (zA (z1.2.1+1)) z1.2.2.1 z1.2.2.2.1 z1.2.2.2.2.1 z1.2.2.2.2.2
    |.inr z2=>some (.inr z2))
   else none)
  else none)
 else some (.inl ())
def Az (k:Nat):Nat→Th
 |0,_,_,_,_,_,_=>none
 |n+1,s3,s4,aa,ae,af,ab=>AA k (Az k n) s3 s4 aa ae af ab
def AB (k:Nat)(aL:List zH)(aY:EQ)(aX:AC)(aT:EQ):Option Bool:=
 bif decide ((aL.length:Int)<1) then some false
 else bif decide ((aL.length:Int)>6) then some false
 else(Fw k aY (aL.length:Int)).bind fun x0=>
 bif !x0 then some false
 else(Fw k aT (aL.length:Int)).bind fun x1=>
 bif !x1 then some false
 else bif !(decide ((aX.length:Int)=(aL.length:Int))) then some false
 else(Az k k (aL.length:Int) 0 aL aY aX aT).bind fun z3=>
 match z3 with
 |.inl z4=>some true
 |.inr z5=>some z5
def Lk (k:Nat)(a0:Int):Option AC:=
 some [(yA .i64 a0 65535),(yA .i64 (shr .i64 a0 16) 65535),(yA .i64 (shr .i64 a0 32) 65535),(yA .i64 (shr .i64 a0 48) 65535)]
def yNg (k:Nat)(rec:Int→AC→Option AC)(s3:Int)(r0:AC):Option AC:=
 bif decide ((zA (s3 + 1)) < (r0.length : Int)) then (bif zC (zA (s3 + 1)) r0.length then (bif zC s3 r0.length then (bif zC (zA (s3 + 1)) r0.length then (let y0:AC:=(r0.set (zA (s3+1)).toNat (zA ((r0.getD (zA (s3+1)).toNat 0)+(shr .i64 (r0.getD s3.toNat 0) 16))))
     bif zC s3 y0.length then (bif zC s3 y0.length then(rec (zA (s3+1)) (y0.set s3.toNat (yA .i64 (y0.getD s3.toNat 0) 65535)))
      else none)
     else none)
    else none)
   else none)
  else none)
 else some r0
def Tm (k:Nat):Nat→Int→AC→Option AC:=vH (fun _ _=>none) (yNg k)
def CA (k:Nat)(a0:AC):Option AC:=
 (Tm k k 0 a0).bind fun z=>
 some z
abbrev Tp:Type:=Int×Int×AC×AC
abbrev Tn:Type:=Int→Int→Int→AC→AC→Option Tp
def yAk (k:Nat)(rec:Tn)(s1 s7 s8:Int)(r0 r1:AC):Option Tp:=
 bif decide (s8 < 4) then (bif !(decide ((IntKind.wrap .u64 ((zA (16 * s8)))) < 0)) then (bif zC (zA (s7 + s8)) r1.length then (bif zC s7 r0.length then (bif zC (zA (s7 + s8)) r1.length then (let y0:AC:=(r1.set (zA (s7+s8)).toNat (zA ((r1.getD (zA (s7+s8)).toNat 0)+(zA ((r0.getD s7.toNat 0)*(yA .i64 (shr .i64 s1 (IntKind.wrap .u64 ((zA (16*s8))))) 65535))))))
      rec s1 s7 (zA (s8+1)) r0 y0)
     else none)
    else none)
   else none)
  else none)
 else some (s1,s7,r0,r1)
def Tq (k:Nat):Nat→Tn:=vH (fun _ _ _ _ _=>none) (yAk k)
abbrev Ts:Type:=Int→Int→AC→AC→Option AC
def yMy (k:Nat)(rec:Ts)(s1 s7:Int)(r0 r1:AC):Option AC:=
 bif decide (s7 < 4) then ((Tq k k s1 s7 0 r0 r1).bind fun z=>
  rec z.1 (zA (z.2.1+1)) z.2.2.1 z.2.2.2)
 else some r1
def Lh (k:Nat):Nat→Ts:=vH (fun _ _ _ _=>none) (yMy k)
def Lj (k:Nat)(a0 a1:Int):Option AC:=
 (Lk k a0).bind fun x0=>
 (Lh k k a1 0 x0 [0,0,0,0,0,0,0,0,0]).bind fun z1=>
 (CA k z1).bind fun x1=>
 some x1
def yHb (k:Nat)(rec:Int→Int→AC→Option AC)(s1 s5:Int)(r0:AC):Option AC:=
 bif decide (s5 < (r0.length : Int)) then (bif zC s5 r0.length then (bif zC s5 r0.length then(rec s1 (zA (s5+1)) (r0.set s5.toNat (zA ((r0.getD s5.toNat 0)*s1))))
   else none)
  else none)
 else some r0
def Lf (k:Nat):Nat→Int→Int→AC→Option AC:=vH (fun _ _ _=>none) (yHb k)
def Le (k:Nat)(a0:AC)(a1:Int):Option AC:=
 (Lf k k a1 0 a0).bind fun z=>
 (CA k z).bind fun x0=>
 some x0
abbrev Tw:Type:=Int→Int→Int→AC→Option AC
def qYz (k:Nat)(rec:Tw)(s1 s6 s7:Int)(r0:AC):Option AC:=
 bif decide (s7 ≥ 0) then (bif zC s7 r0.length then (bif !(decide (s1 = 0)) then (bif zC s7 r0.length then (let y0:AC:=(r0.set s7.toNat (zA (Int.tdiv (zA ((shl .i64 s6 16)+(r0.getD s7.toNat 0))) s1)))
     bif !(decide (s1=0)) then(rec s1 (Int.tmod (zA ((shl .i64 s6 16)+(r0.getD s7.toNat 0))) s1) (zA (s7-1)) y0)
     else none)
    else none)
   else none)
  else none)
 else some r0
def G0 (k:Nat):Nat→Tw:=vH (fun _ _ _ _=>none) (qYz k)
abbrev Tx:Type:=Int→AC→Option (AC⊕wV)
def qV0 (k:Nat)(rec:Tx)(s9:Int)(r0:AC):Option (AC⊕wV):=
 bif decide (s9 < (r0.length : Int)) then (bif zC s9 r0.length then (bif !(decide ((r0.getD s9.toNat 0)=0)) then some (.inr (0,false))
   else rec (zA (s9+1)) r0)
  else none)
 else some (.inl r0)
def CB (k:Nat):Nat→Tx:=vH (fun _ _=>none) (qV0 k)
def Lg (k:Nat)(a0:AC)(a1:Int):Option wV:=
 (G0 k k a1 0 (zA ((a0.length:Int)-1)) a0).bind fun z=>
 (CB k k 4 z).bind fun z1=>
 match z1 with
 | .inl z2 => bif zC 3 z2.length then (bif decide ((z2.getD 3 0)≥32768) then some (0,false)
   else bif zC 3 z2.length then (bif zC 2 z2.length then (bif zC 1 z2.length then (bif zC 0 z2.length then some ((fe .i64 (fe .i64 (fe .i64 (shl .i64 (z2.getD 3 0) 48) (shl .i64 (z2.getD 2 0) 32)) (shl .i64 (z2.getD 1 0) 16)) (z2.getD 0 0)),true)
      else none)
     else none)
    else none)
   else none)
  else none
 |.inr z3=>some (z3.1,z3.2)
def Lr (k:Nat)(a0 a1 a2:Int):Option wV:=
 bif decide (a0<0) then some (0,false)
 else bif decide (a1<0) then some (0,false)
 else bif decide (a2<0) then some (0,false)
 else bif decide (a2>10000) then some (0,false)
 else(Lj k a0 a1).bind fun x0=>
 (Le k x0 (zA (10000-a2))).bind fun x1=>
 (Lg k x1 10000).bind fun x2=>
 some (x2.1,x2.2)
def CE (k:Nat)(a0 a1:Int):Option wV:=
 bif decide (a1 > 0) then (bif decide (a0>(zA (9223372036854775807-a1))) then some (0,false)
  else bif decide (a1 < 0) then (bif decide (a0<(zA ((-9223372036854775808)-a1))) then some (0,false)
   else some ((zA (a0+a1)),true))
  else some ((zA (a0+a1)),true))
 else bif decide (a1 < 0) then (bif decide (a0<(zA ((-9223372036854775808)-a1))) then some (0,false)
  else some ((zA (a0+a1)),true))
 else some ((zA (a0+a1)),true)
abbrev TB:Type:=List vY→AC→AC→Int→Int→Option (Int⊕wV)
def CF (k:Nat)(rec:TB)(s0:List vY)(s1 s2:AC)(s8 s9:Int):Option (Int⊕wV):=
 bif decide (s9 < (s0.length : Int)) then (bif zC s9 s1.length then (bif zC s9 s2.length then (bif zC s9 s0.length then ((Lr k (s1.getD s9.toNat 0) (s2.getD s9.toNat 0) (s0.getD s9.toNat (0,0)).2).bind fun x0=>
     (CE k s8 x0.1).bind fun x1=>
     bif !x0.2 then some (.inr (0,false))
     else bif !x1.2 then some (.inr (0,false))
     else rec s0 s1 s2 x1.1 (zA (s9+1)))
    else none)
   else none)
  else none)
 else some (.inl s8)
def G4 (k:Nat):Nat→TB:=vH (fun _ _ _ _ _=>none) (CF k)
def tF (k:Nat)(a0:List vY)(a1 a2:AC):Option wV:=
 bif !(decide ((a1.length:Int)=(a0.length:Int))) then some (0,false)
 else bif !(decide ((a2.length:Int)=(a0.length:Int))) then some (0,false)
 else(G4 k k a0 a1 a2 0 0).bind fun z=>
 match z with
 |.inl z1=>some (z1,true)
 |.inr z2=>some (z2.1,z2.2)
abbrev TE:Type:=(yI×yN)⊕Bool
abbrev TD:Type:=Int→yI→yN→Option TE
def DK (k:Nat)(rec:TD)(s5:Int)(b0:yI)(b1:yN):Option TE:=
 bif decide (s5 < (b1.2.2.2.2.2.1.length : Int)) then (bif zC s5 b1.2.2.2.2.2.1.length then (bif decide ((b1.2.2.2.2.2.1.getD s5.toNat 0)<0) then some (.inr false)
   else bif zC s5 b1.2.2.2.2.2.1.length then (bif decide ((b1.2.2.2.2.2.1.getD s5.toNat 0)>1048576) then some (.inr false)
    else rec (zA (s5+1)) b0 b1)
   else none)
  else none)
 else some (.inl (b0,b1))
def tS (k:Nat):Nat→TD:=vH (fun _ _ _=>none) (DK k)
abbrev TH:Type:=(Int×yI×yN)⊕Bool
abbrev TF:Type:=Int→Int→yI→yN→Option TH
def DL (k:Nat)(rec:TF)(s6 s7:Int)(b0:yI)(b1:yN):Option TH:=
 bif zC s6 b1.2.2.2.2.2.2.1.length then (bif decide (s7 < ((b1.2.2.2.2.2.2.1.getD s6.toNat []).length : Int)) then (bif zC s6 b1.2.2.2.2.2.2.1.length then (bif zC s7 (b1.2.2.2.2.2.2.1.getD s6.toNat []).length then (bif decide (((b1.2.2.2.2.2.2.1.getD s6.toNat []).getD s7.toNat 0)<0) then some (.inr false)
     else bif zC s6 b1.2.2.2.2.2.2.1.length then (bif zC s7 (b1.2.2.2.2.2.2.1.getD s6.toNat []).length then (bif decide (((b1.2.2.2.2.2.2.1.getD s6.toNat []).getD s7.toNat 0)>1099511627776) then some (.inr false)
       else rec s6 (zA (s7+1)) b0 b1)
      else none)
     else none)
    else none)
   else none)
  else some (.inl (s6,b0,b1)))
 else none
def xD (k:Nat):Nat→TF:=vH (fun _ _ _ _=>none) (DL k)
abbrev TI:Type:=Int→yI→yN→Option (Unit⊕Bool)
def DM (k:Nat)(rec:TI)(s6:Int)(b0:yI)(b1:yN):Option (Unit⊕Bool):=
 bif decide (s6 < b0.1) then (bif zC s6 b1.2.2.2.2.2.2.1.length then (bif !(decide (((b1.2.2.2.2.2.2.1.getD s6.toNat []).length:Int)=(b0.2.1.length:Int))) then some (.inr false)
   else(xD k k s6 0 b0 b1).bind fun z2=>
   match z2 with
   | .inl z3 => bif zC z3.1 z3.2.2.2.2.2.2.2.2.1.length then ((tF k z3.2.1.2.1 z3.2.2.2.2.2.2.2.1 (z3.2.2.2.2.2.2.2.2.1.getD z3.1.toNat [])).bind fun x0=>
     bif !x0.2 then some (.inr false)
     else bif decide (x0.1>1152921504606846976) then some (.inr false)
     else bif zC z3.1 z3.2.2.2.1.length then (bif !(decide ((z3.2.2.2.1.getD z3.1.toNat (0,0,0)).2.1=x0.1)) then some (.inr false)
      else rec (zA (z3.1+1)) z3.2.1 z3.2.2)
     else none)
    else none
   |.inr z4=>some (.inr z4))
  else none)
 else some (.inl ())
def tT (k:Nat):Nat→TI:=vH (fun _ _ _=>none) (DM k)
def HR (k:Nat)(a0:yI)(a1:yN):Option Bool:=
 bif !(decide ((a1.2.2.2.2.2.1.length:Int)=(a0.2.1.length:Int))) then some false
 else bif !(decide ((a1.2.2.2.2.2.2.1.length:Int)=a0.1)) then some false
 else(tS k k 0 a0 a1).bind fun z=>
 match z with
 |.inl z1=>(tT k k 0 z1.1 z1.2).bind fun z5=>
  match z5 with
  |.inl z6=>some true
  |.inr z7=>some z7
 |.inr z8=>some z8
abbrev TJ:Type:=List zB→Int→Int→Option (Unit⊕Int)
def BB (k:Nat)(rec:TJ)(s0:List zB)(s1 s5:Int):Option (Unit⊕Int):=
 bif decide (s5 < (s0.length : Int)) then (bif zC s5 s0.length then (bif decide ((s0.getD s5.toNat (0,0,0,0,0,0,0)).1=s1) then some (.inr s5)
   else rec s0 s1 (zA (s5+1)))
  else none)
 else some (.inl ())
def BA (k:Nat):Nat→TJ
 |0,_,_,_=>none
 |n+1,s0,s1,s5=>BB k (BA k n) s0 s1 s5
def j6 (k:Nat)(a0:List zB)(a1:Int):Option Int:=
 (BA k k a0 a1 0).bind fun z=>
 match z with
 |.inl z1=>some (-1)
 |.inr z2=>some z2
def CD (k:Nat)(bU aq bq aB az aI aN oT gj kf lF kg rA rC:Int):Option Bool:=
 bif decide (aq<gj) then some true
 else bif decide (aq=gj) then some (decide (az≤kg))
 else some false
abbrev TL:Type:=List zB→Int→Option SY
def DD (k:Nat)(rec:TL)(s0:List zB)(s3:Int):Option SY:=
 bif decide (s3 < (s0.length : Int)) then (bif zC s3 s0.length then ((j6 k s0 (s0.getD s3.toNat (0,0,0,0,0,0,0)).1).bind fun x0=>
   bif !(decide (x0=s3)) then some (.inr false)
   else bif decide (s3 > 0) then (bif zC (zA (s3 - 1)) s0.length then (bif zC s3 s0.length then ((CD k (s0.getD (zA (s3-1)).toNat (0,0,0,0,0,0,0)).1 (s0.getD (zA (s3-1)).toNat (0,0,0,0,0,0,0)).2.1 (s0.getD (zA (s3-1)).toNat (0,0,0,0,0,0,0)).2.2.1 (s0.getD (zA (s3-1)).toNat (0,0,0,0,0,0,0)).2.2.2.1 (s0.getD (zA (s3-1)).toNat (0,0,0,0,0,0,0)).2.2.2.2.1 (s0.getD (zA (s3-1)).toNat (0,0,0,0,0,0,0)).2.2.2.2.2.1 (s0.getD (zA (s3-1)).toNat (0,0,0,0,0,0,0)).2.2.2.2.2.2 (s0.getD s3.toNat (0,0,0,0,0,0,0)).1 (s0.getD s3.toNat (0,0,0,0,0,0,0)).2.1 (s0.getD s3.toNat (0,0,0,0,0,0,0)).2.2.1 (s0.getD s3.toNat (0,0,0,0,0,0,0)).2.2.2.1 (s0.getD s3.toNat (0,0,0,0,0,0,0)).2.2.2.2.1 (s0.getD s3.toNat (0,0,0,0,0,0,0)).2.2.2.2.2.1 (s0.getD s3.toNat (0,0,0,0,0,0,0)).2.2.2.2.2.2).bind fun x1=>
      bif !x1 then some (.inr false)
      else rec s0 (zA (s3+1)))
     else none)
    else none)
   else rec s0 (zA (s3+1)))
  else none)
 else some (.inl s0)
def tQ (k:Nat):Nat→TL
 |0,_,_=>none
 |n+1,s0,s3=>DD k (tQ k n) s0 s3
def HL (k:Nat)(a0:List zB):Option Bool:=
 (tQ k k a0 0).bind fun z=>
 match z with
 |.inl z1=>some (decide ((z1.length:Int)≤40))
 |.inr z2=>some z2
abbrev TO:Type:=AC→Int→Option (AC⊕Bool)
def DF (k:Nat)(rec:TO)(s0:AC)(s3:Int):Option (AC⊕Bool):=
 bif decide (s3 < (s0.length : Int)) then (bif zC s3 s0.length then (bif decide ((s0.getD s3.toNat 0)<1) then some (.inr false)
   else bif decide (s3 > 0) then (bif zC s3 s0.length then (bif zC (zA (s3 - 1)) s0.length then (bif decide ((s0.getD s3.toNat 0)≤(s0.getD (zA (s3-1)).toNat 0)) then some (.inr false)
      else rec s0 (zA (s3+1)))
     else none)
    else none)
   else rec s0 (zA (s3+1)))
  else none)
 else some (.inl s0)
def xB (k:Nat):Nat→TO:=vH (fun _ _=>none) (DF k)
def HN (k:Nat)(a0:AC):Option Bool:=
 (xB k k a0 0).bind fun z=>
 match z with
 |.inl z1=>some (decide ((z1.length:Int)≤200))
 |.inr z2=>some z2
def J7 (k:Nat)(aL:List zH)(aY:EQ)(aX:AC)(aT:EQ)(oT gj kf lF kg rA rC:Int):Option Bool:=
 bif decide (gj ≥ 0) then (bif decide (gj < (aL.length : Int)) then (bif decide (kf ≥ 0) then (bif decide (kf < (aL.length : Int)) then (bif !(decide (gj = kf)) then (bif decide (lF ≥ 1) then (bif decide (lF ≤ 1099511627776) then (bif decide (kg≥1) then some (decide (kg≤3))
        else some false)
       else some false)
      else some false)
     else some false)
    else some false)
   else some false)
  else some false)
 else some false
abbrev TQ:Type:=AC→Int→Int→Option (Unit⊕Bool)
def oM (k:Nat)(rec:TQ)(s0:AC)(s1 s5:Int):Option (Unit⊕Bool):=
 bif decide (s5 < (s0.length : Int)) then (bif zC s5 s0.length then (bif decide ((s0.getD s5.toNat 0)=s1) then some (.inr true)
   else rec s0 s1 (zA (s5+1)))
  else none)
 else some (.inl ())
def oL (k:Nat):Nat→TQ:=vH (fun _ _ _=>none) (oM k)
def xh (k:Nat)(a0:AC)(a1:Int):Option Bool:=
 (oL k k a0 a1 0).bind fun z=>
 match z with
 |.inl z1=>some false
 |.inr z2=>some z2
abbrev TS:Type:=Int→yN→Option (Unit⊕Bool)
def DI (k:Nat)(rec:TS)(s3:Int)(b0:yN):Option (Unit⊕Bool):=
 bif decide (s3 < (b0.2.2.2.2.2.2.2.1.length : Int)) then (bif zC s3 b0.2.2.2.2.2.2.2.1.length then ((J7 k b0.2.1 b0.2.2.1 b0.2.2.2.1 b0.2.2.2.2.1 (b0.2.2.2.2.2.2.2.1.getD s3.toNat (0,0,0,0,0,0,0)).1 (b0.2.2.2.2.2.2.2.1.getD s3.toNat (0,0,0,0,0,0,0)).2.1 (b0.2.2.2.2.2.2.2.1.getD s3.toNat (0,0,0,0,0,0,0)).2.2.1 (b0.2.2.2.2.2.2.2.1.getD s3.toNat (0,0,0,0,0,0,0)).2.2.2.1 (b0.2.2.2.2.2.2.2.1.getD s3.toNat (0,0,0,0,0,0,0)).2.2.2.2.1 (b0.2.2.2.2.2.2.2.1.getD s3.toNat (0,0,0,0,0,0,0)).2.2.2.2.2.1 (b0.2.2.2.2.2.2.2.1.getD s3.toNat (0,0,0,0,0,0,0)).2.2.2.2.2.2).bind fun x2=>
   bif !x2 then some (.inr false)
   else bif decide ((b0.2.2.2.2.2.2.2.1.getD s3.toNat (0,0,0,0,0,0,0)).2.2.2.2.2.1<0) then some (.inr false)
   else bif decide ((b0.2.2.2.2.2.2.2.1.getD s3.toNat (0,0,0,0,0,0,0)).2.2.2.2.2.2<(b0.2.2.2.2.2.2.2.1.getD s3.toNat (0,0,0,0,0,0,0)).2.2.2.2.2.1) then some (.inr false)
   else bif decide ((b0.2.2.2.2.2.2.2.1.getD s3.toNat (0,0,0,0,0,0,0)).2.2.2.2.2.2>1048576) then some (.inr false)
   else(xh k b0.2.2.2.2.2.2.2.2.1 (b0.2.2.2.2.2.2.2.1.getD s3.toNat (0,0,0,0,0,0,0)).1).bind fun x3=>
   bif !x3 then some (.inr false)
   else rec (zA (s3+1)) b0)
  else none)
 else some (.inl ())
def tR (k:Nat):Nat→TS:=vH (fun _ _=>none) (DI k)
def HO (k:Nat)(a0:yN):Option Bool:=
 (HL k a0.2.2.2.2.2.2.2.1).bind fun x0=>
 bif !x0 then some false
 else(HN k a0.2.2.2.2.2.2.2.2.1).bind fun x1=>
 bif !x1 then some false
 else(tR k k 0 a0).bind fun z=>
 match z with
 |.inl z1=>some true
 |.inr z2=>some z2
def L4 (k:Nat)(xT ue a1:Int):Option vY:=
 some ((zA ((zA (xT+(shr .i64 a1 32)))+(shr .i64 (zA (ue+(yA .i64 a1 4294967295))) 32))),(yA .i64 (zA (ue+(yA .i64 a1 4294967295))) 4294967295))
abbrev TU:Type:=AC→Int→Int→Int→Option vY
def DB (k:Nat)(rec:TU)(s0:AC)(s5 aa ae:Int):Option vY:=
 bif decide (s5 < (s0.length : Int)) then (bif zC s5 s0.length then ((L4 k aa ae (s0.getD s5.toNat 0)).bind fun x0=>
   rec s0 (zA (s5+1)) x0.1 x0.2)
  else none)
 else some (aa,ae)
def HK (k:Nat):Nat→TU
 |0,_,_,_,_=>none
 |n+1,s0,s5,aa,ae=>DB k (HK k n) s0 s5 aa ae
def HJ (k:Nat)(a0:AC):Option wV:=
 (HK k k a0 0 0 0).bind fun z=>
 bif decide (z.1<(-2147483648)) then some (0,false)
 else bif decide (z.1≥2147483648) then some (0,false)
 else some ((zA ((shl .i64 z.1 32)+z.2)),true)
abbrev TW:Type:=Int→yI→yN→AC→Option S9
def DN (k:Nat)(rec:TW)(s6:Int)(b0:yI)(b1:yN)(r2:AC):Option S9:=
 bif decide (s6 < b0.1) then (bif zC s6 b1.2.1.length then (bif zR (r2.length + 1) 8 then (let y0:AC:=(r2++[(b1.2.1.getD s6.toNat (0,0,0)).1])
    rec (zA (s6+1)) b0 b1 y0)
   else none)
  else none)
 else some (b0,b1,r2)
def xE (k:Nat):Nat→TW:=vH (fun _ _ _ _=>none) (DN k)
def L5 (k:Nat)(a0:yI)(a1:yN):Option Bool:=
 bif decide (a1.1<0) then some false
 else bif decide (a1.1>a0.2.2.2.1) then some false
 else(AB k a1.2.1 a1.2.2.1 a1.2.2.2.1 a1.2.2.2.2.1).bind fun x0=>
 bif !x0 then some false
 else bif !(decide ((a1.2.1.length:Int)=a0.1)) then some false
 else(HR k a0 a1).bind fun x1=>
 bif !x1 then some false
 else(HO k a1).bind fun x2=>
 bif !x2 then some false
 else(xE k k 0 a0 a1 []).bind fun z=>
 (HJ k z.2.2).bind fun x3=>
 bif x3.2 then (bif decide (x3.1 = z.2.1.2.2.2.2.2.2.2.2.2.1) then (bif decide (x3.1 ≥ 0) then (bif decide (x3.1 ≤ 1152921504606846976) then (bif gY z.2.1.2.2.2.2.2.2.2.2.2.2 (decide (z.2.1.1 = z.1.2.2.2.1)) then (bif !z.2.1.2.2.2.2.2.2.2.2.2.2 then some true
      else some (decide ((z.2.1.2.2.2.2.2.2.2.1.length:Int)=0)))
     else some false)
    else some false)
   else some false)
  else some false)
 else some false
def qZ8 (k:Nat)(a0:Int):Option yI:=
 bif decide ((yA .i64 a0 3)=1) then some (4,[(100,1000),(7,0)],12,20,100)
 else bif decide ((yA .i64 a0 3)=2) then some (3,[],20,20,4)
 else bif decide ((yA .i64 a0 3)=3) then some (3,[(100,1000),(7,0)],0,6,1)
 else some (3,[(100,1000),(7,0)],12,20,4)
def F1 (k:Nat)(a0:Int):Option Bool:=
 bif decide (a0≥0) then some (decide (a0≤6))
 else some false
def Bc (k:Nat)(rec:Tw)(s1 bL bx:Int)(r0:AC):Option AC:=
 bif decide (bx < bL) then (bif zC bx r0.length then(rec s1 bL (zA (bx+1)) (r0.set bx.toNat s1))
  else none)
 else some r0
def F2 (k:Nat):Nat→Tw
 |0,_,_,_,_=>none
 |n+1,s1,bL,bx,r0=>Bc k (F2 k n) s1 bL bx r0
def wg (k:Nat)(a0 a1:Int):Option AC:=
 (F1 k a0).bind fun x0=>
 bif !x0 then some []
 else bif Jz a0 a0 8 then ((F2 k k a1 ((List.replicate a0.toNat (0:Int)).length:Int) 0 (List.replicate a0.toNat (0:Int))).bind fun z=>
  some z)
 else none
abbrev T1:Type:=Int→Int→Int→Int→EQ→Option EQ
def Be (k:Nat)(rec:T1)(s0 s1 bL bx:Int)(m0:EQ):Option EQ:=
 bif decide (bx < bL) then ((wg k s0 s1).bind fun x1=>
  bif zC bx m0.length then(rec s0 s1 bL (zA (bx+1)) (m0.set bx.toNat x1))
  else none)
 else some m0
def F3 (k:Nat):Nat→T1
 |0,_,_,_,_,_=>none
 |n+1,s0,s1,bL,bx,m0=>Be k (F3 k n) s0 s1 bL bx m0
def Bd (k:Nat)(a0 a1:Int):Option EQ:=
 (F1 k a0).bind fun x0=>
 bif !x0 then some []
 else bif Jz a0 a0 24 then ((F3 k k a0 a1 ((List.replicate a0.toNat ([]:AC)).length:Int) 0 (List.replicate a0.toNat ([]:AC))).bind fun z=>
  some z)
 else none
abbrev T4:Type:=Int×yI×gi×gi×(List zH)×EQ×AC×EQ×AC
abbrev T3:Type:=Int→List vY→Int→Int→yI→gi→gi→List zH→EQ→AC→EQ→AC→Option T4
def yG4 (k:Nat)(rec:T3)(s3:Int)(cz:List vY)(s21 M9:Int)(b0:yI)(b1 b2:gi)(r3:List zH)(m4:EQ)(r5:AC)(m6:EQ)(r7:AC):Option T4:=
 bif decide (M9 < s21) then (bif zC M9 cz.length then (bif zR (r7.length+1) 8 then(rec s3 cz s21 (zA (M9+1)) b0 b1 b2 r3 m4 r5 m6 (r7++[(cz.getD M9.toNat (0,0)).1]))
   else none)
  else none)
 else some (s3,b0,b1,b2,r3,m4,r5,m6,r7)
def T5 (k:Nat):Nat→T3:=vH (fun _ _ _ _ _ _ _ _ _ _ _ _=>none) (yG4 k)
abbrev T7:Type:=gi×gi×(List zH)×EQ×AC×EQ×AC×EQ
abbrev T6:Type:=Int→Int→yI→gi→gi→List zH→EQ→AC→EQ→AC→EQ→Option T7
def ySi (k:Nat)(rec:T6)(xU oU:Int)(b0:yI)(b1 b2:gi)(r3:List zH)(m4:EQ)(r5:AC)(m6:EQ)(r7:AC)(m8:EQ):Option T7:=
 bif decide (oU < xU) then (bif Jz (b0.2.1.length : Int) (b0.2.1.length : Int) 8 then (bif zR (m8.length+1) 24 then(rec xU (zA (oU+1)) b0 b1 b2 r3 m4 r5 m6 r7 (m8++[(List.replicate b0.2.1.length (0:Int))]))
   else none)
  else none)
 else some (b1,b2,r3,m4,r5,m6,r7,m8)
def T8 (k:Nat):Nat→T6:=vH (fun _ _ _ _ _ _ _ _ _ _ _=>none) (ySi k)
def qVw (k:Nat)(a0:yI):Option yN:=
 bif Jz a0.1 a0.1 24 then ((Bd k a0.1 (-1)).bind fun x0=>
  (wg k a0.1 (-1)).bind fun x1=>
  (Bd k a0.1 0).bind fun x2=>
  (T5 k k a0.1 a0.2.1 (a0.2.1.length:Int) 0 a0 (0,0,false) (0,0,false) (List.replicate a0.1.toNat ((0,0,0):Int×Int×Int)) x0 x1 x2 []).bind fun z=>
  (T8 k k z.1 0 z.2.1 z.2.2.1 z.2.2.2.1 z.2.2.2.2.1 z.2.2.2.2.2.1 z.2.2.2.2.2.2.1 z.2.2.2.2.2.2.2.1 z.2.2.2.2.2.2.2.2 []).bind fun z1=>
  some (z1.2.1.1,(vKo z1 ([],[],z1.2.1.2))))
 else none
abbrev Uc:Type:=Int×Int×Int×Int×Int×Int×Int×Int×Int×Int×Int×Int×Int×Int
abbrev Ua:Type:=AC→Int→Int→Int→Int→Int→Int→Int→Int→Int→Int→Int→Int→Int→Int→Int→Option Uc
def yDz (k:Nat)(rec:Ua)(s1:AC)(s6 aa ae af ab aV bg bh an ar au ax aD aE aF:Int):Option Uc:=
 bif decide (s6 < (s1.length : Int)) then (bif decide (s6 < 6) then (bif zC s6 s1.length then (bif decide (s6=0) then(rec s1 (zA (s6+1)) aa ae af ab aV bg bh an (s1.getD s6.toNat 0) au ax aD aE aF)
    else bif decide (s6=1) then(rec s1 (zA (s6+1)) aa ae af ab aV bg bh an ar (s1.getD s6.toNat 0) ax aD aE aF)
    else bif decide (s6=2) then(rec s1 (zA (s6+1)) aa ae af ab aV bg bh an ar au (s1.getD s6.toNat 0) aD aE aF)
    else bif decide (s6=3) then(rec s1 (zA (s6+1)) aa ae af ab aV bg bh an ar au ax (s1.getD s6.toNat 0) aE aF)
    else bif decide (s6=4) then(rec s1 (zA (s6+1)) aa ae af ab aV bg bh an ar au ax aD (s1.getD s6.toNat 0) aF)
    else bif decide (s6=5) then(rec s1 (zA (s6+1)) aa ae af ab aV bg bh an ar au ax aD aE (s1.getD s6.toNat 0))
    else none)
   else none)
  else some (aa,ae,af,ab,aV,bg,bh,an,ar,au,ax,aD,aE,aF))
 else some (aa,ae,af,ab,aV,bg,bh,an,ar,au,ax,aD,aE,aF)
def Mv (k:Nat):Nat→Ua
 |0,_,_,_,_,_,_,_,_,_,_,_,_,_,_,_,_=>none
 |n+1,s1,s6,aa,ae,af,ab,aV,bg,bh,an,ar,au,ax,aD,aE,aF=>yDz k (Mv k n) s1 s6 aa ae af ab aV bg bh an ar au ax aD aE aF
def jA (k:Nat)(a0:Int)(a1:AC):Option zB:=
 (Mv k k a1 0 0 0 0 0 0 0 0 a0 0 0 0 0 0 0).bind fun z=>
 some (z.2.2.2.2.2.2.2.1,z.2.2.2.2.2.2.2.2.1,z.2.2.2.2.2.2.2.2.2.1,z.2.2.2.2.2.2.2.2.2.2.1,z.2.2.2.2.2.2.2.2.2.2.2.1,z.2.2.2.2.2.2.2.2.2.2.2.2.1,z.2.2.2.2.2.2.2.2.2.2.2.2.2)
def Ud (k:Nat)(a0 a1:Int)(a2:AC):Option qP:=
 (jA k a1 a2).bind fun x0=>
 some (a0,x0)
def LM (k:Nat)(a0:Int):Option Bool:=
 bif decide (a0≥10) then some (decide (a0≤14))
 else some false
def Hu (k:Nat)(a0:Int):Option Bool:=
 bif decide (a0≥1) then some (decide (a0≤14))
 else some false
def LL (k:Nat)(a0:Int):Option Int:=
 bif decide (a0=9) then some 0
 else bif decide (a0=13) then some 0
 else bif decide (a0=14) then some 0
 else bif decide (a0=15) then some 0
 else bif decide (a0=2) then some 1
 else bif decide (a0=6) then some 1
 else bif decide (a0=7) then some 1
 else bif decide (a0=16) then some 1
 else bif decide (a0=19) then some 1
 else bif decide (a0=20) then some 1
 else bif decide (a0=21) then some 1
 else bif decide (a0=22) then some 1
 else bif decide (a0=23) then some 1
 else bif decide (a0=3) then some 2
 else bif decide (a0=4) then some 2
 else bif decide (a0=5) then some 2
 else bif decide (a0=8) then some 2
 else bif decide (a0=10) then some 2
 else bif decide (a0=11) then some 2
 else bif decide (a0=12) then some 2
 else bif decide (a0=18) then some 4
 else bif decide (a0=17) then some 5
 else bif decide (a0=1) then some 6
 else some (-1)
def tJ (k:Nat)(rec:TQ)(bL:AC)(bx ba:Int):Option (Unit⊕Bool):=
 bif decide (ba < bx) then (bif zC ba bL.length then (bif !(decide ((bL.getD ba.toNat 0)=0)) then some (.inr false)
   else rec bL bx (zA (ba+1)))
  else none)
 else some (.inl ())
def qz (k:Nat):Nat→TQ:=vH (fun _ _ _=>none) (tJ k)
def tK (k:Nat)(a0:zB):Option Bool:=
 (LL k a0.1).bind fun x0=>
 bif decide (x0<0) then some false
 else bif (decide (0 ≤ x0)) && (decide (x0 ≤ 6)) then ((qz k k (qW [a0.2.1,a0.2.2.1,a0.2.2.2.1,a0.2.2.2.2.1,a0.2.2.2.2.2.1,a0.2.2.2.2.2.2] x0.toNat (6-x0.toNat)) ((qW [a0.2.1,a0.2.2.1,a0.2.2.2.1,a0.2.2.2.2.1,a0.2.2.2.2.2.1,a0.2.2.2.2.2.2] x0.toNat (6-x0.toNat)).length:Int) 0).bind fun z=>
  match z with
  |.inl z1=>some true
  |.inr z2=>some z2)
 else none
def tL (k:Nat)(a0:yI)(a1:yN)(a2:qP):Option Int:=
 (LM k a2.2.1).bind fun x0=>
 bif decide (a2.1 ≥ 0) then ((Hu k a2.2.1).bind fun x1=>
  bif !x1 then some 5
  else(tK k a2.2).bind fun x2=>
  bif !x2 then some 5
  else bif x0 then (bif !(decide (a2.1=(-1))) then some 5
   else bif !x0 then (bif !(decide (a2.1<a0.1)) then some 5
    else bif a1.2.2.2.2.2.2.2.2.2.2 then (bif !(decide (a2.2.1=9)) then some 7
     else some 0)
    else some 0)
   else bif a1.2.2.2.2.2.2.2.2.2.2 then (bif !(decide (a2.2.1=9)) then some 7
    else some 0)
   else some 0)
  else bif !x0 then (bif !(decide (a2.1<a0.1)) then some 5
   else bif a1.2.2.2.2.2.2.2.2.2.2 then (bif !(decide (a2.2.1=9)) then some 7
    else some 0)
   else some 0)
  else bif a1.2.2.2.2.2.2.2.2.2.2 then (bif !(decide (a2.2.1=9)) then some 7
   else some 0)
  else some 0)
 else(Hu k a2.2.1).bind fun x3=>
 bif !x3 then some 5
 else(tK k a2.2).bind fun x4=>
 bif !x4 then some 5
 else bif x0 then (bif !(decide (a2.1=(-1))) then some 5
  else bif !x0 then some 5
  else bif a1.2.2.2.2.2.2.2.2.2.2 then (bif !(decide (a2.2.1=9)) then some 7
   else some 0)
  else some 0)
 else bif !x0 then some 5
 else bif a1.2.2.2.2.2.2.2.2.2.2 then (bif !(decide (a2.2.1=9)) then some 7
  else some 0)
 else some 0
def Q7 (k:Nat)(bU aq bq aB az aI aN a1:Int):Option Bool:=
 some (decide (aq=a1))
abbrev Ui:Type:=List zB
abbrev Ug:Type:=List zB→Int→Int→Int→List zB→Option Ui
def Cb (k:Nat)(rec:Ug)(s8:List zB)(s9 ao aa:Int)(r1:List zB):Option Ui:=
 bif decide (ao < s9) then (bif zC ao s8.length then ((Q7 k (s8.getD ao.toNat (0,0,0,0,0,0,0)).1 (s8.getD ao.toNat (0,0,0,0,0,0,0)).2.1 (s8.getD ao.toNat (0,0,0,0,0,0,0)).2.2.1 (s8.getD ao.toNat (0,0,0,0,0,0,0)).2.2.2.1 (s8.getD ao.toNat (0,0,0,0,0,0,0)).2.2.2.2.1 (s8.getD ao.toNat (0,0,0,0,0,0,0)).2.2.2.2.2.1 (s8.getD ao.toNat (0,0,0,0,0,0,0)).2.2.2.2.2.2 aa).bind fun x0=>
   bif x0 then (bif zR (r1.length + 1) 56 then (let y0:List zB:=(r1++[(s8.getD ao.toNat (0,0,0,0,0,0,0))])
     rec s8 s9 (zA (ao+1)) aa y0)
    else none)
   else rec s8 s9 (zA (ao+1)) aa r1)
  else none)
 else some r1
def GM (k:Nat):Nat→Ug
 |0,_,_,_,_,_=>none
 |n+1,s8,s9,ao,aa,r1=>Cb k (GM k n) s8 s9 ao aa r1
def Q6 (k:Nat)(a0:List zB)(cH:Int):Option (List zB):=
 (GM k k a0 (a0.length:Int) 0 cH []).bind fun z=>
 some z
def GL (k:Nat)(a0:List zB)(a1:Int):Option (List zB):=
 (Q6 k a0 a1).bind fun x0=>
 some x0
def yKj (k:Nat)(a0:(Int×Int×Int×Int×Int×Int×Bool×Int))(a1:Int)(a2:AC):Option wK:=
 some (a0.1,[],(fO a0 ([],[],[],[],[],[],[],[],a0.2.2.2.2.2.1,a0.2.2.2.2.2.2.1,a0.2.2.2.2.2.2.2,[(a0.2.2.2.2.2.2.2,a1,(bif (Nat.blt 0 a2.length) then(a2.getD 0 0) else 0),(bif (Nat.blt 1 a2.length) then(a2.getD 1 0) else 0),(bif (Nat.blt 2 a2.length) then(a2.getD 2 0) else 0),(bif (Nat.blt 3 a2.length) then(a2.getD 3 0) else 0),(bif (Nat.blt 4 a2.length) then(a2.getD 4 0) else 0),(bif (Nat.blt 5 a2.length) then(a2.getD 5 0) else 0))])))
def LS (k:Nat)(a0:yN)(a1:Int):Option (List qP):=
 bif zC a1 a0.2.1.length then ((GL k a0.2.2.2.2.2.2.2.1 a1).bind fun x0=>
  (yKj k (0,0,0,0,0,0,false,a1) 17 [(a0.2.1.getD a1.toNat (0,0,0)).1,(a0.2.1.getD a1.toNat (0,0,0)).2.1,(a0.2.1.getD a1.toNat (0,0,0)).2.2,(x0.length:Int),a0.1]).bind fun x1=>
  some x1.2.2.2.2.2.2.2.2.2.2.2.2.2.2.2.2.2)
 else none
def LU (k:Nat)(a0:iX)(a1:Int)(a2:AC):Option wK:=
 some (vA a0 [(a0.2.2.2.2.2.2.2.2.2.2.2.2.2.2.2.2,a1,(bif (Nat.blt 0 a2.length) then(a2.getD 0 0) else 0),(bif (Nat.blt 1 a2.length) then(a2.getD 1 0) else 0),(bif (Nat.blt 2 a2.length) then(a2.getD 2 0) else 0),(bif (Nat.blt 3 a2.length) then(a2.getD 3 0) else 0),(bif (Nat.blt 4 a2.length) then(a2.getD 4 0) else 0),(bif (Nat.blt 5 a2.length) then(a2.getD 5 0) else 0))])
def GW (k:Nat)(a0:yI)(a1:Int):Option Bool:=
 bif decide (a1≥0) then some (decide (a1<a0.1))
 else some false
def La (k:Nat)(a0:yI)(a1:Int)(a2:zB):Option Bool:=
 (GW k a0 a2.2.1).bind fun x0=>
 bif x0 then ((GW k a0 a2.2.2.1).bind fun x1=>
  bif x1 then (bif decide (a2.1 ≥ 1) then (bif decide (a2.2.2.2.1 ≥ 1) then (bif decide (a2.2.2.2.1 ≤ 1099511627776) then (bif decide (a2.2.2.2.2.1 ≥ 1) then (bif !(decide (a2.2.1 = a2.2.2.1)) then (bif decide (a2.2.2.2.2.1 ≤ 3) then (bif decide (a2.2.2.2.2.2.1 ≥ 0) then (bif decide (a2.2.2.2.2.2.1 ≤ a2.2.2.2.2.2.2) then (bif decide (a2.2.2.2.2.2.2≥a1) then some (decide (a2.2.2.2.2.2.2≤1048576))
           else some false)
          else some false)
         else some false)
        else some false)
       else some false)
      else bif !(decide (a2.2.1=a2.2.2.1)) then some false
      else some false)
     else bif !(decide (a2.2.1=a2.2.2.1)) then some false
     else some false)
    else bif !(decide (a2.2.1=a2.2.2.1)) then some false
    else some false)
   else bif !(decide (a2.2.1=a2.2.2.1)) then some false
   else some false)
  else bif decide (a2.1 ≥ 1) then (bif decide (a2.2.2.2.1 ≥ 1) then (bif decide (a2.2.2.2.1 ≤ 1099511627776) then (bif decide (a2.2.2.2.2.1≥1) then some false
     else some false)
    else some false)
   else some false)
  else some false)
 else bif decide (a2.1 ≥ 1) then (bif decide (a2.2.2.2.1 ≥ 1) then (bif decide (a2.2.2.2.1 ≤ 1099511627776) then (bif decide (a2.2.2.2.2.1≥1) then some false
    else some false)
   else some false)
  else some false)
 else some false
def xc (k:Nat)(a0:yI)(a1 a2:Int):Option Int:=
 bif decide (a1≥a0.2.2.2.1) then some 7
 else bif decide (a2 = 3) then (bif decide (a1≥a0.2.2.1) then some 7
  else some 0)
 else some 0
def Cx (k:Nat)(a0:yI)(a1:Int)(a2:zB):Option Int:=
 (La k a0 a1 a2).bind fun x0=>
 bif !x0 then some 1
 else(xc k a0 a1 a2.2.2.2.2.1).bind fun x1=>
 some x1
def mX (k:Nat)(a0:AC):Option AC:=
 bif zR (0+a0.length) 8 then some a0
 else none
abbrev yPz (k:Nat)(a0:AC)(a1:Int)(a2:AC):Option AC:=ins 8 a0 a1 a2
def BO (k:Nat)(a0:AC)(a1:Int):Option (AC×Int):=
 (BN k a0 a1).bind fun x0=>
 bif x0.2 then some (a0,6)
 else bif decide ((a0.length:Int)≥200) then some (a0,3)
 else(mX k a0).bind fun x1=>
 (yPz k x1 x0.1 [a1]).bind fun x2=>
 some (x2,0)
def sX (k:Nat)(a0:List zB):Option (List zB):=
 bif zR (0+a0.length) 56 then some a0
 else none
abbrev KH (k:Nat)(a0:List zB)(a1:Int)(a2:List zB):Option (List zB):=ins 56 a0 a1 a2
abbrev Us:Type:=(List zB)×Int×zB
abbrev Uq:Type:=List zB→Int→zB→Option Us
def BI (k:Nat)(rec:Uq)(s0:List zB)(s6:Int)(b0:zB):Option Us:=
 bif decide (s6 < (s0.length : Int)) then (bif zC s6 s0.length then ((BF k (s0.getD s6.toNat (0,0,0,0,0,0,0)).1 (s0.getD s6.toNat (0,0,0,0,0,0,0)).2.1 (s0.getD s6.toNat (0,0,0,0,0,0,0)).2.2.1 (s0.getD s6.toNat (0,0,0,0,0,0,0)).2.2.2.1 (s0.getD s6.toNat (0,0,0,0,0,0,0)).2.2.2.2.1 (s0.getD s6.toNat (0,0,0,0,0,0,0)).2.2.2.2.2.1 (s0.getD s6.toNat (0,0,0,0,0,0,0)).2.2.2.2.2.2 b0.1 b0.2.1 b0.2.2.1 b0.2.2.2.1 b0.2.2.2.2.1 b0.2.2.2.2.2.1 b0.2.2.2.2.2.2).bind fun x1=>
   bif decide (x1≤0) then(rec s0 (zA (s6+1)) b0)
   else some (s0,s6,b0))
  else none)
 else some (s0,s6,b0)
def Gs (k:Nat):Nat→Uq:=vH (fun _ _ _=>none) (BI k)
def sY (k:Nat)(a0:List zB)(a1:zB):Option ((List zB)×Int):=
 (me k a0 a1.1).bind fun x0=>
 bif decide (x0≥0) then some (a0,6)
 else bif decide ((a0.length:Int)≥40) then some (a0,3)
 else(Gs k k a0 0 a1).bind fun z=>
 (sX k z.1).bind fun x2=>
 (KH k x2 z.2.1 [z.2.2]).bind fun x3=>
 some (x3,0)
def Lb (k:Nat)(a0:wK)(a1:Ip):Option (Int×wK):=
 (yW k a1.2.1 0 (zA (a0.1-1))).bind fun x0=>
 bif !x0 then some (1,a0)
 else(yW k a1.2.2.2.1 1 3).bind fun x1=>
 bif !x1 then some (1,a0)
 else(Cx k (qZ a0) a0.2.2.2.2.2.1 (a1.1,a0.2.2.2.2.2.2.2.2.2.2.2.2.2.2.2.2.1,a1.2)).bind fun x2=>
 bif !(decide (x2=0)) then some (x2,a0)
 else(BO k a0.2.2.2.2.2.2.2.2.2.2.2.2.2.1 a1.1).bind fun x3=>
 bif !(decide (x3.2=0)) then some (x3.2,a0)
 else(sY k a0.2.2.2.2.2.2.2.2.2.2.2.2.1 (a1.1,a0.2.2.2.2.2.2.2.2.2.2.2.2.2.2.2.2.1,a1.2)).bind fun x4=>
 bif !(decide (x4.2=0)) then some (x4.2,a0)
 else some (0,(gV a0 (x4.1,x3.1,a0.2.2.2.2.2.2.2.2.2.2.2.2.2.2)))
def Uu (k:Nat)(a0:wK)(a1:Int):Option (zB×Int):=
 (me k a0.2.2.2.2.2.2.2.2.2.2.2.2.1 a1).bind fun x0=>
 bif decide (x0<0) then some ((0,0,0,0,0,0,0),4)
 else bif zC x0 a0.2.2.2.2.2.2.2.2.2.2.2.2.1.length then (bif !(decide ((a0.2.2.2.2.2.2.2.2.2.2.2.2.1.getD x0.toNat (0,0,0,0,0,0,0)).2.1=a0.2.2.2.2.2.2.2.2.2.2.2.2.2.2.2.2.1)) then some ((0,0,0,0,0,0,0),4)
  else bif zC x0 a0.2.2.2.2.2.2.2.2.2.2.2.2.1.length then some ((a0.2.2.2.2.2.2.2.2.2.2.2.2.1.getD x0.toNat (0,0,0,0,0,0,0)),0)
  else none)
 else none
def Gm (k:Nat)(a0:List zB)(a1 a2:Int):Option (List zB):=
 bif ((((decide (0 ≤ a1)) && (decide (a1 ≤ a2))) && (decide (a2 ≤ (a0.length : Int)))) && (decide (((a2.toNat : Nat) : Int) ≤ (a0.length : Int)))) && (decide ((a0.length : Int) ≤ (a0.length : Int))) then (bif decide (a1=a2) then some a0
  else bif (decide (0 ≤ a1)) && (decide (a1 ≤ (a0.length : Int))) then (bif (decide (0 ≤ a2)) && (decide (a2 ≤ (a0.length : Int))) then (bif Nat.ble (a1.toNat - 0) (0 + a2.toNat) then (let y0:List zB:=(((List.take (a1.toNat-0) a0)++(qW a0 (0+a2.toNat) (a0.length-a2.toNat)))++(List.drop ((a1.toNat-0)+(a0.length-a2.toNat)) a0))
     bif ((decide (0 ≤ ((qW y0 0 ((a1.toNat - 0) + (a0.length - a2.toNat))).length : Int))) && (decide (((qW y0 0 ((a1.toNat - 0) + (a0.length - a2.toNat))).length : Int) ≤ (a0.length : Int)))) && (decide ((a0.length : Int) ≤ (((y0.length - 0) : Nat) : Int))) then (let y1:List zB:=(((List.take (0+(qW y0 0 ((a1.toNat-0)+(a0.length-a2.toNat))).length) y0)++(List.replicate (a0.length-(qW y0 0 ((a1.toNat-0)+(a0.length-a2.toNat))).length) ((0,0,0,0,0,0,0):Int×Int×Int×Int×Int×Int×Int)))++(List.drop ((0+(qW y0 0 ((a1.toNat-0)+(a0.length-a2.toNat))).length)+(a0.length-(qW y0 0 ((a1.toNat-0)+(a0.length-a2.toNat))).length)) y0))
      some (List.take ((a1.toNat-0)+(a0.length-a2.toNat)) y1))
     else none)
    else none)
   else none)
  else none)
 else none
def nf (k:Nat)(a0:List zB)(a1:Int):Option Ya:=
 (me k a0 a1).bind fun x0=>
 bif decide (x0<0) then some (a0,0,0,0,0,0,0,0,4)
 else(sX k a0).bind fun x1=>
 (Gm k x1 x0 (zA (x0+1))).bind fun x2=>
 bif zC x0 a0.length then some (x2,(gh (a0.getD x0.toNat (0,0,0,0,0,0,0)) 0))
 else none
def tu (k:Nat)(a0:wK)(a1:Int)(a2:AC):Option wK:=
 bif zR (a0.2.2.2.2.2.2.2.2.2.2.2.2.2.2.2.2.2.length + 1) 64 then (let y0:List qP:=(a0.2.2.2.2.2.2.2.2.2.2.2.2.2.2.2.2.2++[(a0.2.2.2.2.2.2.2.2.2.2.2.2.2.2.2.2.1,a1,(bif (Nat.blt 0 a2.length) then(a2.getD 0 0) else 0),(bif (Nat.blt 1 a2.length) then(a2.getD 1 0) else 0),(bif (Nat.blt 2 a2.length) then(a2.getD 2 0) else 0),(bif (Nat.blt 3 a2.length) then(a2.getD 3 0) else 0),(bif (Nat.blt 4 a2.length) then(a2.getD 4 0) else 0),(bif (Nat.blt 5 a2.length) then(a2.getD 5 0) else 0))])
  some (qV a0 y0))
 else none
def BJ (k:Nat)(a0:List zB)(a1 a2:Int):Option ((List zB)×Int):=
 (nf k a0 a1).bind fun x0=>
 bif !(decide (x0.2.2.2.2.2.2.2.2=0)) then some (a0,x0.2.2.2.2.2.2.2.2)
 else(sY k x0.1 (fO x0 (a2,x0.2.2.2.2.2.2.1,x0.2.2.2.2.2.2.2.1))).bind fun x1=>
 some (x1.1,x1.2)
def QQ (k:Nat)(a0:List zB)(a1:Int):Option Ya:=
 (me k a0 a1).bind fun x0=>
 bif decide (x0<0) then none
 else(sX k a0).bind fun x1=>
 (Gm k x1 x0 (zA (x0+1))).bind fun x2=>
 bif zC x0 a0.length then some (x2,(gh (a0.getD x0.toNat (0,0,0,0,0,0,0)) 0))
 else none
abbrev Ux:Type:=Int×(List zB)×zB
abbrev Uv:Type:=Int→List zB→zB→Option Ux
def BL (k:Nat)(rec:Uv)(s9:Int)(r0:List zB)(b1:zB):Option Ux:=
 bif decide (s9 < (r0.length : Int)) then (bif zC s9 r0.length then ((BF k (r0.getD s9.toNat (0,0,0,0,0,0,0)).1 (r0.getD s9.toNat (0,0,0,0,0,0,0)).2.1 (r0.getD s9.toNat (0,0,0,0,0,0,0)).2.2.1 (r0.getD s9.toNat (0,0,0,0,0,0,0)).2.2.2.1 (r0.getD s9.toNat (0,0,0,0,0,0,0)).2.2.2.2.1 (r0.getD s9.toNat (0,0,0,0,0,0,0)).2.2.2.2.2.1 (r0.getD s9.toNat (0,0,0,0,0,0,0)).2.2.2.2.2.2 b1.1 b1.2.1 b1.2.2.1 b1.2.2.2.1 b1.2.2.2.2.1 b1.2.2.2.2.2.1 b1.2.2.2.2.2.2).bind fun x1=>
   bif decide (x1<0) then(rec (zA (s9+1)) r0 b1)
   else some (s9,r0,b1))
  else none)
 else some (s9,r0,b1)
def Gv (k:Nat):Nat→Uv:=vH (fun _ _ _=>none) (BL k)
def BM (k:Nat)(a0:List zB)(a1:Int):Option ((List zB)×Int):=
 (QQ k a0 a1).bind fun x0=>
 bif !(decide (x0.2.2.2.2.2.2.2.2=0)) then some (a0,x0.2.2.2.2.2.2.2.2)
 else(Gv k k 0 x0.1 (MA x0)).bind fun z=>
 (KH k z.2.1 z.1 [z.2.2]).bind fun x2=>
 some (x2,0)
def BK (k:Nat)(a0:List zB)(a1:Int):Option ((List zB)×Int):=
 (nf k a0 a1).bind fun x0=>
 bif !(decide (x0.2.2.2.2.2.2.2.2=0)) then some (a0,x0.2.2.2.2.2.2.2.2)
 else(sY k x0.1 (MA x0)).bind fun x1=>
 some (x1.1,x1.2)
def xd (k:Nat)(a0:wK)(a1:zB):Option (Int×wK):=
 (Uu k a0 a1.2.1).bind fun x0=>
 bif !(decide (x0.2=0)) then some (x0.2,a0)
 else bif decide (a1.1 = 2) then ((nf k a0.2.2.2.2.2.2.2.2.2.2.2.2.1 a1.2.1).bind fun x1=>
  (tu k (gV a0 (x1.1,a0.2.2.2.2.2.2.2.2.2.2.2.2.2)) 20 [a1.2.1]).bind fun x2=>
  some (x1.2.2.2.2.2.2.2.2,x2))
 else bif decide (a1.1 = 4) then ((yW k a1.2.2.1 1 3).bind fun x3=>
  bif !x3 then some (1,a0)
  else(xc k (qZ a0) a0.2.2.2.2.2.1 a1.2.2.1).bind fun x4=>
  bif !(decide (x4=0)) then some (x4,a0)
  else(BJ k a0.2.2.2.2.2.2.2.2.2.2.2.2.1 a1.2.1 a1.2.2.1).bind fun x5=>
  some (x5.2,(gV a0 (x5.1,a0.2.2.2.2.2.2.2.2.2.2.2.2.2))))
 else bif decide (a1.2.2.1 = 0) then ((BM k a0.2.2.2.2.2.2.2.2.2.2.2.2.1 a1.2.1).bind fun x6=>
  some (x6.2,(gV a0 (x6.1,a0.2.2.2.2.2.2.2.2.2.2.2.2.2))))
 else bif decide (a1.2.2.1 = 1) then ((BK k a0.2.2.2.2.2.2.2.2.2.2.2.2.1 a1.2.1).bind fun x7=>
  some (x7.2,(gV a0 (x7.1,a0.2.2.2.2.2.2.2.2.2.2.2.2.2))))
 else some (1,a0)
def Qe (k:Nat)(a0:List zH):Option (List zH):=
 bif zR (0+a0.length) 24 then some a0
 else none
def Qd (k:Nat)(a0:EQ):Option Nat:=
 bif zR (0+a0.length) 24 then some a0.length
 else none
abbrev Uy:Type:=EQ→Int→Int→EQ→Nat→Option (EQ×Nat)
def AN (k:Nat)(rec:Uy)(s8:EQ)(s9 ao:Int)(m0:EQ)(n0:Nat):Option (EQ×Nat):=
 bif decide (ao < s9) then (bif zC ao s8.length then ((mX k (s8.getD ao.toNat [])).bind fun x1=>
   bif zC ao n0 then (bif Nat.beq ao.toNat m0.length then(rec s8 s9 (zA (ao+1)) (m0++[x1]) n0)
    else none)
   else none)
  else none)
 else some (m0,n0)
def FH (k:Nat):Nat→Uy
 |0,_,_,_,_,_=>none
 |n+1,s8,s9,ao,m0,n0=>AN k (FH k n) s8 s9 ao m0 n0
def FI (k:Nat)(a0:EQ):Option EQ:=
 (Qd k a0).bind fun x0=>
 (FH k k a0 (a0.length:Int) 0 [] x0).bind fun z=>
 Ps z.1 z.2
def eP (k:Nat)(aL:List zH)(aY:EQ)(aX:AC)(aT:EQ):Option ((List zH)×EQ×AC×EQ):=
 (Qe k aL).bind fun x0=>
 (FI k aY).bind fun x1=>
 (mX k aX).bind fun x2=>
 (FI k aT).bind fun x3=>
 some (x0,x1,x2,x3)
def UA (k:Nat)(a0:wK)(a1:Int):Option Bool:=
 (yW k a1 0 (zA (a0.1-1))).bind fun x0=>
 bif x0 then some (!(decide (a1=a0.2.2.2.2.2.2.2.2.2.2.2.2.2.2.2.2.1)))
 else some false
def xe (k:Nat)(a0:wK)(a1:zB):Option (Int×wK):=
 (eP k a0.2.2.2.2.2.2.1 a0.2.2.2.2.2.2.2.1 a0.2.2.2.2.2.2.2.2.1 a0.2.2.2.2.2.2.2.2.2.1).bind fun x0=>
 bif decide (a1.1 = 5) then ((UA k a0 a1.2.1).bind fun x1=>
  bif !x1 then some (1,a0)
  else(yW k a1.2.2.1 (-1) 1152921504606846976).bind fun x2=>
  bif !x2 then some (1,a0)
  else bif zC a0.2.2.2.2.2.2.2.2.2.2.2.2.2.2.2.2.1 x0.2.1.length then (bif zC a1.2.1 (x0.2.1.getD a0.2.2.2.2.2.2.2.2.2.2.2.2.2.2.2.2.1.toNat []).length then (let y0:EQ:=(x0.2.1.set a0.2.2.2.2.2.2.2.2.2.2.2.2.2.2.2.2.1.toNat ((x0.2.1.getD a0.2.2.2.2.2.2.2.2.2.2.2.2.2.2.2.2.1.toNat []).set a1.2.1.toNat a1.2.2.1))
    some (0,(wJ a0 (x0.1,y0,x0.2.2.1,x0.2.2.2,a0.2.2.2.2.2.2.2.2.2.2))))
   else none)
  else none)
 else bif decide (a1.1 = 6) then ((yW k a1.2.1 (-1) 1152921504606846976).bind fun x3=>
  bif !x3 then some (1,a0)
  else bif zC a0.2.2.2.2.2.2.2.2.2.2.2.2.2.2.2.2.1 x0.2.2.1.length then (let y1:AC:=(x0.2.2.1.set a0.2.2.2.2.2.2.2.2.2.2.2.2.2.2.2.2.1.toNat a1.2.1)
   some (0,(wJ a0 (x0.1,x0.2.1,y1,x0.2.2.2,a0.2.2.2.2.2.2.2.2.2.2))))
  else none)
 else(yW k a1.2.1 0 1152921504606846976).bind fun x4=>
 bif !x4 then some (1,a0)
 else bif zC a0.2.2.2.2.2.2.2.2.2.2.2.2.2.2.2.2.1 x0.1.length then (let y2:List zH:=(x0.1.set a0.2.2.2.2.2.2.2.2.2.2.2.2.2.2.2.2.1.toNat ((x0.1.getD a0.2.2.2.2.2.2.2.2.2.2.2.2.2.2.2.2.1.toNat (0,0,0)).1,(x0.1.getD a0.2.2.2.2.2.2.2.2.2.2.2.2.2.2.2.2.1.toNat (0,0,0)).2.1,a1.2.1))
  some (0,(wJ a0 (y2,x0.2.1,x0.2.2.1,x0.2.2.2,a0.2.2.2.2.2.2.2.2.2.2))))
 else none
def H3 (k:Nat)(a0:wK)(a1:Int):Option Bool:=
 (yW k a1 0 (zA ((a0.2.1.length:Int)-1))).bind fun x0=>
 some x0
def Cz (k:Nat)(a0:EQ):Option EQ:=
 bif zR (0+a0.length) 24 then some a0
 else none
def nj (k:Nat)(a0:AC)(a1 a2:Int):Option AC:=
 (mX k a0).bind fun x0=>
 bif decide (a1 ≥ 0) then (bif decide (a1 < (x0.length : Int)) then (bif zC a1 x0.length then some (x0.set a1.toNat a2)
   else none)
  else some x0)
 else some x0
def Lc (k:Nat)(a0:wK)(a1 a2:Int):Option (Int×wK):=
 (H3 k a0 a1).bind fun x0=>
 bif !x0 then some (1,a0)
 else(yW k a2 0 1099511627776).bind fun x1=>
 bif !x1 then some (1,a0)
 else(Cz k a0.2.2.2.2.2.2.2.2.2.2.2.1).bind fun x2=>
 bif zC a0.2.2.2.2.2.2.2.2.2.2.2.2.2.2.2.2.1 x2.length then ((nj k (x2.getD a0.2.2.2.2.2.2.2.2.2.2.2.2.2.2.2.2.1.toNat []) a1 a2).bind fun x3=>
  bif zC a0.2.2.2.2.2.2.2.2.2.2.2.2.2.2.2.2.1 x2.length then (let y0:EQ:=(x2.set a0.2.2.2.2.2.2.2.2.2.2.2.2.2.2.2.2.1.toNat x3)
   bif zC a0.2.2.2.2.2.2.2.2.2.2.2.2.2.2.2.2.1 y0.length then ((oE k a0.2.1 a0.2.2.2.2.2.2.2.2.2.2.1 (y0.getD a0.2.2.2.2.2.2.2.2.2.2.2.2.2.2.2.2.1.toNat [])).bind fun x4=>
    bif zC a0.2.2.2.2.2.2.2.2.2.2.2.2.2.2.2.2.1 a0.2.2.2.2.2.2.1.length then (bif !x4.2 then some (8,a0)
     else bif decide (x4.1>1152921504606846976) then some (8,a0)
     else bif decide (x4.1 < (a0.2.2.2.2.2.2.1.getD a0.2.2.2.2.2.2.2.2.2.2.2.2.2.2.2.2.1.toNat (0, 0, 0)).2.1) then (bif decide ((zA ((a0.2.2.2.2.2.2.1.getD a0.2.2.2.2.2.2.2.2.2.2.2.2.2.2.2.2.1.toNat (0,0,0)).1+x4.1))<0) then some (9,a0)
      else(eP k a0.2.2.2.2.2.2.1 a0.2.2.2.2.2.2.2.1 a0.2.2.2.2.2.2.2.2.1 a0.2.2.2.2.2.2.2.2.2.1).bind fun x5=>
      bif zC a0.2.2.2.2.2.2.2.2.2.2.2.2.2.2.2.2.1 x5.1.length then (let y1:List zH:=(x5.1.set a0.2.2.2.2.2.2.2.2.2.2.2.2.2.2.2.2.1.toNat ((x5.1.getD a0.2.2.2.2.2.2.2.2.2.2.2.2.2.2.2.2.1.toNat (0,0,0)).1,x4.1,(x5.1.getD a0.2.2.2.2.2.2.2.2.2.2.2.2.2.2.2.2.1.toNat (0,0,0)).2.2))
       some (0,(wJ a0 (y1,x5.2.1,x5.2.2.1,x5.2.2.2,a0.2.2.2.2.2.2.2.2.2.2.1,y0,a0.2.2.2.2.2.2.2.2.2.2.2.2))))
      else none)
     else(eP k a0.2.2.2.2.2.2.1 a0.2.2.2.2.2.2.2.1 a0.2.2.2.2.2.2.2.2.1 a0.2.2.2.2.2.2.2.2.2.1).bind fun x6=>
     bif zC a0.2.2.2.2.2.2.2.2.2.2.2.2.2.2.2.2.1 x6.1.length then (let y2:List zH:=(x6.1.set a0.2.2.2.2.2.2.2.2.2.2.2.2.2.2.2.2.1.toNat ((x6.1.getD a0.2.2.2.2.2.2.2.2.2.2.2.2.2.2.2.2.1.toNat (0,0,0)).1,x4.1,(x6.1.getD a0.2.2.2.2.2.2.2.2.2.2.2.2.2.2.2.2.1.toNat (0,0,0)).2.2))
      some (0,(wJ a0 (y2,x6.2.1,x6.2.2.1,x6.2.2.2,a0.2.2.2.2.2.2.2.2.2.2.1,y0,a0.2.2.2.2.2.2.2.2.2.2.2.2))))
     else none)
    else none)
   else none)
  else none)
 else none
def Ld (k:Nat)(a0 a1:Int):Option wV:=
 bif decide (a1 > 0) then (bif decide (a0>(zA (9223372036854775807-a1))) then some (0,false)
  else bif decide (a1 < 0) then (bif decide (a0<(zA ((-9223372036854775808)-a1))) then some (0,false)
   else some ((zA (a0+a1)),true))
  else some ((zA (a0+a1)),true))
 else bif decide (a1 < 0) then (bif decide (a0<(zA ((-9223372036854775808)-a1))) then some (0,false)
  else some ((zA (a0+a1)),true))
 else some ((zA (a0+a1)),true)
def GY (k:Nat)(a0:zH)(a1:Int):Option (zH×Int):=
 (Ld k a0.1 a1).bind fun x0=>
 bif !x0.2 then some (a0,8)
 else(JV k x0.1 a0.2.1 a0.2.2).bind fun x1=>
 bif !x1 then some (a0,8)
 else some ((x0.1,a0.2),0)
def CM (k:Nat)(a0:zH)(a1:Int):Option (zH×Int):=
 (GY k a0 a1).bind fun x0=>
 some (x0.1,x0.2)
def sR (k:Nat)(bn bz aP a1:Int):Option Int:=
 some (vi false (zA (aP-a1)) 0)
def CN (k:Nat)(a0:zH)(a1 a2:Int):Option (zH×Int):=
 (GY k a0 (zA (0-a1))).bind fun x0=>
 bif decide (x0.2 = 0) then (bif decide (a2 = 1) then ((sR k a0.1 a0.2.1 a0.2.2 a1).bind fun x1=>
   some ((x0.1.1,x0.1.2.1,x1),x0.2))
  else bif decide (a2 = 2) then ((sR k a0.1 a0.2.1 a0.2.2 a1).bind fun x2=>
   some ((x0.1.1,x0.1.2.1,x2),x0.2))
  else some (x0.1,x0.2))
 else some (x0.1,x0.2)
def CO (k:Nat)(a0:zH)(a1:Int):Option Int:=
 bif decide (a1=3) then some (zA ((zA (a0.1+a0.2.1))-a0.2.2))
 else some (zA (a0.1+a0.2.1))
def UB (k:Nat)(a0:wK)(a1 a2 a3:Int):Option (Int×wK):=
 (yW k a2 0 (zA (a0.1-1))).bind fun x0=>
 bif !x0 then some (1,a0)
 else(yW k a3 1 1099511627776).bind fun x1=>
 bif !x1 then some (1,a0)
 else bif zC a2 a0.2.2.2.2.2.2.1.length then ((CM k (a0.2.2.2.2.2.2.1.getD a2.toNat (0,0,0)) a3).bind fun x2=>
  bif decide (a1 = 11) then ((CN k (a0.2.2.2.2.2.2.1.getD a2.toNat (0,0,0)) a3 3).bind fun x3=>
   (CO k (a0.2.2.2.2.2.2.1.getD a2.toNat (0,0,0)) 3).bind fun x4=>
   bif decide (x4<a3) then some (9,a0)
   else bif decide ((zA (a0.2.2.2.2.2.2.2.2.2.2.2.2.2.2.1-a3))<0) then some (9,a0)
   else bif !(decide (x3.2=0)) then some (x3.2,a0)
   else bif decide ((zA (a0.2.2.2.2.2.2.2.2.2.2.2.2.2.2.1-a3))>1152921504606846976) then some (8,a0)
   else(eP k a0.2.2.2.2.2.2.1 a0.2.2.2.2.2.2.2.1 a0.2.2.2.2.2.2.2.2.1 a0.2.2.2.2.2.2.2.2.2.1).bind fun x5=>
   bif zC a2 x5.1.length then some (0,(wJ a0 ((x5.1.set a2.toNat x3.1),x5.2.1,x5.2.2.1,x5.2.2.2,(D4 a0 ((zA (a0.2.2.2.2.2.2.2.2.2.2.2.2.2.2.1-a3)),a0.2.2.2.2.2.2.2.2.2.2.2.2.2.2.2)))))
   else none)
  else bif !(decide (x2.2=0)) then some (x2.2,a0)
  else bif decide ((zA (a0.2.2.2.2.2.2.2.2.2.2.2.2.2.2.1+a3))>1152921504606846976) then some (8,a0)
  else(eP k a0.2.2.2.2.2.2.1 a0.2.2.2.2.2.2.2.1 a0.2.2.2.2.2.2.2.2.1 a0.2.2.2.2.2.2.2.2.2.1).bind fun x6=>
  bif zC a2 x6.1.length then some (0,(wJ a0 ((x6.1.set a2.toNat x2.1),x6.2.1,x6.2.2.1,x6.2.2.2,(D4 a0 ((zA (a0.2.2.2.2.2.2.2.2.2.2.2.2.2.2.1+a3)),a0.2.2.2.2.2.2.2.2.2.2.2.2.2.2.2)))))
  else none)
 else none
abbrev UF:Type:=(iX×(List qP)×AC×(List zH)×EQ×AC×EQ)⊕(Int×iX×(List qP))
abbrev UD:Type:=EQ→Int→Int→iX→List qP→AC→List zH→EQ→AC→EQ→Option UF
def qZv (k:Nat)(rec:UD)(gl:EQ)(mw iL:Int)(b0:iX)(r1:List qP)(r2:AC)(r4:List zH)(m5:EQ)(r6:AC)(m7:EQ):Option UF:=
 bif decide (iL < mw) then (bif zC iL gl.length then ((oE k b0.2.1 r2 (gl.getD iL.toNat [])).bind fun x4=>
   bif !x4.2 then some (.inr (8,b0,r1))
   else bif decide (x4.1>1152921504606846976) then some (.inr (8,b0,r1))
   else bif zC iL r4.length then (let y0:List zH:=(r4.set iL.toNat ((r4.getD iL.toNat (0,0,0)).1,x4.1,(r4.getD iL.toNat (0,0,0)).2.2))
    rec gl mw (zA (iL+1)) b0 r1 r2 y0 m5 r6 m7)
   else none)
  else none)
 else some (.inl (b0,r1,r2,r4,m5,r6,m7))
def UG (k:Nat):Nat→UD:=vH (fun _ _ _ _ _ _ _ _ _ _=>none) (qZv k)
def qV8 (k:Nat)(a0:wK)(a1 a2:Int):Option (Int×wK):=
 (H3 k a0 a1).bind fun x0=>
 bif !x0 then some (1,a0)
 else(yW k a2 0 1048576).bind fun x1=>
 bif !x1 then some (1,a0)
 else(nj k a0.2.2.2.2.2.2.2.2.2.2.1 a1 a2).bind fun x2=>
 (eP k a0.2.2.2.2.2.2.1 a0.2.2.2.2.2.2.2.1 a0.2.2.2.2.2.2.2.2.1 a0.2.2.2.2.2.2.2.2.2.1).bind fun x3=>
 (UG k k a0.2.2.2.2.2.2.2.2.2.2.2.1 (a0.2.2.2.2.2.2.2.2.2.2.2.1.length:Int) 0 (iV a0) a0.2.2.2.2.2.2.2.2.2.2.2.2.2.2.2.2.2 x2 x3.1 x3.2.1 x3.2.2.1 x3.2.2.2).bind fun z=>
 match z with
 |.inl z1=>some (0,(wJ z1.1 (vRy z1 (z1.2.2.1,(Rx z1.1 z1.2.1)))))
 |.inr z2=>some (z2.1,(vA z2.2.1 z2.2.2))
def LP (k:Nat)(a0:wK)(a1:zB):Option (Int×wK):=
 bif decide (a1.1 = 1) then ((Lb k a0 a1.2).bind fun x0=>
  some (x0.1,x0.2))
 else bif decide (a1.1 = 2) then ((xd k a0 a1).bind fun x1=>
  some (x1.1,x1.2))
 else bif decide (a1.1 = 3) then ((xd k a0 a1).bind fun x2=>
  some (x2.1,x2.2))
 else bif decide (a1.1 = 4) then ((xd k a0 a1).bind fun x3=>
  some (x3.1,x3.2))
 else bif decide (a1.1 = 5) then ((xe k a0 a1).bind fun x4=>
  some (x4.1,x4.2))
 else bif decide (a1.1 = 6) then ((xe k a0 a1).bind fun x5=>
  some (x5.1,x5.2))
 else bif decide (a1.1 = 7) then ((xe k a0 a1).bind fun x6=>
  some (x6.1,x6.2))
 else bif decide (a1.1 = 8) then ((Lc k a0 a1.2.1 a1.2.2.1).bind fun x7=>
  some (x7.1,x7.2))
 else bif decide (a1.1 = 10) then ((UB k a0 a1.1 a1.2.1 a1.2.2.1).bind fun x8=>
  some (x8.1,x8.2))
 else bif decide (a1.1 = 11) then ((UB k a0 a1.1 a1.2.1 a1.2.2.1).bind fun x9=>
  some (x9.1,x9.2))
 else bif decide (a1.1 = 12) then ((qV8 k a0 a1.2.1 a1.2.2.1).bind fun gg=>
  some (gg.1,gg.2))
 else some (0,a0)
def nn (k:Nat)(a0 a1:Int)(a2:AC):Option qP:=
 some (a0,a1,(bif (Nat.blt 0 a2.length) then(a2.getD 0 0) else 0),(bif (Nat.blt 1 a2.length) then(a2.getD 1 0) else 0),(bif (Nat.blt 2 a2.length) then(a2.getD 2 0) else 0),(bif (Nat.blt 3 a2.length) then(a2.getD 3 0) else 0),(bif (Nat.blt 4 a2.length) then(a2.getD 4 0) else 0),(bif (Nat.blt 5 a2.length) then(a2.getD 5 0) else 0))
abbrev UI:Type:=Int×(List zH)×EQ×AC×EQ×AC×EQ×(List zB)×AC×Int×Bool×Int×Int×Bool×(List qP)
abbrev UH:Type:=List zB→Int→Int→Int→List zH→EQ→AC→EQ→AC→EQ→List zB→AC→Int→Bool→Int→Int→Bool→List qP→Option UI
def Cq (k:Nat)(rec:UH)(ao:List zB)(bc lH aa:Int)(ae:List zH)(af:EQ)(ab:AC)(aV:EQ)(bg:AC)(bh:EQ)(dv:List zB)(dw:AC)(dy:Int)(bR:Bool)(an bA:Int)(aQ:Bool)(r2:List qP):Option UI:=
 bif decide (lH < bc) then (bif zC lH ao.length then ((nn k (ao.getD lH.toNat (0,0,0,0,0,0,0)).2.1 22 [(ao.getD lH.toNat (0,0,0,0,0,0,0)).1]).bind fun x0=>
   bif zR (r2.length+1) 64 then(rec ao bc (zA (lH+1)) aa ae af ab aV bg bh dv dw dy bR an bA aQ (r2++[x0]))
   else none)
  else none)
 else some (aa,ae,af,ab,aV,bg,bh,dv,dw,dy,bR,an,bA,aQ,r2)
def Cp (k:Nat):Nat→UH
 |0,_,_,_,_,_,_,_,_,_,_,_,_,_,_,_,_,_,_=>none
 |n+1,ao,bc,lH,aa,ae,af,ab,aV,bg,bh,dv,dw,dy,bR,an,bA,aQ,r2=>Cq k (Cp k n) ao bc lH aa ae af ab aV bg bh dv dw dy bR an bA aQ r2
abbrev UJ:Type:=List zH→Int→Int→Int→List zH→EQ→AC→EQ→AC→EQ→List zB→AC→Int→Bool→Int→Int→Bool→List qP→Option UI
def Ct (k:Nat)(rec:UJ)(iZ:List zH)(eg kh aa:Int)(ae:List zH)(af:EQ)(ab:AC)(aV:EQ)(bg:AC)(bh:EQ)(dv:List zB)(dw:AC)(dy:Int)(bR:Bool)(an bA:Int)(aQ:Bool)(r2:List qP):Option UI:=
 bif decide (kh < eg) then (bif zC kh iZ.length then ((nn k kh 23 [(iZ.getD kh.toNat (0,0,0)).1]).bind fun x1=>
   bif zR (r2.length+1) 64 then(rec iZ eg (zA (kh+1)) aa ae af ab aV bg bh dv dw dy bR an bA aQ (r2++[x1]))
   else none)
  else none)
 else some (aa,ae,af,ab,aV,bg,bh,dv,dw,dy,bR,an,bA,aQ,r2)
def GU (k:Nat):Nat→UJ
 |0,_,_,_,_,_,_,_,_,_,_,_,_,_,_,_,_,_,_=>none
 |n+1,iZ,eg,kh,aa,ae,af,ab,aV,bg,bh,dv,dw,dy,bR,an,bA,aQ,r2=>Ct k (GU k n) iZ eg kh aa ae af ab aV bg bh dv dw dy bR an bA aQ r2
def K9 (k:Nat)(xR:Int)(Ie:List zH)(Ig:EQ)(Ih:AC)(Ii:EQ)(Ij:AC)(Ik:EQ)(xS:List zB)(Il:AC)(Im:Int)(Io:Bool):Option M6:=
 (Cp k k xS (xS.length:Int) 0 xR Ie Ig Ih Ii Ij Ik xS Il Im Io 0 0 false []).bind fun z=>
 (GU k k z.2.1 (z.2.1.length:Int) 0 z.1 z.2.1 z.2.2.1 z.2.2.2.1 z.2.2.2.2.1 z.2.2.2.2.2.1 z.2.2.2.2.2.2.1 z.2.2.2.2.2.2.2.1 z.2.2.2.2.2.2.2.2.1 z.2.2.2.2.2.2.2.2.2.1 z.2.2.2.2.2.2.2.2.2.2.1 z.2.2.2.2.2.2.2.2.2.2.2.1 z.2.2.2.2.2.2.2.2.2.2.2.2.1 z.2.2.2.2.2.2.2.2.2.2.2.2.2.1 z.2.2.2.2.2.2.2.2.2.2.2.2.2.2).bind fun z1=>
 some (gQ z1 ([],z1.2.2.2.2.2.2.2.2.1,z1.2.2.2.2.2.2.2.2.2.1,true,z1.2.2.2.2.2.2.2.2.2.2.2.2.2.2))
def Rc (k:Nat)(bU aq bq aB az aI aN a1:Int):Option Bool:=
 some (decide (a1>aN))
def Cw (k:Nat)(cO:Int)(dz:List vY)(dA cP bV a1:Int):Option Bool:=
 bif decide (a1 > 0) then (bif decide (a1 < cP) then (bif !(decide (bV=0)) then some (decide ((Int.tmod a1 bV)=0))
   else none)
  else some false)
 else some false
def Qz (k:Nat)(bU aq bq aB az aI aN a1:Int):Option Bool:=
 bif decide (a1≥aI) then some (decide (a1≤aN))
 else some false
def Qy (k:Nat)(bU aq bq aB az aI aN a1:Int):Option Bool:=
 (Qz k bU aq bq aB az aI aN a1).bind fun x0=>
 some x0
def Bp (k:Nat)(rec:Ug)(s8:List zB)(s9 ao aa:Int)(r1:List zB):Option Ui:=
 bif decide (ao < s9) then (bif zC ao s8.length then ((Qy k (s8.getD ao.toNat (0,0,0,0,0,0,0)).1 (s8.getD ao.toNat (0,0,0,0,0,0,0)).2.1 (s8.getD ao.toNat (0,0,0,0,0,0,0)).2.2.1 (s8.getD ao.toNat (0,0,0,0,0,0,0)).2.2.2.1 (s8.getD ao.toNat (0,0,0,0,0,0,0)).2.2.2.2.1 (s8.getD ao.toNat (0,0,0,0,0,0,0)).2.2.2.2.2.1 (s8.getD ao.toNat (0,0,0,0,0,0,0)).2.2.2.2.2.2 aa).bind fun x0=>
   bif x0 then (bif zR (r1.length + 1) 56 then (let y0:List zB:=(r1++[(s8.getD ao.toNat (0,0,0,0,0,0,0))])
     rec s8 s9 (zA (ao+1)) aa y0)
    else none)
   else rec s8 s9 (zA (ao+1)) aa r1)
  else none)
 else some r1
def Gd (k:Nat):Nat→Ug
 |0,_,_,_,_,_=>none
 |n+1,s8,s9,ao,aa,r1=>Bp k (Gd k n) s8 s9 ao aa r1
def Qx (k:Nat)(a0:List zB)(cH:Int):Option (List zB):=
 (Gd k k a0 (a0.length:Int) 0 cH []).bind fun z=>
 some z
def Bo (k:Nat)(a0:List zB)(a1:Int):Option (List zB):=
 (Qx k a0 a1).bind fun x0=>
 some x0
def QD (k:Nat)(bU aq bq aB az aI aN oT gj kf lF kg rA rC:Int):Option Bool:=
 bif decide (aq=gj) then some (!(decide (az=3)))
 else some false
abbrev UP:Type:=List zB→Int→Int→Int→Int→Int→Int→Int→Int→Int→Option (Unit⊕Int)
def Bx (k:Nat)(rec:UP)(s0:List zB)(s7 s8 aa ae af ab aV bg bh:Int):Option (Unit⊕Int):=
 bif decide (s8 < s7) then (bif zC s8 s0.length then ((QD k (s0.getD s8.toNat (0,0,0,0,0,0,0)).1 (s0.getD s8.toNat (0,0,0,0,0,0,0)).2.1 (s0.getD s8.toNat (0,0,0,0,0,0,0)).2.2.1 (s0.getD s8.toNat (0,0,0,0,0,0,0)).2.2.2.1 (s0.getD s8.toNat (0,0,0,0,0,0,0)).2.2.2.2.1 (s0.getD s8.toNat (0,0,0,0,0,0,0)).2.2.2.2.2.1 (s0.getD s8.toNat (0,0,0,0,0,0,0)).2.2.2.2.2.2 aa ae af ab aV bg bh).bind fun x0=>
   bif x0 then some (.inr s8)
   else rec s0 s7 (zA (s8+1)) aa ae af ab aV bg bh)
  else none)
 else some (.inl ())
def Gj (k:Nat):Nat→UP
 |0,_,_,_,_,_,_,_,_,_,_=>none
 |n+1,s0,s7,s8,aa,ae,af,ab,aV,bg,bh=>Bx k (Gj k n) s0 s7 s8 aa ae af ab aV bg bh
def QE (k:Nat)(a0:List zB)(ki eE kj cW dJ dK eF:Int):Option Int:=
 (Gj k k a0 (a0.length:Int) 0 ki eE kj cW dJ dK eF).bind fun z=>
 match z with
 |.inl z1=>some (-1)
 |.inr z2=>some z2
def KB (k:Nat)(a0:List zB)(ki eE kj cW dJ dK eF:Int):Option Bool:=
 (QE k a0 ki eE kj cW dJ dK eF).bind fun x0=>
 some (decide (x0≥0))
def QG (k:Nat)(bU aq bq aB az aI aN:Int)(a1:List wV)(a2:List zB):Option (Bool×(List wV)):=
 bif !(Option.getD (List.lookup aq a1) false) then some (true,((aq,true)::a1))
 else bif decide (az = 3) then ((KB k a2 bU aq bq aB az aI aN).bind fun x0=>
  some ((!x0),((aq,true)::a1)))
 else some (false,((aq,true)::a1))
abbrev UT:Type:=(List wV)×(List zB)×(List zB)
abbrev UR:Type:=List zB→Int→Int→List wV→List zB→List zB→Option UT
def Bz (k:Nat)(rec:UR)(s8:List zB)(s9 ao:Int)(p1:List wV)(aZ r3:List zB):Option UT:=
 bif decide (ao < s9) then (bif zC ao s8.length then ((QG k (s8.getD ao.toNat (0,0,0,0,0,0,0)).1 (s8.getD ao.toNat (0,0,0,0,0,0,0)).2.1 (s8.getD ao.toNat (0,0,0,0,0,0,0)).2.2.1 (s8.getD ao.toNat (0,0,0,0,0,0,0)).2.2.2.1 (s8.getD ao.toNat (0,0,0,0,0,0,0)).2.2.2.2.1 (s8.getD ao.toNat (0,0,0,0,0,0,0)).2.2.2.2.2.1 (s8.getD ao.toNat (0,0,0,0,0,0,0)).2.2.2.2.2.2 p1 aZ).bind fun x0=>
   bif x0.1 then (bif zR (r3.length + 1) 56 then (let y0:List zB:=(r3++[(s8.getD ao.toNat (0,0,0,0,0,0,0))])
     rec s8 s9 (zA (ao+1)) x0.2 aZ y0)
    else none)
   else rec s8 s9 (zA (ao+1)) x0.2 aZ r3)
  else none)
 else some (p1,aZ,r3)
def By (k:Nat):Nat→UR
 |0,_,_,_,_,_,_=>none
 |n+1,s8,s9,ao,p1,aZ,r3=>Bz k (By k n) s8 s9 ao p1 aZ r3
def QF (k:Nat)(a0:List zB)(cH:List wV)(Ye:List zB):Option ((List zB)×(List wV)):=
 (By k k a0 (a0.length:Int) 0 cH Ye []).bind fun z=>
 some (z.2.2,z.1)
def Gk (k:Nat)(a0:List zB)(a1:Int):Option (List zB):=
 (Bo k a0 a1).bind fun x0=>
 (QF k x0 [] x0).bind fun x1=>
 some x1.1
def Qu (k:Nat)(bU aq bq aB az aI aN:Int)(iK:List zH)(rF:EQ)(rG:AC)(rH:EQ):Option Bool:=
 (AR k iK rF rG rH bU aq bq aB az aI aN).bind fun x0=>
 some (!x0)
abbrev UU:Type:=List zB→Int→Int→List zH→EQ→AC→EQ→Option (Unit⊕Int)
def Bn (k:Nat)(rec:UU)(s0:List zB)(s7 s8:Int)(aa:List zH)(ae:EQ)(af:AC)(ab:EQ):Option (Unit⊕Int):=
 bif decide (s8 < s7) then (bif zC s8 s0.length then ((Qu k (s0.getD s8.toNat (0,0,0,0,0,0,0)).1 (s0.getD s8.toNat (0,0,0,0,0,0,0)).2.1 (s0.getD s8.toNat (0,0,0,0,0,0,0)).2.2.1 (s0.getD s8.toNat (0,0,0,0,0,0,0)).2.2.2.1 (s0.getD s8.toNat (0,0,0,0,0,0,0)).2.2.2.2.1 (s0.getD s8.toNat (0,0,0,0,0,0,0)).2.2.2.2.2.1 (s0.getD s8.toNat (0,0,0,0,0,0,0)).2.2.2.2.2.2 aa ae af ab).bind fun x0=>
   bif x0 then some (.inr s8)
   else rec s0 s7 (zA (s8+1)) aa ae af ab)
  else none)
 else some (.inl ())
def Ga (k:Nat):Nat→UU
 |0,_,_,_,_,_,_,_=>none
 |n+1,s0,s7,s8,aa,ae,af,ab=>Bn k (Ga k n) s0 s7 s8 aa ae af ab
def Qv (k:Nat)(a0:List zB)(bC:List zH)(cj:EQ)(cm:AC)(cn:EQ):Option Int:=
 (Ga k k a0 (a0.length:Int) 0 bC cj cm cn).bind fun z=>
 match z with
 |.inl z1=>some (-1)
 |.inr z2=>some z2
def Kx (k:Nat)(a0:List zB)(bC:List zH)(cj:EQ)(cm:AC)(cn:EQ):Option Bool:=
 (Qv k a0 bC cj cm cn).bind fun x0=>
 some (decide (x0≥0))
abbrev U0:Type:=AC×AC×EQ
abbrev UY:Type:=List zB→Int→Int→AC→AC→EQ→Option U0
def Bf (k:Nat)(rec:UY)(ba:List zB)(ca bm:Int)(r2 r3:AC)(m4:EQ):Option U0:=
 bif decide (bm < ca) then (bif zC bm ba.length then (bif zC (ba.getD bm.toNat (0, 0, 0, 0, 0, 0, 0)).2.1 r2.length then (bif zC (ba.getD bm.toNat (0, 0, 0, 0, 0, 0, 0)).2.1 r2.length then (let y0:AC:=(r2.set (ba.getD bm.toNat (0,0,0,0,0,0,0)).2.1.toNat (zA ((r2.getD (ba.getD bm.toNat (0,0,0,0,0,0,0)).2.1.toNat 0)-(ba.getD bm.toNat (0,0,0,0,0,0,0)).2.2.2.1)))
     bif zC (ba.getD bm.toNat (0, 0, 0, 0, 0, 0, 0)).2.2.1 y0.length then (bif zC (ba.getD bm.toNat (0, 0, 0, 0, 0, 0, 0)).2.2.1 y0.length then (let y1:AC:=(y0.set (ba.getD bm.toNat (0,0,0,0,0,0,0)).2.2.1.toNat (zA ((y0.getD (ba.getD bm.toNat (0,0,0,0,0,0,0)).2.2.1.toNat 0)+(ba.getD bm.toNat (0,0,0,0,0,0,0)).2.2.2.1)))
       bif zC (ba.getD bm.toNat (0, 0, 0, 0, 0, 0, 0)).2.1 m4.length then (bif zC (ba.getD bm.toNat (0, 0, 0, 0, 0, 0, 0)).2.2.1 (m4.getD (ba.getD bm.toNat (0, 0, 0, 0, 0, 0, 0)).2.1.toNat []).length then (bif zC (ba.getD bm.toNat (0, 0, 0, 0, 0, 0, 0)).2.2.1 (m4.getD (ba.getD bm.toNat (0, 0, 0, 0, 0, 0, 0)).2.1.toNat []).length then (let y2:EQ:=(m4.set (ba.getD bm.toNat (0,0,0,0,0,0,0)).2.1.toNat ((m4.getD (ba.getD bm.toNat (0,0,0,0,0,0,0)).2.1.toNat []).set (ba.getD bm.toNat (0,0,0,0,0,0,0)).2.2.1.toNat (zA (((m4.getD (ba.getD bm.toNat (0,0,0,0,0,0,0)).2.1.toNat []).getD (ba.getD bm.toNat (0,0,0,0,0,0,0)).2.2.1.toNat 0)+(ba.getD bm.toNat (0,0,0,0,0,0,0)).2.2.2.1))))
          bif zC (ba.getD bm.toNat (0, 0, 0, 0, 0, 0, 0)).2.2.1 y2.length then (bif zC (ba.getD bm.toNat (0, 0, 0, 0, 0, 0, 0)).2.1 (y2.getD (ba.getD bm.toNat (0, 0, 0, 0, 0, 0, 0)).2.2.1.toNat []).length then (bif zC (ba.getD bm.toNat (0, 0, 0, 0, 0, 0, 0)).2.1 (y2.getD (ba.getD bm.toNat (0, 0, 0, 0, 0, 0, 0)).2.2.1.toNat []).length then (let y3:EQ:=(y2.set (ba.getD bm.toNat (0,0,0,0,0,0,0)).2.2.1.toNat ((y2.getD (ba.getD bm.toNat (0,0,0,0,0,0,0)).2.2.1.toNat []).set (ba.getD bm.toNat (0,0,0,0,0,0,0)).2.1.toNat (zA (((y2.getD (ba.getD bm.toNat (0,0,0,0,0,0,0)).2.2.1.toNat []).getD (ba.getD bm.toNat (0,0,0,0,0,0,0)).2.1.toNat 0)-(ba.getD bm.toNat (0,0,0,0,0,0,0)).2.2.2.1))))
             bif !(decide ((ba.getD bm.toNat (0, 0, 0, 0, 0, 0, 0)).2.2.2.2.1 = 3)) then (bif zC (ba.getD bm.toNat (0, 0, 0, 0, 0, 0, 0)).2.1 r3.length then (bif zC (ba.getD bm.toNat (0, 0, 0, 0, 0, 0, 0)).2.1 r3.length then (let y4:AC:=(r3.set (ba.getD bm.toNat (0,0,0,0,0,0,0)).2.1.toNat (zA ((r3.getD (ba.getD bm.toNat (0,0,0,0,0,0,0)).2.1.toNat 0)+(ba.getD bm.toNat (0,0,0,0,0,0,0)).2.2.2.1)))
                rec ba ca (zA (bm+1)) y1 y4 y3)
               else none)
              else none)
             else rec ba ca (zA (bm+1)) y1 r3 y3)
            else none)
           else none)
          else none)
         else none)
        else none)
       else none)
      else none)
     else none)
    else none)
   else none)
  else none)
 else some (r2,r3,m4)
def F6 (k:Nat):Nat→UY
 |0,_,_,_,_,_,_=>none
 |n+1,ba,ca,bm,r2,r3,m4=>Bf k (F6 k n) ba ca bm r2 r3 m4
def Ks (k:Nat)(a0:Int)(a1:List zB):Option (AC×AC×EQ):=
 (wg k a0 0).bind fun x0=>
 (wg k a0 0).bind fun x1=>
 (Bd k a0 0).bind fun x2=>
 (F6 k k a1 (a1.length:Int) 0 x0 x1 x2).bind fun z=>
 some (z.1,z.2.1,z.2.2)
def Qo (k:Nat)(bU aq bq aB az aI aN a1:Int):Option Bool:=
 some (decide (aq=a1))
def Bg (k:Nat)(rec:SO)(s0:List zB)(s7 s8 aa:Int):Option (Unit⊕Int):=
 bif decide (s8 < s7) then (bif zC s8 s0.length then ((Qo k (s0.getD s8.toNat (0,0,0,0,0,0,0)).1 (s0.getD s8.toNat (0,0,0,0,0,0,0)).2.1 (s0.getD s8.toNat (0,0,0,0,0,0,0)).2.2.1 (s0.getD s8.toNat (0,0,0,0,0,0,0)).2.2.2.1 (s0.getD s8.toNat (0,0,0,0,0,0,0)).2.2.2.2.1 (s0.getD s8.toNat (0,0,0,0,0,0,0)).2.2.2.2.2.1 (s0.getD s8.toNat (0,0,0,0,0,0,0)).2.2.2.2.2.2 aa).bind fun x0=>
   bif x0 then some (.inr s8)
   else rec s0 s7 (zA (s8+1)) aa)
  else none)
 else some (.inl ())
def F7 (k:Nat):Nat→SO
 |0,_,_,_,_=>none
 |n+1,s0,s7,s8,aa=>Bg k (F7 k n) s0 s7 s8 aa
def Qp (k:Nat)(a0:List zB)(cH:Int):Option Int:=
 (F7 k k a0 (a0.length:Int) 0 cH).bind fun z=>
 match z with
 |.inl z1=>some (-1)
 |.inr z2=>some z2
def Kt (k:Nat)(a0:List zB)(cH:Int):Option Bool:=
 (Qp k a0 cH).bind fun x0=>
 some (decide (x0≥0))
def Bb (k:Nat)(rec:Int→AC→Int→Int→Option Int)(s5:Int)(lH:AC)(bL bx:Int):Option Int:=
 bif decide (bx < bL) then (bif zC bx lH.length then(rec (zA (s5+(lH.getD bx.toNat 0))) lH bL (zA (bx+1)))
  else none)
 else some s5
def Ba (k:Nat):Nat→Int→AC→Int→Int→Option Int
 |0,_,_,_,_=>none
 |n+1,s5,lH,bL,bx=>Bb k (Ba k n) s5 lH bL bx
def Kp (k:Nat)(aL:List zH)(aY:EQ)(aX:AC)(aT:EQ)(a1:Int):Option Int:=
 bif zC a1 aT.length then ((Ba k k 0 (aT.getD a1.toNat []) ((aT.getD a1.toNat []).length:Int) 0).bind fun z=>
  some z)
 else none
def Bi (k:Nat)(a0 a1:Int):Option Bool:=
 bif !(decide (a1=(-1))) then some (decide (a0>a1))
 else some false
def Qq (k:Nat)(bU aq bq aB az aI aN a1 lI nu lJ:Int)(Yf kS:AC)(dL:EQ)(a4:Int)(Na:List zH)(fP:EQ)(aah:AC)(fQ:EQ):Option Bool:=
 bif !(decide (aq=a1)) then some false
 else bif zC a1 kS.length then ((sR k lI nu lJ (kS.getD a1.toNat 0)).bind fun x0=>
  bif decide (az = 3) then (bif decide (a4<x0) then some true
   else bif zC a1 fQ.length then (bif zC bq (fQ.getD a1.toNat []).length then (bif zC a1 dL.length then (bif zC bq (dL.getD a1.toNat []).length then (bif zC a1 fP.length then (bif zC bq (fP.getD a1.toNat []).length then ((Bi k (zA (((fQ.getD a1.toNat []).getD bq.toNat 0)+((dL.getD a1.toNat []).getD bq.toNat 0))) ((fP.getD a1.toNat []).getD bq.toNat 0)).bind fun x1=>
         some x1)
        else none)
       else none)
      else none)
     else none)
    else none)
   else none)
  else bif zC a1 fQ.length then (bif zC bq (fQ.getD a1.toNat []).length then (bif zC a1 dL.length then (bif zC bq (dL.getD a1.toNat []).length then (bif zC a1 fP.length then (bif zC bq (fP.getD a1.toNat []).length then ((Bi k (zA (((fQ.getD a1.toNat []).getD bq.toNat 0)+((dL.getD a1.toNat []).getD bq.toNat 0))) ((fP.getD a1.toNat []).getD bq.toNat 0)).bind fun x2=>
        some x2)
       else none)
      else none)
     else none)
    else none)
   else none)
  else none)
 else none
abbrev U6:Type:=List zB→Int→Int→Int→Int→Int→Int→AC→AC→EQ→Int→List zH→EQ→AC→EQ→Option (Unit⊕Int)
def Bj (k:Nat)(rec:U6)(s0:List zB)(s7 s8 aa an ar au:Int)(aZ bP:AC)(bQ:EQ)(bW:Int)(gm:List zH)(rI:EQ)(rJ:AC)(rK:EQ):Option (Unit⊕Int):=
 bif decide (s8 < s7) then (bif zC s8 s0.length then ((Qq k (s0.getD s8.toNat (0,0,0,0,0,0,0)).1 (s0.getD s8.toNat (0,0,0,0,0,0,0)).2.1 (s0.getD s8.toNat (0,0,0,0,0,0,0)).2.2.1 (s0.getD s8.toNat (0,0,0,0,0,0,0)).2.2.2.1 (s0.getD s8.toNat (0,0,0,0,0,0,0)).2.2.2.2.1 (s0.getD s8.toNat (0,0,0,0,0,0,0)).2.2.2.2.2.1 (s0.getD s8.toNat (0,0,0,0,0,0,0)).2.2.2.2.2.2 aa an ar au aZ bP bQ bW gm rI rJ rK).bind fun x0=>
   bif x0 then some (.inr s8)
   else rec s0 s7 (zA (s8+1)) aa an ar au aZ bP bQ bW gm rI rJ rK)
  else none)
 else some (.inl ())
def F9 (k:Nat):Nat→U6
 |0,_,_,_,_,_,_,_,_,_,_,_,_,_,_,_=>none
 |n+1,s0,s7,s8,aa,an,ar,au,aZ,bP,bQ,bW,gm,rI,rJ,rK=>Bj k (F9 k n) s0 s7 s8 aa an ar au aZ bP bQ bW gm rI rJ rK
def Qr (k:Nat)(a0:List zB)(cH cI cX cJ:Int)(eG dM:AC)(eH:EQ)(xV:Int)(dN:List zH)(gn:EQ)(gp:AC)(gq:EQ):Option Int:=
 (F9 k k a0 (a0.length:Int) 0 cH cI cX cJ eG dM eH xV dN gn gp gq).bind fun z=>
 match z with
 |.inl z1=>some (-1)
 |.inr z2=>some z2
def Ku (k:Nat)(a0:List zB)(cH cI cX cJ:Int)(eG dM:AC)(eH:EQ)(xV:Int)(dN:List zH)(gn:EQ)(gp:AC)(gq:EQ):Option Bool:=
 (Qr k a0 cH cI cX cJ eG dM eH xV dN gn gp gq).bind fun x0=>
 some (decide (x0≥0))
abbrev Vb:Type:=(List zB)×Int×AC×AC×EQ×(List zH)×EQ×AC×EQ×Int×Int×Int×Int×Int
abbrev U9:Type:=List zB→Int→AC→Int→Int→AC→AC→EQ→List zH→EQ→AC→EQ→Int→Int→Int→Int→Int→Option Vb
def Bk (k:Nat)(rec:U9)(s3:List zB)(bc:Int)(oV:AC)(gl mw:Int)(aa ae:AC)(af:EQ)(an:List zH)(ar:EQ)(au:AC)(ax:EQ)(aZ bW cK cR gm:Int):Option Vb:=
 bif decide (mw < gl) then (bif zC mw oV.length then(rec s3 (zA (bc+(oV.getD mw.toNat 0))) oV gl (zA (mw+1)) aa ae af an ar au ax aZ bW cK cR gm)
  else none)
 else some (s3,bc,aa,ae,af,an,ar,au,ax,aZ,bW,cK,cR,gm)
def wi (k:Nat):Nat→U9
 |0,_,_,_,_,_,_,_,_,_,_,_,_,_,_,_,_,_=>none
 |n+1,s3,bc,oV,gl,mw,aa,ae,af,an,ar,au,ax,aZ,bW,cK,cR,gm=>Bk k (wi k n) s3 bc oV gl mw aa ae af an ar au ax aZ bW cK cR gm
def Kw (k:Nat)(gu rL:AC)(gv:EQ)(iK:List zH)(rF:EQ)(rG:AC)(rH:EQ)(a2:Int)(a3:List zB):Option Bool:=
 bif zC a2 iK.length then (bif zC a2 gu.length then (bif decide ((zA ((zA ((iK.getD a2.toNat (0,0,0)).1+(iK.getD a2.toNat (0,0,0)).2.1))+(gu.getD a2.toNat 0)))<0) then some true
   else(Kp k iK rF rG rH a2).bind fun x0=>
   bif zC a2 gv.length then ((wi k k a3 x0 (gv.getD a2.toNat []) ((gv.getD a2.toNat []).length:Int) 0 gu rL gv iK rF rG rH a2 (iK.getD a2.toNat (0,0,0)).1 (iK.getD a2.toNat (0,0,0)).2.1 (iK.getD a2.toNat (0,0,0)).2.2 (zA ((zA ((iK.getD a2.toNat (0,0,0)).1+(iK.getD a2.toNat (0,0,0)).2.1))+(gu.getD a2.toNat 0)))).bind fun z=>
    bif zC z.2.2.2.2.2.2.2.2.2.1 z.2.2.2.2.2.2.2.1.length then ((Bi k z.2.1 (z.2.2.2.2.2.2.2.1.getD z.2.2.2.2.2.2.2.2.2.1.toNat 0)).bind fun x1=>
     bif x1 then some true
     else(Ku k z.1 z.2.2.2.2.2.2.2.2.2.1 z.2.2.2.2.2.2.2.2.2.2.1 z.2.2.2.2.2.2.2.2.2.2.2.1 z.2.2.2.2.2.2.2.2.2.2.2.2.1 z.2.2.1 z.2.2.2.1 z.2.2.2.2.1 z.2.2.2.2.2.2.2.2.2.2.2.2.2 z.2.2.2.2.2.1 z.2.2.2.2.2.2.1 z.2.2.2.2.2.2.2.1 z.2.2.2.2.2.2.2.2.1).bind fun x2=>
     some x2)
    else none)
   else none)
  else none)
 else none
abbrev Vc:Type:=List zB→Int→Int→List zH→EQ→AC→EQ→AC→AC→EQ→AC→Option AC
def Bm (k:Nat)(rec:Vc)(s1:List zB)(ca bm:Int)(aa:List zH)(ae:EQ)(af:AC)(ab:EQ)(r2 r3:AC)(m4:EQ)(r5:AC):Option AC:=
 bif decide (bm < ca) then ((Kt k s1 bm).bind fun x1=>
  bif x1 then ((Kw k r2 r3 m4 aa ae af ab bm s1).bind fun x2=>
   bif x2 then (bif zR (r5.length+1) 8 then(rec s1 ca (zA (bm+1)) aa ae af ab r2 r3 m4 (r5++[bm]))
    else none)
   else rec s1 ca (zA (bm+1)) aa ae af ab r2 r3 m4 r5)
  else rec s1 ca (zA (bm+1)) aa ae af ab r2 r3 m4 r5)
 else some r5
def Bl (k:Nat):Nat→Vc
 |0,_,_,_,_,_,_,_,_,_,_,_=>none
 |n+1,s1,ca,bm,aa,ae,af,ab,r2,r3,m4,r5=>Bm k (Bl k n) s1 ca bm aa ae af ab r2 r3 m4 r5
def wj (k:Nat)(aL:List zH)(aY:EQ)(aX:AC)(aT:EQ)(a1:List zB):Option AC:=
 (Ks k (aL.length:Int) a1).bind fun x0=>
 (Bl k k a1 (aL.length:Int) 0 aL aY aX aT x0.1 x0.2.1 x0.2.2 []).bind fun z=>
 some z
def wk (k:Nat)(aL:List zH)(aY:EQ)(aX:AC)(aT:EQ)(a1:List zB):Option Bool:=
 bif decide ((a1.length : Int) ≤ 64) then ((Kx k a1 aL aY aX aT).bind fun x0=>
  bif !x0 then ((wj k aL aY aX aT a1).bind fun x1=>
   some (decide ((x1.length:Int)=0)))
  else some false)
 else some false
def Qg (k:Nat)(bU aq bq aB az aI aN:Int)(iK:List zH)(rF:EQ)(rG:AC)(rH:EQ):Option Bool:=
 (AR k iK rF rG rH bU aq bq aB az aI aN).bind fun x0=>
 some (!x0)
def AT (k:Nat)(rec:UU)(s0:List zB)(s7 s8:Int)(aa:List zH)(ae:EQ)(af:AC)(ab:EQ):Option (Unit⊕Int):=
 bif decide (s8 < s7) then (bif zC s8 s0.length then ((Qg k (s0.getD s8.toNat (0,0,0,0,0,0,0)).1 (s0.getD s8.toNat (0,0,0,0,0,0,0)).2.1 (s0.getD s8.toNat (0,0,0,0,0,0,0)).2.2.1 (s0.getD s8.toNat (0,0,0,0,0,0,0)).2.2.2.1 (s0.getD s8.toNat (0,0,0,0,0,0,0)).2.2.2.2.1 (s0.getD s8.toNat (0,0,0,0,0,0,0)).2.2.2.2.2.1 (s0.getD s8.toNat (0,0,0,0,0,0,0)).2.2.2.2.2.2 aa ae af ab).bind fun x0=>
   bif x0 then some (.inr s8)
   else rec s0 s7 (zA (s8+1)) aa ae af ab)
  else none)
 else some (.inl ())
def FR (k:Nat):Nat→UU
 |0,_,_,_,_,_,_,_=>none
 |n+1,s0,s7,s8,aa,ae,af,ab=>AT k (FR k n) s0 s7 s8 aa ae af ab
def Qh (k:Nat)(a0:List zB)(bC:List zH)(cj:EQ)(cm:AC)(cn:EQ):Option Int:=
 (FR k k a0 (a0.length:Int) 0 bC cj cm cn).bind fun z=>
 match z with
 |.inl z1=>some (-1)
 |.inr z2=>some z2
def J8 (k:Nat)(a0:List zB)(bC:List zH)(cj:EQ)(cm:AC)(cn:EQ):Option Bool:=
 (Qh k a0 bC cj cm cn).bind fun x0=>
 some (decide (x0≥0))
abbrev Vi:Type:=(List zH)×EQ×AC×EQ×(List zH)×EQ×AC×EQ
abbrev Vg:Type:=List zB→Int→Int→List zH→EQ→AC→EQ→List zH→EQ→AC→EQ→Option Vi
def AY (k:Nat)(rec:Vg)(bo:List zB)(gW aR:Int)(aa:List zH)(ae:EQ)(af:AC)(ab:EQ)(r3:List zH)(m4:EQ)(r5:AC)(m6:EQ):Option Vi:=
 bif decide (aR < gW) then (bif zC aR bo.length then (bif zC (bo.getD aR.toNat (0, 0, 0, 0, 0, 0, 0)).2.1 r3.length then (bif zC (bo.getD aR.toNat (0, 0, 0, 0, 0, 0, 0)).2.2.1 r3.length then (let y0:List zH:=(r3.set (bo.getD aR.toNat (0,0,0,0,0,0,0)).2.1.toNat ((zA ((r3.getD (bo.getD aR.toNat (0,0,0,0,0,0,0)).2.1.toNat (0,0,0)).1-(bo.getD aR.toNat (0,0,0,0,0,0,0)).2.2.2.1)),(r3.getD (bo.getD aR.toNat (0,0,0,0,0,0,0)).2.1.toNat (0,0,0)).2))
     let y1:List zH:=(y0.set (bo.getD aR.toNat (0,0,0,0,0,0,0)).2.2.1.toNat ((zA ((y0.getD (bo.getD aR.toNat (0,0,0,0,0,0,0)).2.2.1.toNat (0,0,0)).1+(bo.getD aR.toNat (0,0,0,0,0,0,0)).2.2.2.1)),(y0.getD (bo.getD aR.toNat (0,0,0,0,0,0,0)).2.2.1.toNat (0,0,0)).2))
     bif !(decide ((bo.getD aR.toNat (0, 0, 0, 0, 0, 0, 0)).2.2.2.2.1 = 3)) then ((sR k (y1.getD (bo.getD aR.toNat (0,0,0,0,0,0,0)).2.1.toNat (0,0,0)).1 (y1.getD (bo.getD aR.toNat (0,0,0,0,0,0,0)).2.1.toNat (0,0,0)).2.1 (y1.getD (bo.getD aR.toNat (0,0,0,0,0,0,0)).2.1.toNat (0,0,0)).2.2 (bo.getD aR.toNat (0,0,0,0,0,0,0)).2.2.2.1).bind fun x2=>
      let y2:List zH:=(y1.set (bo.getD aR.toNat (0,0,0,0,0,0,0)).2.1.toNat ((y1.getD (bo.getD aR.toNat (0,0,0,0,0,0,0)).2.1.toNat (0,0,0)).1,(y1.getD (bo.getD aR.toNat (0,0,0,0,0,0,0)).2.1.toNat (0,0,0)).2.1,x2))
      bif zC (bo.getD aR.toNat (0, 0, 0, 0, 0, 0, 0)).2.1 m6.length then (bif zC (bo.getD aR.toNat (0, 0, 0, 0, 0, 0, 0)).2.2.1 (m6.getD (bo.getD aR.toNat (0, 0, 0, 0, 0, 0, 0)).2.1.toNat []).length then (bif zC (bo.getD aR.toNat (0, 0, 0, 0, 0, 0, 0)).2.2.1 (m6.getD (bo.getD aR.toNat (0, 0, 0, 0, 0, 0, 0)).2.1.toNat []).length then (let y3:EQ:=(m6.set (bo.getD aR.toNat (0,0,0,0,0,0,0)).2.1.toNat ((m6.getD (bo.getD aR.toNat (0,0,0,0,0,0,0)).2.1.toNat []).set (bo.getD aR.toNat (0,0,0,0,0,0,0)).2.2.1.toNat (zA (((m6.getD (bo.getD aR.toNat (0,0,0,0,0,0,0)).2.1.toNat []).getD (bo.getD aR.toNat (0,0,0,0,0,0,0)).2.2.1.toNat 0)+(bo.getD aR.toNat (0,0,0,0,0,0,0)).2.2.2.1))))
         bif zC (bo.getD aR.toNat (0, 0, 0, 0, 0, 0, 0)).2.2.1 y3.length then (bif zC (bo.getD aR.toNat (0, 0, 0, 0, 0, 0, 0)).2.1 (y3.getD (bo.getD aR.toNat (0, 0, 0, 0, 0, 0, 0)).2.2.1.toNat []).length then (bif zC (bo.getD aR.toNat (0, 0, 0, 0, 0, 0, 0)).2.1 (y3.getD (bo.getD aR.toNat (0, 0, 0, 0, 0, 0, 0)).2.2.1.toNat []).length then (let y4:EQ:=(y3.set (bo.getD aR.toNat (0,0,0,0,0,0,0)).2.2.1.toNat ((y3.getD (bo.getD aR.toNat (0,0,0,0,0,0,0)).2.2.1.toNat []).set (bo.getD aR.toNat (0,0,0,0,0,0,0)).2.1.toNat (zA (((y3.getD (bo.getD aR.toNat (0,0,0,0,0,0,0)).2.2.1.toNat []).getD (bo.getD aR.toNat (0,0,0,0,0,0,0)).2.1.toNat 0)-(bo.getD aR.toNat (0,0,0,0,0,0,0)).2.2.2.1))))
            rec bo gW (zA (aR+1)) aa ae af ab y2 m4 r5 y4)
           else none)
          else none)
         else none)
        else none)
       else none)
      else none)
     else bif zC (bo.getD aR.toNat (0, 0, 0, 0, 0, 0, 0)).2.1 m6.length then (bif zC (bo.getD aR.toNat (0, 0, 0, 0, 0, 0, 0)).2.2.1 (m6.getD (bo.getD aR.toNat (0, 0, 0, 0, 0, 0, 0)).2.1.toNat []).length then (bif zC (bo.getD aR.toNat (0, 0, 0, 0, 0, 0, 0)).2.2.1 (m6.getD (bo.getD aR.toNat (0, 0, 0, 0, 0, 0, 0)).2.1.toNat []).length then (let y5:EQ:=(m6.set (bo.getD aR.toNat (0,0,0,0,0,0,0)).2.1.toNat ((m6.getD (bo.getD aR.toNat (0,0,0,0,0,0,0)).2.1.toNat []).set (bo.getD aR.toNat (0,0,0,0,0,0,0)).2.2.1.toNat (zA (((m6.getD (bo.getD aR.toNat (0,0,0,0,0,0,0)).2.1.toNat []).getD (bo.getD aR.toNat (0,0,0,0,0,0,0)).2.2.1.toNat 0)+(bo.getD aR.toNat (0,0,0,0,0,0,0)).2.2.2.1))))
        bif zC (bo.getD aR.toNat (0, 0, 0, 0, 0, 0, 0)).2.2.1 y5.length then (bif zC (bo.getD aR.toNat (0, 0, 0, 0, 0, 0, 0)).2.1 (y5.getD (bo.getD aR.toNat (0, 0, 0, 0, 0, 0, 0)).2.2.1.toNat []).length then (bif zC (bo.getD aR.toNat (0, 0, 0, 0, 0, 0, 0)).2.1 (y5.getD (bo.getD aR.toNat (0, 0, 0, 0, 0, 0, 0)).2.2.1.toNat []).length then (let y6:EQ:=(y5.set (bo.getD aR.toNat (0,0,0,0,0,0,0)).2.2.1.toNat ((y5.getD (bo.getD aR.toNat (0,0,0,0,0,0,0)).2.2.1.toNat []).set (bo.getD aR.toNat (0,0,0,0,0,0,0)).2.1.toNat (zA (((y5.getD (bo.getD aR.toNat (0,0,0,0,0,0,0)).2.2.1.toNat []).getD (bo.getD aR.toNat (0,0,0,0,0,0,0)).2.1.toNat 0)-(bo.getD aR.toNat (0,0,0,0,0,0,0)).2.2.2.1))))
           rec bo gW (zA (aR+1)) aa ae af ab y1 m4 r5 y6)
          else none)
         else none)
        else none)
       else none)
      else none)
     else none)
    else none)
   else none)
  else none)
 else some (aa,ae,af,ab,r3,m4,r5,m6)
def AW (k:Nat):Nat→Vg
 |0,_,_,_,_,_,_,_,_,_,_,_=>none
 |n+1,bo,gW,aR,aa,ae,af,ab,r3,m4,r5,m6=>AY k (AW k n) bo gW aR aa ae af ab r3 m4 r5 m6
def mZ (k:Nat)(aL:List zH)(aY:EQ)(aX:AC)(aT:EQ)(a1:List zB):Option ((List zH)×EQ×AC×EQ×Int):=
 bif decide ((a1.length:Int)>64) then some (aL,aY,aX,aT,1)
 else(J8 k a1 aL aY aX aT).bind fun x0=>
 bif x0 then some (aL,aY,aX,aT,1)
 else(eP k aL aY aX aT).bind fun x1=>
 (AW k k a1 (a1.length:Int) 0 aL aY aX aT x1.1 x1.2.1 x1.2.2.1 x1.2.2.2).bind fun z=>
 (v9 k z.2.2.2.2.1 z.2.2.2.2.2.1 z.2.2.2.2.2.2.1 z.2.2.2.2.2.2.2).bind fun x3=>
 bif !x3 then some (vG z 8)
 else some (qVv z 0)
abbrev Vl:Type:=((List zH)×EQ×AC×EQ×Int×Int×Int×Int×Int×Int×Int)⊕(Bool×Int×Int×Int×Int×Int×Int×Int×(List zH)×EQ×AC×EQ)
abbrev Vj:Type:=Int→Int→List zH→EQ→AC→EQ→Int→Int→Int→Int→Int→Int→Int→List zB→Option Vl
def BY (k:Nat)(rec:Vj)(ca bm:Int)(aa:List zH)(ae:EQ)(af:AC)(ab:EQ)(an ar au ax aD aE aF:Int)(r3:List zB):Option Vl:=
 bif decide (bm < ca) then (bif zC bm r3.length then ((wk k aa ae af ab [(r3.getD bm.toNat (0,0,0,0,0,0,0))]).bind fun x1=>
   bif !x1 then(rec ca (zA (bm+1)) aa ae af ab an ar au ax aD aE aF r3)
   else(mZ k aa ae af ab [(r3.getD bm.toNat (0,0,0,0,0,0,0))]).bind fun x2=>
   bif decide (x2.2.2.2.2=0) then some (.inr (true,(gh (r3.getD bm.toNat (0,0,0,0,0,0,0)) (rp x2))))
   else rec ca (zA (bm+1)) aa ae af ab an ar au ax aD aE aF r3)
  else none)
 else some (.inl (aa,ae,af,ab,an,ar,au,ax,aD,aE,aF))
def GA (k:Nat):Nat→Vj
 |0,_,_,_,_,_,_,_,_,_,_,_,_,_,_=>none
 |n+1,ca,bm,aa,ae,af,ab,an,ar,au,ax,aD,aE,aF,r3=>BY k (GA k n) ca bm aa ae af ab an ar au ax aD aE aF r3
def KT (k:Nat)(aL:List zH)(aY:EQ)(aX:AC)(aT:EQ)(a1:List zB)(a2:Int):Option (Int×Int×Int×Int×Int×Int×Int×(List zH)×EQ×AC×EQ×Bool):=
 (Gk k a1 a2).bind fun x0=>
 (GA k k (x0.length:Int) 0 aL aY aX aT 0 0 0 0 0 0 0 x0).bind fun z=>
 match z with
 |.inl z1=>some (0,0,0,0,0,0,0,(vG z1 false))
 |.inr z2=>some (vAa z2 z2.1)
abbrev Vp:Type:=(List zB)×(List zH)×EQ×AC×EQ×(List zB)
abbrev Vn:Type:=Int→List zB→List zH→EQ→AC→EQ→List zB→Option Vp
def B1 (k:Nat)(rec:Vn)(s2:Int)(s7:List zB)(aa:List zH)(ae:EQ)(af:AC)(ab:EQ)(r1:List zB):Option Vp:=
 (KT k aa ae af ab s7 s2).bind fun x0=>
 bif !x0.2.2.2.2.2.2.2.2.2.2.2 then some (s7,aa,ae,af,ab,r1)
 else(nf k s7 x0.1).bind fun x1=>
 bif zR (r1.length + 1) 56 then (let y0:List zB:=(r1++[(wC x0)])
  rec s2 x1.1 x0.2.2.2.2.2.2.2.1 x0.2.2.2.2.2.2.2.2.1 x0.2.2.2.2.2.2.2.2.2.1 x0.2.2.2.2.2.2.2.2.2.2.1 y0)
 else none
def GB (k:Nat):Nat→Vn
 |0,_,_,_,_,_,_,_=>none
 |n+1,s2,s7,aa,ae,af,ab,r1=>B1 k (GB k n) s2 s7 aa ae af ab r1
def KU (k:Nat)(aL:List zH)(aY:EQ)(aX:AC)(aT:EQ)(a1:List zB)(a2:Int):Option oS:=
 (GB k k a2 a1 aL aY aX aT []).bind fun z=>
 some (fO z (z.1,z.2.2.2.2.2))
abbrev Vs:Type:=(Int×Int×(List zH)×EQ×AC×EQ×Int×Int×Int×Int×Int×Int×Int×Int×Int×Int×Int×Int×Int×Int×(List zB))⊕yIw
abbrev Vq:Type:=Int→Int→Int→Int→List zH→EQ→AC→EQ→Int→Int→Int→Int→Int→Int→Int→Int→Int→Int→Int→Int→Int→Int→List zB→Int→Int→Int→Int→Int→Int→Int→Option Vs
def B4 (k:Nat)(rec:Vq)(dm cz gW aR:Int)(aa:List zH)(ae:EQ)(af:AC)(ab:EQ)(an ar au ax aD aE aF cp cq bA aQ bX bY bZ:Int)(r2:List zB)(bW cK cR fq ft fu fw:Int):Option Vs:=
 bif decide (aR < gW) then (bif zC aR r2.length then (bif !(decide ((r2.getD aR.toNat (0,0,0,0,0,0,0)).2.1=cR)) then(rec dm cz gW (zA (aR+1)) aa ae af ab an ar au ax aD aE aF cp cq bA aQ bX bY bZ r2 bW cK cR fq ft fu fw)
   else bif !(decide ((r2.getD aR.toNat (0,0,0,0,0,0,0)).2.2.1=cK)) then(rec dm cz gW (zA (aR+1)) aa ae af ab an ar au ax aD aE aF cp cq bA aQ bX bY bZ r2 bW cK cR fq ft fu fw)
   else bif decide (cK≥(r2.getD aR.toNat (0,0,0,0,0,0,0)).2.1) then(rec dm cz gW (zA (aR+1)) aa ae af ab an ar au ax aD aE aF cp cq bA aQ bX bY bZ r2 bW cK cR fq ft fu fw)
   else(wk k aa ae af ab [(bW,cK,cR,fq,ft,fu,fw),(r2.getD aR.toNat (0,0,0,0,0,0,0))]).bind fun x1=>
   bif !x1 then(rec dm cz gW (zA (aR+1)) aa ae af ab an ar au ax aD aE aF cp cq bA aQ bX bY bZ r2 bW cK cR fq ft fu fw)
   else(mZ k aa ae af ab [(bW,cK,cR,fq,ft,fu,fw),(r2.getD aR.toNat (0,0,0,0,0,0,0))]).bind fun x2=>
   bif decide (x2.2.2.2.2=0) then some (.inr (true,bW,cK,cR,fq,ft,fu,fw,(gh (r2.getD aR.toNat (0,0,0,0,0,0,0)) (rp x2))))
   else rec dm cz gW (zA (aR+1)) aa ae af ab an ar au ax aD aE aF cp cq bA aQ bX bY bZ r2 bW cK cR fq ft fu fw)
  else none)
 else some (.inl (dm,cz,aa,ae,af,ab,an,ar,au,ax,aD,aE,aF,cp,cq,bA,aQ,bX,bY,bZ,r2))
def GC (k:Nat):Nat→Vq
 |0,_,_,_,_,_,_,_,_,_,_,_,_,_,_,_,_,_,_,_,_,_,_,_,_,_,_,_,_,_,_=>none
 |n+1,dm,cz,gW,aR,aa,ae,af,ab,an,ar,au,ax,aD,aE,aF,cp,cq,bA,aQ,bX,bY,bZ,r2,bW,cK,cR,fq,ft,fu,fw=>B4 k (GC k n) dm cz gW aR aa ae af ab an ar au ax aD aE aF cp cq bA aQ bX bY bZ r2 bW cK cR fq ft fu fw
abbrev Vw:Type:=(Int×Int×Int×Int×Int×Int×Int×Int×Int×Int×Int×Int×Int×Int)⊕yIw
abbrev Vu:Type:=Int→Int→List zH→EQ→AC→EQ→Int→Int→Int→Int→Int→Int→Int→Int→Int→Int→Int→Int→Int→Int→List zB→Option Vw
def B5 (k:Nat)(rec:Vu)(dm cz:Int)(aa:List zH)(ae:EQ)(af:AC)(ab:EQ)(an ar au ax aD aE aF cp cq bA aQ bX bY bZ:Int)(r2:List zB):Option Vw:=
 bif decide (cz < dm) then (bif zC cz r2.length then ((GC k k dm cz (r2.length:Int) 0 aa ae af ab an ar au ax aD aE aF cp cq bA aQ bX bY bZ r2 (r2.getD cz.toNat (0,0,0,0,0,0,0)).1 (r2.getD cz.toNat (0,0,0,0,0,0,0)).2.1 (r2.getD cz.toNat (0,0,0,0,0,0,0)).2.2.1 (r2.getD cz.toNat (0,0,0,0,0,0,0)).2.2.2.1 (r2.getD cz.toNat (0,0,0,0,0,0,0)).2.2.2.2.1 (r2.getD cz.toNat (0,0,0,0,0,0,0)).2.2.2.2.2.1 (r2.getD cz.toNat (0,0,0,0,0,0,0)).2.2.2.2.2.2).bind fun z=>
   match z with
   |.inl z1=>rec z1.1 (zA (z1.2.1+1)) z1.2.2.1 z1.2.2.2.1 z1.2.2.2.2.1 z1.2.2.2.2.2.1 z1.2.2.2.2.2.2.1 z1.2.2.2.2.2.2.2.1 z1.2.2.2.2.2.2.2.2.1 z1.2.2.2.2.2.2.2.2.2.1 z1.2.2.2.2.2.2.2.2.2.2.1 z1.2.2.2.2.2.2.2.2.2.2.2.1 z1.2.2.2.2.2.2.2.2.2.2.2.2.1 z1.2.2.2.2.2.2.2.2.2.2.2.2.2.1 z1.2.2.2.2.2.2.2.2.2.2.2.2.2.2.1 z1.2.2.2.2.2.2.2.2.2.2.2.2.2.2.2.1 z1.2.2.2.2.2.2.2.2.2.2.2.2.2.2.2.2.1 z1.2.2.2.2.2.2.2.2.2.2.2.2.2.2.2.2.2.1 z1.2.2.2.2.2.2.2.2.2.2.2.2.2.2.2.2.2.2.1 z1.2.2.2.2.2.2.2.2.2.2.2.2.2.2.2.2.2.2.2.1 z1.2.2.2.2.2.2.2.2.2.2.2.2.2.2.2.2.2.2.2.2
   |.inr z2=>some (.inr (z2.1,z2.2.1,z2.2.2.1,z2.2.2.2.1,z2.2.2.2.2.1,z2.2.2.2.2.2.1,z2.2.2.2.2.2.2.1,z2.2.2.2.2.2.2.2.1,z2.2.2.2.2.2.2.2.2.1,z2.2.2.2.2.2.2.2.2.2.1,z2.2.2.2.2.2.2.2.2.2.2.1,z2.2.2.2.2.2.2.2.2.2.2.2.1,z2.2.2.2.2.2.2.2.2.2.2.2.2.1,z2.2.2.2.2.2.2.2.2.2.2.2.2.2.1,z2.2.2.2.2.2.2.2.2.2.2.2.2.2.2.1,z2.2.2.2.2.2.2.2.2.2.2.2.2.2.2.2.1,z2.2.2.2.2.2.2.2.2.2.2.2.2.2.2.2.2.1,z2.2.2.2.2.2.2.2.2.2.2.2.2.2.2.2.2.2.1,z2.2.2.2.2.2.2.2.2.2.2.2.2.2.2.2.2.2.2)))
  else none)
 else some (.inl (an,ar,au,ax,aD,aE,aF,cp,cq,bA,aQ,bX,bY,bZ))
def GG (k:Nat):Nat→Vu
 |0,_,_,_,_,_,_,_,_,_,_,_,_,_,_,_,_,_,_,_,_,_=>none
 |n+1,dm,cz,aa,ae,af,ab,an,ar,au,ax,aD,aE,aF,cp,cq,bA,aQ,bX,bY,bZ,r2=>B5 k (GG k n) dm cz aa ae af ab an ar au ax aD aE aF cp cq bA aQ bX bY bZ r2
def KW (k:Nat)(aL:List zH)(aY:EQ)(aX:AC)(aT:EQ)(a1:List zB)(a2:Int):Option (Int×Int×Int×Int×Int×Int×Int×Int×Int×Int×Int×Int×Int×Int×(List zH)×EQ×AC×EQ×Bool):=
 (Gk k a1 a2).bind fun x0=>
 (GG k k (x0.length:Int) 0 aL aY aX aT 0 0 0 0 0 0 0 0 0 0 0 0 0 0 x0).bind fun z3=>
 match z3 with
 |.inl z4=>some (0,0,0,0,0,0,0,0,0,0,0,0,0,0,[],[],[],[],false)
 |.inr z5=>some (Vt z5 z5.1)
abbrev VD:Type:=Int×(List zB)×(List zH)×EQ×AC×EQ×(List zB)
abbrev VB:Type:=Int→List zB→Int→Int→List zH→EQ→AC→EQ→List zB→List zB→Option VD
def td (k:Nat)(rec:VB)(s2:Int)(s7:List zB)(xU oU:Int)(aa:List zH)(ae:EQ)(af:AC)(ab:EQ)(r1 r2:List zB):Option VD:=
 bif decide (oU < xU) then (bif zC oU r2.length then ((nf k s7 (r2.getD oU.toNat (0,0,0,0,0,0,0)).1).bind fun x1=>
   bif zR (r1.length + 1) 56 then (let y0:List zB:=(r1++[(r2.getD oU.toNat (0,0,0,0,0,0,0))])
    rec s2 x1.1 xU (zA (oU+1)) aa ae af ab y0 r2)
   else none)
  else none)
 else some (s2,s7,aa,ae,af,ab,r1)
def tc (k:Nat):Nat→VB
 |0,_,_,_,_,_,_,_,_,_,_=>none
 |n+1,s2,s7,xU,oU,aa,ae,af,ab,r1,r2=>td k (tc k n) s2 s7 xU oU aa ae af ab r1 r2
def B6 (k:Nat)(rec:Vn)(s2:Int)(s7:List zB)(aa:List zH)(ae:EQ)(af:AC)(ab:EQ)(r1:List zB):Option Vp:=
 (KW k aa ae af ab s7 s2).bind fun x0=>
 bif !x0.2.2.2.2.2.2.2.2.2.2.2.2.2.2.2.2.2.2 then some (s7,aa,ae,af,ab,r1)
 else(tc k k s2 s7 2 0 x0.2.2.2.2.2.2.2.2.2.2.2.2.2.2.1 x0.2.2.2.2.2.2.2.2.2.2.2.2.2.2.2.1 x0.2.2.2.2.2.2.2.2.2.2.2.2.2.2.2.2.1 x0.2.2.2.2.2.2.2.2.2.2.2.2.2.2.2.2.2.1 r1 [(wC x0),(Yd x0)]).bind fun z=>
 rec z.1 z.2.1 z.2.2.1 z.2.2.2.1 z.2.2.2.2.1 z.2.2.2.2.2.1 z.2.2.2.2.2.2
def GH (k:Nat):Nat→Vn
 |0,_,_,_,_,_,_,_=>none
 |n+1,s2,s7,aa,ae,af,ab,r1=>B6 k (GH k n) s2 s7 aa ae af ab r1
def KX (k:Nat)(aL:List zH)(aY:EQ)(aX:AC)(aT:EQ)(a1:List zB)(a2:Int):Option oS:=
 (GH k k a2 a1 aL aY aX aT []).bind fun z1=>
 some (fO z1 (z1.1,z1.2.2.2.2.2))
def K4 (k:Nat)(rec:Vn)(s2:Int)(s7:List zB)(aa:List zH)(ae:EQ)(af:AC)(ab:EQ)(r1:List zB):Option Vp:=
 (KU k aa ae af ab s7 s2).bind fun x0=>
 (KX k x0.1 x0.2.1 x0.2.2.1 x0.2.2.2.1 x0.2.2.2.2.1 s2).bind fun x1=>
 bif zR (r1.length + x0.2.2.2.2.2.length) 56 then (bif zR ((r1 ++ x0.2.2.2.2.2).length + x1.2.2.2.2.2.length) 56 then (let y0:List zB:=((r1++x0.2.2.2.2.2)++x1.2.2.2.2.2)
   bif decide ((x1.2.2.2.2.2.length:Int)=0) then some (x1.2.2.2.2.1,(vG x1 y0))
   else rec s2 x1.2.2.2.2.1 x1.1 x1.2.1 x1.2.2.1 x1.2.2.2.1 y0)
  else none)
 else none
def GO (k:Nat):Nat→Vn
 |0,_,_,_,_,_,_,_=>none
 |n+1,s2,s7,aa,ae,af,ab,r1=>K4 k (GO k n) s2 s7 aa ae af ab r1
def GP (k:Nat)(aL:List zH)(aY:EQ)(aX:AC)(aT:EQ)(a1:List zB)(a2:Int):Option oS:=
 (GO k k a2 a1 aL aY aX aT []).bind fun z=>
 some (fO z (z.1,z.2.2.2.2.2))
def Q3 (k:Nat)(a0:AC):Option AC:=
 bif zR (0+a0.length) 8 then some a0
 else none
def Q5 (k:Nat)(bU aq bq aB az aI aN:Int)(a1:AC):Option (Bool×AC):=
 bif decide (aq<0) then some (false,a1)
 else bif decide (aq≥(a1.length:Int)) then some (false,a1)
 else bif zC aq a1.length then (bif decide ((a1.getD aq.toNat 0)<1) then some (false,a1)
  else bif zC aq a1.length then (bif zC aq a1.length then some (true,(a1.set aq.toNat (zA ((a1.getD aq.toNat 0)-1))))
   else none)
  else none)
 else none
abbrev VN:Type:=AC×(List zB)
abbrev VL:Type:=List zB→Int→Int→AC→List zB→Option VN
def Ca (k:Nat)(rec:VL)(s8:List zB)(s9 ao:Int)(r1:AC)(r2:List zB):Option VN:=
 bif decide (ao < s9) then (bif zC ao s8.length then ((Q5 k (s8.getD ao.toNat (0,0,0,0,0,0,0)).1 (s8.getD ao.toNat (0,0,0,0,0,0,0)).2.1 (s8.getD ao.toNat (0,0,0,0,0,0,0)).2.2.1 (s8.getD ao.toNat (0,0,0,0,0,0,0)).2.2.2.1 (s8.getD ao.toNat (0,0,0,0,0,0,0)).2.2.2.2.1 (s8.getD ao.toNat (0,0,0,0,0,0,0)).2.2.2.2.2.1 (s8.getD ao.toNat (0,0,0,0,0,0,0)).2.2.2.2.2.2 r1).bind fun x0=>
   bif x0.1 then (bif zR (r2.length + 1) 56 then (let y0:List zB:=(r2++[(s8.getD ao.toNat (0,0,0,0,0,0,0))])
     rec s8 s9 (zA (ao+1)) x0.2 y0)
    else none)
   else rec s8 s9 (zA (ao+1)) x0.2 r2)
  else none)
 else some (r1,r2)
def B9 (k:Nat):Nat→VL
 |0,_,_,_,_,_=>none
 |n+1,s8,s9,ao,r1,r2=>Ca k (B9 k n) s8 s9 ao r1 r2
def Q4 (k:Nat)(a0:List zB)(cH:AC):Option ((List zB)×AC):=
 (B9 k k a0 (a0.length:Int) 0 cH []).bind fun z=>
 some (z.2,z.1)
def B8 (k:Nat)(a0:List zB)(a1:AC):Option (List zB):=
 (Q3 k a1).bind fun x0=>
 (Q4 k a0 x0).bind fun x1=>
 some x1.1
abbrev VP:Type:=Int×(List zH)×EQ×AC×EQ×AC×(List zB)
abbrev VO:Type:=Int→Int→Int→List zH→EQ→AC→EQ→AC→List zB→Option VP
def Cc (k:Nat)(rec:VO)(s7 mv dm:Int)(aa:List zH)(ae:EQ)(af:AC)(ab:EQ)(r1:AC)(r2:List zB):Option VP:=
 bif decide (dm < mv) then ((GL k r2 dm).bind fun x1=>
  bif zR (r1.length+1) 8 then(rec s7 mv (zA (dm+1)) aa ae af ab (r1++[(x1.length:Int)]) r2)
  else none)
 else some (s7,aa,ae,af,ab,r1,r2)
def w5 (k:Nat):Nat→VO
 |0,_,_,_,_,_,_,_,_,_=>none
 |n+1,s7,mv,dm,aa,ae,af,ab,r1,r2=>Cc k (w5 k n) s7 mv dm aa ae af ab r1 r2
abbrev VQ:Type:=Int→Int→Int→List zH→EQ→AC→EQ→AC→List zB→AC→Option VP
def Ce (k:Nat)(rec:VQ)(s7 Nb lG:Int)(aa:List zH)(ae:EQ)(af:AC)(ab:EQ)(r1:AC)(r2:List zB)(r3:AC):Option VP:=
 bif decide (lG < Nb) then (bif zC lG r3.length then (bif zC (r3.getD lG.toNat 0) r1.length then (bif zC (r3.getD lG.toNat 0) r1.length then (let y0:AC:=(r1.set (r3.getD lG.toNat 0).toNat (zA ((r1.getD (r3.getD lG.toNat 0).toNat 0)-1)))
     rec s7 Nb (zA (lG+1)) aa ae af ab y0 r2 r3)
    else none)
   else none)
  else none)
 else some (s7,aa,ae,af,ab,r1,r2)
def Cd (k:Nat):Nat→VQ
 |0,_,_,_,_,_,_,_,_,_,_=>none
 |n+1,s7,Nb,lG,aa,ae,af,ab,r1,r2,r3=>Ce k (Cd k n) s7 Nb lG aa ae af ab r1 r2 r3
abbrev VU:Type:=Int→List zH→EQ→AC→EQ→AC→List zB→Option (Int×AC)
def Cf (k:Nat)(rec:VU)(s7:Int)(aa:List zH)(ae:EQ)(af:AC)(ab:EQ)(r1:AC)(r2:List zB):Option (Int×AC):=
 (B8 k r2 r1).bind fun x2=>
 (wj k aa ae af ab x2).bind fun x3=>
 bif decide ((x3.length:Int)=0) then some ((zA (s7+1)),r1)
 else(Cd k k (zA (s7+1)) (x3.length:Int) 0 aa ae af ab r1 r2 x3).bind fun z1=>
 rec z1.1 z1.2.1 z1.2.2.1 z1.2.2.2.1 z1.2.2.2.2.1 z1.2.2.2.2.2.1 z1.2.2.2.2.2.2
def GN (k:Nat):Nat→VU
 |0,_,_,_,_,_,_,_=>none
 |n+1,s7,aa,ae,af,ab,r1,r2=>Cf k (GN k n) s7 aa ae af ab r1 r2
def K1 (k:Nat)(aL:List zH)(aY:EQ)(aX:AC)(aT:EQ)(a1:List zB)(a2:Int):Option (AC×Int):=
 (Bo k a1 a2).bind fun x0=>
 (w5 k k 0 (aL.length:Int) 0 aL aY aX aT [] x0).bind fun z=>
 (GN k k z.1 z.2.1 z.2.2.1 z.2.2.2.1 z.2.2.2.2.1 z.2.2.2.2.2.1 z.2.2.2.2.2.2).bind fun z2=>
 some (z2.2,z2.1)
abbrev VV:Type:=List zB→Int→Int→List zH→EQ→AC→EQ→List zB→Option Vp
def Cg (k:Nat)(rec:VV)(s7:List zB)(oV gl:Int)(aa:List zH)(ae:EQ)(af:AC)(ab:EQ)(r1:List zB):Option Vp:=
 bif decide (gl < oV) then (bif zC gl r1.length then ((nf k s7 (r1.getD gl.toNat (0,0,0,0,0,0,0)).1).bind fun x4=>
   rec x4.1 oV (zA (gl+1)) aa ae af ab r1)
  else none)
 else some (s7,aa,ae,af,ab,r1)
def w6 (k:Nat):Nat→VV
 |0,_,_,_,_,_,_,_,_=>none
 |n+1,s7,oV,gl,aa,ae,af,ab,r1=>Cg k (w6 k n) s7 oV gl aa ae af ab r1
def w7 (k:Nat)(aL:List zH)(aY:EQ)(aX:AC)(aT:EQ)(a1:List zB)(a2:Int):Option oS:=
 (K1 k aL aY aX aT a1 a2).bind fun x0=>
 (Bo k a1 a2).bind fun x1=>
 (B8 k x1 x0.1).bind fun x2=>
 (mZ k aL aY aX aT x2).bind fun x3=>
 bif !(decide (x3.2.2.2.2=0)) then some (aL,aY,aX,aT,a1,[])
 else(w6 k k a1 (x2.length:Int) 0 x3.1 x3.2.1 x3.2.2.1 x3.2.2.2.1 x2).bind fun z=>
 some (fO z (z.1,z.2.2.2.2.2))
def tj (k:Nat)(aL:List zH)(aY:EQ)(aX:AC)(aT:EQ)(a1:List zB)(a2:Int)(a3:Bool):Option oS:=
 (GP k aL aY aX aT a1 a2).bind fun x0=>
 bif !a3 then some (x0.1,x0.2.1,x0.2.2.1,x0.2.2.2.1,x0.2.2.2.2.1,x0.2.2.2.2.2)
 else(w7 k x0.1 x0.2.1 x0.2.2.1 x0.2.2.2.1 x0.2.2.2.2.1 a2).bind fun x1=>
 bif decide ((x1.2.2.2.2.2.length:Int)=0) then some (xM x1 x0.2.2.2.2.2)
 else(GP k x1.1 x1.2.1 x1.2.2.1 x1.2.2.2.1 x1.2.2.2.2.1 a2).bind fun x2=>
 bif zR (x0.2.2.2.2.2.length + x1.2.2.2.2.2.length) 56 then (bif zR ((x0.2.2.2.2.2 ++ x1.2.2.2.2.2).length + x2.2.2.2.2.2.length) 56 then (let y0:List zB:=((x0.2.2.2.2.2++x1.2.2.2.2.2)++x2.2.2.2.2.2)
   some (xM x2 y0))
  else none)
 else none
abbrev VZ:Type:=(List zB)×Int×Int×(List qP)
abbrev VY:Type:=List zB→Int→Int→Int→Int→List qP→Int→Int→Int→Int→Int→Int→Int→AC→Option VZ
def tn (k:Nat)(rec:VY)(s8:List zB)(s9 ao dm cz:Int)(r0:List qP)(an ar au ax aD aE aF:Int)(r2:AC):Option VZ:=
 bif decide (cz < dm) then (bif zC cz r2.length then ((nn k (r2.getD cz.toNat 0) 18 [an,ar,au,ax]).bind fun x0=>
   bif zR (r0.length+1) 64 then(rec s8 s9 ao dm (zA (cz+1)) (r0++[x0]) an ar au ax aD aE aF r2)
   else none)
  else none)
 else some (s8,s9,ao,r0)
def tm (k:Nat):Nat→VY
 |0,_,_,_,_,_,_,_,_,_,_,_,_,_,_=>none
 |n+1,s8,s9,ao,dm,cz,r0,an,ar,au,ax,aD,aE,aF,r2=>tn k (tm k n) s8 s9 ao dm cz r0 an ar au ax aD aE aF r2
abbrev V2:Type:=List qP
abbrev V0:Type:=List zB→Int→Int→List qP→Option V2
def Cl (k:Nat)(rec:V0)(s8:List zB)(s9 ao:Int)(r0:List qP):Option V2:=
 bif decide (ao < s9) then (bif zC ao s8.length then ((tm k k s8 s9 ao 2 0 r0 (s8.getD ao.toNat (0,0,0,0,0,0,0)).1 (s8.getD ao.toNat (0,0,0,0,0,0,0)).2.1 (s8.getD ao.toNat (0,0,0,0,0,0,0)).2.2.1 (s8.getD ao.toNat (0,0,0,0,0,0,0)).2.2.2.1 (s8.getD ao.toNat (0,0,0,0,0,0,0)).2.2.2.2.1 (s8.getD ao.toNat (0,0,0,0,0,0,0)).2.2.2.2.2.1 (s8.getD ao.toNat (0,0,0,0,0,0,0)).2.2.2.2.2.2 [(s8.getD ao.toNat (0,0,0,0,0,0,0)).2.1,(s8.getD ao.toNat (0,0,0,0,0,0,0)).2.2.1]).bind fun z=>
   rec z.1 z.2.1 (zA (z.2.2.1+1)) z.2.2.2)
  else none)
 else some r0
def GQ (k:Nat):Nat→V0
 |0,_,_,_,_=>none
 |n+1,s8,s9,ao,r0=>Cl k (GQ k n) s8 s9 ao r0
def K5 (k:Nat)(a0:List zB):Option (List qP):=
 (GQ k k a0 (a0.length:Int) 0 []).bind fun z1=>
 some z1
def qg (k:Nat)(xR:Int)(Ie:List zH)(Ig:EQ)(Ih:AC)(Ii:EQ)(Ij:AC)(Ik:EQ)(xS:List zB)(Il:AC)(Im:Int)(Io a1:Bool):Option M6:=
 (tj k Ie Ig Ih Ii xS xR a1).bind fun x0=>
 (K5 k x0.2.2.2.2.2).bind fun x1=>
 some (xR,(vG x0 (Ij,Ik,x0.2.2.2.2.1,Il,Im,Io,x1)))
abbrev V7:Type:=Int×(List vY)×Int×Int×Int×Int×(List zH)×EQ×AC×EQ×AC×EQ×(List zB)×AC×Int×Bool×Int×Int×Bool×(List qP)×(List zB)
abbrev V5:Type:=List zB→Int→Int→Int→List vY→Int→Int→Int→Int→List zH→EQ→AC→EQ→AC→EQ→List zB→AC→Int→Bool→Int→Int→Bool→List qP→List zB→Option V7
def Cv (k:Nat)(rec:V5)(ee:List zB)(iZ eg aa:Int)(ae:List vY)(af ab aV an:Int)(ar:List zH)(au:EQ)(ax:AC)(aD:EQ)(aE:AC)(aF:EQ)(cp:List zB)(cq:AC)(bA:Int)(aQ:Bool)(aZ nv:Int)(iM:Bool)(r3:List qP)(r4:List zB):Option V7:=
 bif decide (eg < iZ) then (bif zC eg ee.length then ((Rc k (ee.getD eg.toNat (0,0,0,0,0,0,0)).1 (ee.getD eg.toNat (0,0,0,0,0,0,0)).2.1 (ee.getD eg.toNat (0,0,0,0,0,0,0)).2.2.1 (ee.getD eg.toNat (0,0,0,0,0,0,0)).2.2.2.1 (ee.getD eg.toNat (0,0,0,0,0,0,0)).2.2.2.2.1 (ee.getD eg.toNat (0,0,0,0,0,0,0)).2.2.2.2.2.1 (ee.getD eg.toNat (0,0,0,0,0,0,0)).2.2.2.2.2.2 an).bind fun x2=>
   bif x2 then ((nn k (ee.getD eg.toNat (0,0,0,0,0,0,0)).2.1 21 [(ee.getD eg.toNat (0,0,0,0,0,0,0)).1]).bind fun x3=>
    bif zR (r3.length+1) 64 then(rec ee iZ (zA (eg+1)) aa ae af ab aV an ar au ax aD aE aF cp cq bA aQ aZ nv iM (r3++[x3]) r4)
    else none)
   else bif zR (r4.length + 1) 56 then (let y0:List zB:=(r4++[(ee.getD eg.toNat (0,0,0,0,0,0,0))])
    rec ee iZ (zA (eg+1)) aa ae af ab aV an ar au ax aD aE aF cp cq bA aQ aZ nv iM r3 y0)
   else none)
  else none)
 else some (aa,ae,af,ab,aV,an,ar,au,ax,aD,aE,aF,cp,cq,bA,aQ,aZ,nv,iM,r3,r4)
def Cu (k:Nat):Nat→V5
 |0,_,_,_,_,_,_,_,_,_,_,_,_,_,_,_,_,_,_,_,_,_,_,_,_=>none
 |n+1,ee,iZ,eg,aa,ae,af,ab,aV,an,ar,au,ax,aD,aE,aF,cp,cq,bA,aQ,aZ,nv,iM,r3,r4=>Cv k (Cu k n) ee iZ eg aa ae af ab aV an ar au ax aD aE aF cp cq bA aQ aZ nv iM r3 r4
def tq (k:Nat)(cO:Int)(dz:List vY)(dA cP bV gw:Int)(ct:List zH)(cY:EQ)(cZ:AC)(de:EQ)(eI:AC)(gx:EQ)(eJ:List zB)(ny:AC)(gy:Int)(gz:Bool):Option M6:=
 bif gz then some (gw,ct,cY,cZ,de,eI,gx,eJ,ny,gy,gz,[])
 else(xa k cO dz dA cP bV (zA (gw+1))).bind fun x0=>
 bif x0 then ((K9 k (zA (gw+1)) ct cY cZ de eI gx eJ ny gy gz).bind fun x1=>
  some (x1.1,x1.2.1,x1.2.2.1,x1.2.2.2.1,x1.2.2.2.2.1,x1.2.2.2.2.2.1,x1.2.2.2.2.2.2.1,x1.2.2.2.2.2.2.2.1,x1.2.2.2.2.2.2.2.2.1,x1.2.2.2.2.2.2.2.2.2.1,x1.2.2.2.2.2.2.2.2.2.2.1,x1.2.2.2.2.2.2.2.2.2.2.2))
 else(Cu k k eJ (eJ.length:Int) 0 cO dz dA cP bV (zA (gw+1)) ct cY cZ de eI gx eJ ny gy gz 0 0 false [] []).bind fun z=>
 (Cw k z.1 z.2.1 z.2.2.1 z.2.2.2.1 z.2.2.2.2.1 z.2.2.2.2.2.1).bind fun x4=>
 (qg k z.2.2.2.2.2.1 z.2.2.2.2.2.2.1 z.2.2.2.2.2.2.2.1 z.2.2.2.2.2.2.2.2.1 z.2.2.2.2.2.2.2.2.2.1 z.2.2.2.2.2.2.2.2.2.2.1 z.2.2.2.2.2.2.2.2.2.2.2.1 z.2.2.2.2.2.2.2.2.2.2.2.2.2.2.2.2.2.2.2.2 z.2.2.2.2.2.2.2.2.2.2.2.2.2.1 z.2.2.2.2.2.2.2.2.2.2.2.2.2.2.1 z.2.2.2.2.2.2.2.2.2.2.2.2.2.2.2.1 x4).bind fun x5=>
 bif zR (z.2.2.2.2.2.2.2.2.2.2.2.2.2.2.2.2.2.2.2.1.length + x5.2.2.2.2.2.2.2.2.2.2.2.length) 64 then (let y1:List qP:=(z.2.2.2.2.2.2.2.2.2.2.2.2.2.2.2.2.2.2.2.1++x5.2.2.2.2.2.2.2.2.2.2.2)
  some (ua x5 y1))
 else none
def yJ1 (k:Nat)(a0:iX)(a1:Ip):Option (Int×wK):=
 (yW k a1.2.1 0 (zA (a0.1-1))).bind fun x0=>
 bif !x0 then some (1,(vA a0 []))
 else(yW k a1.2.2.2.1 1 3).bind fun x1=>
 bif !x1 then some (1,(vA a0 []))
 else(Cx k (qZ a0) a0.2.2.2.2.2.1 (a1.1,a0.2.2.2.2.2.2.2.2.2.2.2.2.2.2.2.2,a1.2)).bind fun x2=>
 bif !(decide (x2=0)) then some (x2,(vA a0 []))
 else(BO k a0.2.2.2.2.2.2.2.2.2.2.2.2.2.1 a1.1).bind fun x3=>
 bif !(decide (x3.2=0)) then some (x3.2,(vA a0 []))
 else(sY k a0.2.2.2.2.2.2.2.2.2.2.2.2.1 (a1.1,a0.2.2.2.2.2.2.2.2.2.2.2.2.2.2.2.2,a1.2)).bind fun x4=>
 bif !(decide (x4.2=0)) then some (x4.2,(vA a0 []))
 else some (0,(gV a0 (x4.1,x3.1,a0.2.2.2.2.2.2.2.2.2.2.2.2.2.2.1,a0.2.2.2.2.2.2.2.2.2.2.2.2.2.2.2.1,a0.2.2.2.2.2.2.2.2.2.2.2.2.2.2.2.2,[])))
def MO (k:Nat)(a0:iX)(a1:zB):Option (Int×wK):=
 (Uu k (vA a0 []) a1.2.1).bind fun x0=>
 bif !(decide (x0.2=0)) then some (x0.2,(vA a0 []))
 else bif decide (a1.1 = 2) then ((nf k a0.2.2.2.2.2.2.2.2.2.2.2.2.1 a1.2.1).bind fun x1=>
  (LU k (gV a0 (x1.1,a0.2.2.2.2.2.2.2.2.2.2.2.2.2)) 20 [a1.2.1]).bind fun x2=>
  some (x1.2.2.2.2.2.2.2.2,x2))
 else bif decide (a1.1 = 4) then ((yW k a1.2.2.1 1 3).bind fun x3=>
  bif !x3 then some (1,(vA a0 []))
  else(xc k (qZ a0) a0.2.2.2.2.2.1 a1.2.2.1).bind fun x4=>
  bif !(decide (x4=0)) then some (x4,(vA a0 []))
  else(BJ k a0.2.2.2.2.2.2.2.2.2.2.2.2.1 a1.2.1 a1.2.2.1).bind fun x5=>
  some (x5.2,(gV a0 (x5.1,(Yb a0 [])))))
 else bif decide (a1.2.2.1 = 0) then ((BM k a0.2.2.2.2.2.2.2.2.2.2.2.2.1 a1.2.1).bind fun x6=>
  some (x6.2,(gV a0 (x6.1,(Yb a0 [])))))
 else bif decide (a1.2.2.1 = 1) then ((BK k a0.2.2.2.2.2.2.2.2.2.2.2.2.1 a1.2.1).bind fun x7=>
  some (x7.2,(gV a0 (x7.1,(Yb a0 [])))))
 else some (1,(vA a0 []))
def MP (k:Nat)(a0:iX)(a1:zB):Option (Int×wK):=
 (eP k a0.2.2.2.2.2.2.1 a0.2.2.2.2.2.2.2.1 a0.2.2.2.2.2.2.2.2.1 a0.2.2.2.2.2.2.2.2.2.1).bind fun x0=>
 bif decide (a1.1 = 5) then ((UA k (vA a0 []) a1.2.1).bind fun x1=>
  bif !x1 then some (1,(vA a0 []))
  else(yW k a1.2.2.1 (-1) 1152921504606846976).bind fun x2=>
  bif !x2 then some (1,(vA a0 []))
  else bif zC a0.2.2.2.2.2.2.2.2.2.2.2.2.2.2.2.2 x0.2.1.length then (bif zC a1.2.1 (x0.2.1.getD a0.2.2.2.2.2.2.2.2.2.2.2.2.2.2.2.2.toNat []).length then (let y0:EQ:=(x0.2.1.set a0.2.2.2.2.2.2.2.2.2.2.2.2.2.2.2.2.toNat ((x0.2.1.getD a0.2.2.2.2.2.2.2.2.2.2.2.2.2.2.2.2.toNat []).set a1.2.1.toNat a1.2.2.1))
    some (0,(wJ a0 (x0.1,y0,x0.2.2.1,x0.2.2.2,(Yc a0 [])))))
   else none)
  else none)
 else bif decide (a1.1 = 6) then ((yW k a1.2.1 (-1) 1152921504606846976).bind fun x3=>
  bif !x3 then some (1,(vA a0 []))
  else bif zC a0.2.2.2.2.2.2.2.2.2.2.2.2.2.2.2.2 x0.2.2.1.length then (let y1:AC:=(x0.2.2.1.set a0.2.2.2.2.2.2.2.2.2.2.2.2.2.2.2.2.toNat a1.2.1)
   some (0,(wJ a0 (x0.1,x0.2.1,y1,x0.2.2.2,(Yc a0 [])))))
  else none)
 else(yW k a1.2.1 0 1152921504606846976).bind fun x4=>
 bif !x4 then some (1,(vA a0 []))
 else bif zC a0.2.2.2.2.2.2.2.2.2.2.2.2.2.2.2.2 x0.1.length then (let y2:List zH:=(x0.1.set a0.2.2.2.2.2.2.2.2.2.2.2.2.2.2.2.2.toNat ((x0.1.getD a0.2.2.2.2.2.2.2.2.2.2.2.2.2.2.2.2.toNat (0,0,0)).1,(x0.1.getD a0.2.2.2.2.2.2.2.2.2.2.2.2.2.2.2.2.toNat (0,0,0)).2.1,a1.2.1))
  some (0,(wJ a0 (y2,x0.2.1,x0.2.2.1,x0.2.2.2,(Yc a0 [])))))
 else none
def yNv (k:Nat)(a0:iX)(a1 a2:Int):Option (Int×wK):=
 (H3 k (vA a0 []) a1).bind fun x0=>
 bif !x0 then some (1,(vA a0 []))
 else(yW k a2 0 1099511627776).bind fun x1=>
 bif !x1 then some (1,(vA a0 []))
 else(Cz k a0.2.2.2.2.2.2.2.2.2.2.2.1).bind fun x2=>
 bif zC a0.2.2.2.2.2.2.2.2.2.2.2.2.2.2.2.2 x2.length then ((nj k (x2.getD a0.2.2.2.2.2.2.2.2.2.2.2.2.2.2.2.2.toNat []) a1 a2).bind fun x3=>
  bif zC a0.2.2.2.2.2.2.2.2.2.2.2.2.2.2.2.2 x2.length then (let y0:EQ:=(x2.set a0.2.2.2.2.2.2.2.2.2.2.2.2.2.2.2.2.toNat x3)
   bif zC a0.2.2.2.2.2.2.2.2.2.2.2.2.2.2.2.2 y0.length then ((oE k a0.2.1 a0.2.2.2.2.2.2.2.2.2.2.1 (y0.getD a0.2.2.2.2.2.2.2.2.2.2.2.2.2.2.2.2.toNat [])).bind fun x4=>
    bif zC a0.2.2.2.2.2.2.2.2.2.2.2.2.2.2.2.2 a0.2.2.2.2.2.2.1.length then (bif !x4.2 then some (8,(vA a0 []))
     else bif decide (x4.1>1152921504606846976) then some (8,(vA a0 []))
     else bif decide (x4.1 < (a0.2.2.2.2.2.2.1.getD a0.2.2.2.2.2.2.2.2.2.2.2.2.2.2.2.2.toNat (0, 0, 0)).2.1) then (bif decide ((zA ((a0.2.2.2.2.2.2.1.getD a0.2.2.2.2.2.2.2.2.2.2.2.2.2.2.2.2.toNat (0,0,0)).1+x4.1))<0) then some (9,(vA a0 []))
      else(eP k a0.2.2.2.2.2.2.1 a0.2.2.2.2.2.2.2.1 a0.2.2.2.2.2.2.2.2.1 a0.2.2.2.2.2.2.2.2.2.1).bind fun x5=>
      bif zC a0.2.2.2.2.2.2.2.2.2.2.2.2.2.2.2.2 x5.1.length then (let y1:List zH:=(x5.1.set a0.2.2.2.2.2.2.2.2.2.2.2.2.2.2.2.2.toNat ((x5.1.getD a0.2.2.2.2.2.2.2.2.2.2.2.2.2.2.2.2.toNat (0,0,0)).1,x4.1,(x5.1.getD a0.2.2.2.2.2.2.2.2.2.2.2.2.2.2.2.2.toNat (0,0,0)).2.2))
       some (0,(wJ a0 (y1,x5.2.1,x5.2.2.1,x5.2.2.2,a0.2.2.2.2.2.2.2.2.2.2.1,y0,(qYf a0 [])))))
      else none)
     else(eP k a0.2.2.2.2.2.2.1 a0.2.2.2.2.2.2.2.1 a0.2.2.2.2.2.2.2.2.1 a0.2.2.2.2.2.2.2.2.2.1).bind fun x6=>
     bif zC a0.2.2.2.2.2.2.2.2.2.2.2.2.2.2.2.2 x6.1.length then (let y2:List zH:=(x6.1.set a0.2.2.2.2.2.2.2.2.2.2.2.2.2.2.2.2.toNat ((x6.1.getD a0.2.2.2.2.2.2.2.2.2.2.2.2.2.2.2.2.toNat (0,0,0)).1,x4.1,(x6.1.getD a0.2.2.2.2.2.2.2.2.2.2.2.2.2.2.2.2.toNat (0,0,0)).2.2))
      some (0,(wJ a0 (y2,x6.2.1,x6.2.2.1,x6.2.2.2,a0.2.2.2.2.2.2.2.2.2.2.1,y0,(qYf a0 [])))))
     else none)
    else none)
   else none)
  else none)
 else none
def CL (k:Nat)(a0:iX)(a1 a2 a3:Int):Option (Int×wK):=
 (yW k a2 0 (zA (a0.1-1))).bind fun x0=>
 bif !x0 then some (1,(vA a0 []))
 else(yW k a3 1 1099511627776).bind fun x1=>
 bif !x1 then some (1,(vA a0 []))
 else bif zC a2 a0.2.2.2.2.2.2.1.length then ((CM k (a0.2.2.2.2.2.2.1.getD a2.toNat (0,0,0)) a3).bind fun x2=>
  bif decide (a1 = 11) then ((CN k (a0.2.2.2.2.2.2.1.getD a2.toNat (0,0,0)) a3 3).bind fun x3=>
   (CO k (a0.2.2.2.2.2.2.1.getD a2.toNat (0,0,0)) 3).bind fun x4=>
   bif decide (x4<a3) then some (9,(vA a0 []))
   else bif decide ((zA (a0.2.2.2.2.2.2.2.2.2.2.2.2.2.2.1-a3))<0) then some (9,(vA a0 []))
   else bif !(decide (x3.2=0)) then some (x3.2,(vA a0 []))
   else bif decide ((zA (a0.2.2.2.2.2.2.2.2.2.2.2.2.2.2.1-a3))>1152921504606846976) then some (8,(vA a0 []))
   else(eP k a0.2.2.2.2.2.2.1 a0.2.2.2.2.2.2.2.1 a0.2.2.2.2.2.2.2.2.1 a0.2.2.2.2.2.2.2.2.2.1).bind fun x5=>
   bif zC a2 x5.1.length then some (0,(wJ a0 ((x5.1.set a2.toNat x3.1),x5.2.1,x5.2.2.1,x5.2.2.2,(D4 a0 ((zA (a0.2.2.2.2.2.2.2.2.2.2.2.2.2.2.1-a3)),a0.2.2.2.2.2.2.2.2.2.2.2.2.2.2.2.1,a0.2.2.2.2.2.2.2.2.2.2.2.2.2.2.2.2,[])))))
   else none)
  else bif !(decide (x2.2=0)) then some (x2.2,(vA a0 []))
  else bif decide ((zA (a0.2.2.2.2.2.2.2.2.2.2.2.2.2.2.1+a3))>1152921504606846976) then some (8,(vA a0 []))
  else(eP k a0.2.2.2.2.2.2.1 a0.2.2.2.2.2.2.2.1 a0.2.2.2.2.2.2.2.2.1 a0.2.2.2.2.2.2.2.2.2.1).bind fun x6=>
  bif zC a2 x6.1.length then some (0,(wJ a0 ((x6.1.set a2.toNat x2.1),x6.2.1,x6.2.2.1,x6.2.2.2,(D4 a0 ((zA (a0.2.2.2.2.2.2.2.2.2.2.2.2.2.2.1+a3)),a0.2.2.2.2.2.2.2.2.2.2.2.2.2.2.2.1,a0.2.2.2.2.2.2.2.2.2.2.2.2.2.2.2.2,[])))))
  else none)
 else none
abbrev Wc:Type:=(iX×AC×(List zH)×EQ×AC×EQ)⊕(Int×iX)
abbrev Wa:Type:=EQ→Int→Int→iX→AC→List zH→EQ→AC→EQ→Option Wc
def CQ (k:Nat)(rec:Wa)(gl:EQ)(mw iL:Int)(b0:iX)(r1:AC)(r3:List zH)(m4:EQ)(r5:AC)(m6:EQ):Option Wc:=
 bif decide (iL < mw) then (bif zC iL gl.length then ((oE k b0.2.1 r1 (gl.getD iL.toNat [])).bind fun x4=>
   bif !x4.2 then some (.inr (8,b0))
   else bif decide (x4.1>1152921504606846976) then some (.inr (8,b0))
   else bif zC iL r3.length then (let y0:List zH:=(r3.set iL.toNat ((r3.getD iL.toNat (0,0,0)).1,x4.1,(r3.getD iL.toNat (0,0,0)).2.2))
    rec gl mw (zA (iL+1)) b0 r1 y0 m4 r5 m6)
   else none)
  else none)
 else some (.inl (b0,r1,r3,m4,r5,m6))
def qq (k:Nat):Nat→Wa:=vH (fun _ _ _ _ _ _ _ _ _=>none) (CQ k)
def Lu (k:Nat)(a0:iX)(a1 a2:Int):Option (Int×wK):=
 (H3 k (vA a0 []) a1).bind fun x0=>
 bif !x0 then some (1,(vA a0 []))
 else(yW k a2 0 1048576).bind fun x1=>
 bif !x1 then some (1,(vA a0 []))
 else(nj k a0.2.2.2.2.2.2.2.2.2.2.1 a1 a2).bind fun x2=>
 (eP k a0.2.2.2.2.2.2.1 a0.2.2.2.2.2.2.2.1 a0.2.2.2.2.2.2.2.2.1 a0.2.2.2.2.2.2.2.2.2.1).bind fun x3=>
 (qq k k a0.2.2.2.2.2.2.2.2.2.2.2.1 (a0.2.2.2.2.2.2.2.2.2.2.2.1.length:Int) 0 a0 x2 x3.1 x3.2.1 x3.2.2.1 x3.2.2.2).bind fun z=>
 match z with
 |.inl z1=>some (0,(wJ z1.1 (xj z1 (z1.2.1,(Rx z1.1 [])))))
 |.inr z2=>some (jL z2 [])
def Dq (k:Nat)(a0:iX)(a1:zB):Option (Int×wK):=
 bif decide (a1.1 = 1) then ((yJ1 k a0 a1.2).bind fun x0=>
  some (x0.1,x0.2))
 else bif decide (a1.1 = 2) then ((MO k a0 a1).bind fun x1=>
  some (x1.1,x1.2))
 else bif decide (a1.1 = 3) then ((MO k a0 a1).bind fun x2=>
  some (x2.1,x2.2))
 else bif decide (a1.1 = 4) then ((MO k a0 a1).bind fun x3=>
  some (x3.1,x3.2))
 else bif decide (a1.1 = 5) then ((MP k a0 a1).bind fun x4=>
  some (x4.1,x4.2))
 else bif decide (a1.1 = 6) then ((MP k a0 a1).bind fun x5=>
  some (x5.1,x5.2))
 else bif decide (a1.1 = 7) then ((MP k a0 a1).bind fun x6=>
  some (x6.1,x6.2))
 else bif decide (a1.1 = 8) then ((yNv k a0 a1.2.1 a1.2.2.1).bind fun x7=>
  some (x7.1,x7.2))
 else bif decide (a1.1 = 10) then ((CL k a0 a1.1 a1.2.1 a1.2.2.1).bind fun x8=>
  some (x8.1,x8.2))
 else bif decide (a1.1 = 11) then ((CL k a0 a1.1 a1.2.1 a1.2.2.1).bind fun x9=>
  some (x9.1,x9.2))
 else bif decide (a1.1 = 12) then ((Lu k a0 a1.2.1 a1.2.2.1).bind fun gg=>
  some (gg.1,gg.2))
 else some (0,(vA a0 []))
def Hy (k:Nat)(a0:yI)(a1:yN)(a2:qP):Option (yN×(List qP)×Int):=
 (tL k a0 a1 a2).bind fun x0=>
 bif !(decide (x0=0)) then some (a1,[],x0)
 else bif decide (a2.2.1 = 9) then ((LS k a1 a2.1).bind fun x1=>
  some (a1,x1,0))
 else bif !(decide (a2.1 = (-1))) then ((LU k (jZ a0 (jJ a1 a2.1)) 15 []).bind fun x2=>
  (LP k x2 a2.2).bind fun x3=>
  bif !(decide (x3.1=0)) then some (a1,[],x3.1)
  else bif decide (a2.2.1 = 14) then ((tq k a0.1 a0.2.1 a0.2.2.1 a0.2.2.2.1 a0.2.2.2.2 a1.1 a1.2.1 a1.2.2.1 a1.2.2.2.1 a1.2.2.2.2.1 a1.2.2.2.2.2.1 a1.2.2.2.2.2.2.1 a1.2.2.2.2.2.2.2.1 a1.2.2.2.2.2.2.2.2.1 a1.2.2.2.2.2.2.2.2.2.1 a1.2.2.2.2.2.2.2.2.2.2).bind fun x4=>
   some ((qR x4),x4.2.2.2.2.2.2.2.2.2.2.2,0))
  else(qg k x3.2.2.2.2.2.2.1 x3.2.2.2.2.2.2.2.1 x3.2.2.2.2.2.2.2.2.1 x3.2.2.2.2.2.2.2.2.2.1 x3.2.2.2.2.2.2.2.2.2.2.1 x3.2.2.2.2.2.2.2.2.2.2.2.1 x3.2.2.2.2.2.2.2.2.2.2.2.2.1 x3.2.2.2.2.2.2.2.2.2.2.2.2.2.1 x3.2.2.2.2.2.2.2.2.2.2.2.2.2.2.1 x3.2.2.2.2.2.2.2.2.2.2.2.2.2.2.2.1 x3.2.2.2.2.2.2.2.2.2.2.2.2.2.2.2.2.1 (decide (a2.2.1=13))).bind fun x5=>
  bif zR (x3.2.2.2.2.2.2.2.2.2.2.2.2.2.2.2.2.2.2.length + x5.2.2.2.2.2.2.2.2.2.2.2.length) 64 then (let y0:List qP:=(x3.2.2.2.2.2.2.2.2.2.2.2.2.2.2.2.2.2.2++x5.2.2.2.2.2.2.2.2.2.2.2)
   bif decide (a2.2.1 = 1) then ((me k x5.2.2.2.2.2.2.2.1 a2.2.2.1).bind fun x6=>
    bif decide (x6 ≥ 0) then ((tu k (LR x3 y0) 19 [a2.2.2.1]).bind fun x7=>
     some ((qR x5),x7.2.2.2.2.2.2.2.2.2.2.2.2.2.2.2.2.2,0))
    else some ((qR x5),y0,0))
   else some ((qR x5),y0,0))
  else none)
 else(Dq k (jZ a0 (jJ a1 a2.1)) a2.2).bind fun x8=>
 bif !(decide (x8.1=0)) then some (a1,[],x8.1)
 else bif decide (a2.2.1 = 14) then ((tq k a0.1 a0.2.1 a0.2.2.1 a0.2.2.2.1 a0.2.2.2.2 a1.1 a1.2.1 a1.2.2.1 a1.2.2.2.1 a1.2.2.2.2.1 a1.2.2.2.2.2.1 a1.2.2.2.2.2.2.1 a1.2.2.2.2.2.2.2.1 a1.2.2.2.2.2.2.2.2.1 a1.2.2.2.2.2.2.2.2.2.1 a1.2.2.2.2.2.2.2.2.2.2).bind fun x9=>
  some ((qR x9),x9.2.2.2.2.2.2.2.2.2.2.2,0))
 else(qg k x8.2.2.2.2.2.2.1 x8.2.2.2.2.2.2.2.1 x8.2.2.2.2.2.2.2.2.1 x8.2.2.2.2.2.2.2.2.2.1 x8.2.2.2.2.2.2.2.2.2.2.1 x8.2.2.2.2.2.2.2.2.2.2.2.1 x8.2.2.2.2.2.2.2.2.2.2.2.2.1 x8.2.2.2.2.2.2.2.2.2.2.2.2.2.1 x8.2.2.2.2.2.2.2.2.2.2.2.2.2.2.1 x8.2.2.2.2.2.2.2.2.2.2.2.2.2.2.2.1 x8.2.2.2.2.2.2.2.2.2.2.2.2.2.2.2.2.1 (decide (a2.2.1=13))).bind fun gg=>
 bif zR (x8.2.2.2.2.2.2.2.2.2.2.2.2.2.2.2.2.2.2.length + gg.2.2.2.2.2.2.2.2.2.2.2.length) 64 then (let y1:List qP:=(x8.2.2.2.2.2.2.2.2.2.2.2.2.2.2.2.2.2.2++gg.2.2.2.2.2.2.2.2.2.2.2)
  bif decide (a2.2.1 = 1) then ((me k gg.2.2.2.2.2.2.2.1 a2.2.2.1).bind fun Hv=>
   bif decide (Hv ≥ 0) then ((tu k (LR x8 y1) 19 [a2.2.2.1]).bind fun X9=>
    some ((qR gg),X9.2.2.2.2.2.2.2.2.2.2.2.2.2.2.2.2.2,0))
   else some ((qR gg),y1,0))
  else some ((qR gg),y1,0))
 else none
def Wd (k:Nat)(a0:yI)(a1:yN)(a2:qP):Option (yN×(List qP)×Int):=
 (Hy k a0 a1 a2).bind fun x0=>
 bif !(decide (x0.2.2=0)) then some (a1,[],x0.2.2)
 else some (x0.1,x0.2.1,x0.2.2)
def R7 (k:Nat):Option Bool:=
 (qZ8 k 0).bind fun x0=>
 (qVw k x0).bind fun x1=>
 (Ud k (-1) 10 [0,5]).bind fun x2=>
 (Wd k x0 x1 x2).bind fun x3=>
 (Ud k 0 1 [1,1,3,3,0,9]).bind fun x4=>
 (Wd k x0 x3.1 x4).bind fun x5=>
 bif decide (x5.2.2 = 0) then (bif decide ((x5.2.1.length : Int) = 3) then (bif zC 0 x5.2.1.length then (bif decide ((x5.2.1.getD 0 (0, 0, 0, 0, 0, 0, 0, 0)).2.1 = 15) then (bif zC 1 x5.2.1.length then ((jA k 18 [1,0,1,3]).bind fun x6=>
      bif (decide ((x5.2.1.getD 1 (0, 0, 0, 0, 0, 0, 0, 0)).2.1 = x6.1)) && ((decide ((x5.2.1.getD 1 (0, 0, 0, 0, 0, 0, 0, 0)).2.2.1 = x6.2.1)) && ((decide ((x5.2.1.getD 1 (0, 0, 0, 0, 0, 0, 0, 0)).2.2.2.1 = x6.2.2.1)) && ((decide ((x5.2.1.getD 1 (0, 0, 0, 0, 0, 0, 0, 0)).2.2.2.2.1 = x6.2.2.2.1)) && ((decide ((x5.2.1.getD 1 (0, 0, 0, 0, 0, 0, 0, 0)).2.2.2.2.2.1 = x6.2.2.2.2.1)) && ((decide ((x5.2.1.getD 1 (0, 0, 0, 0, 0, 0, 0, 0)).2.2.2.2.2.2.1 = x6.2.2.2.2.2.1)) && (decide ((x5.2.1.getD 1 (0, 0, 0, 0, 0, 0, 0, 0)).2.2.2.2.2.2.2 = x6.2.2.2.2.2.2))))))) then (bif decide (x5.1.2.2.2.2.2.2.2.2.2.1 = 5) then (bif decide ((x5.1.2.1.length : Int) = 3) then (bif zC 0 x5.1.2.1.length then some (decide ((x5.1.2.1.getD 0 (0,0,0)).1=2))
         else none)
        else some false)
       else some false)
      else some false)
     else none)
    else some false)
   else none)
  else some false)
 else some false
def LN (k:Nat)(a0:Int):Option Bool:=
 bif decide (a0≥1) then some (decide (a0≤14))
 else some false
def RY (k:Nat)(a0:Int):Option Int:=
 bif decide (a0<0) then some (-1)
 else bif decide (a0≥24) then some (-1)
 else bif zC a0 24 then some (List.getD [(-1),6,1,2,2,2,1,1,2,0,2,2,2,0,0,0,1,5,4,1,1,1,1,1] a0.toNat 0)
 else none
abbrev We:Type:=Int→Int→zB→Option (Int⊕Bool)
def RX (k:Nat)(rec:We)(s3 s4:Int)(b0:zB):Option (Int⊕Bool):=
 bif decide (s4 < 6) then (bif decide (s4 = 0) then (bif !(decide (b0.2.1=0)) then some (.inr false)
   else rec s3 (zA (s4+1)) b0)
  else bif decide (s4 = 1) then (bif !(decide (b0.2.2.1=0)) then some (.inr false)
   else rec s3 (zA (s4+1)) b0)
  else bif decide (s4 = 2) then (bif !(decide (b0.2.2.2.1=0)) then some (.inr false)
   else rec s3 (zA (s4+1)) b0)
  else bif decide (s4 = 3) then (bif !(decide (b0.2.2.2.2.1=0)) then some (.inr false)
   else rec s3 (zA (s4+1)) b0)
  else bif decide (s4 = 4) then (bif !(decide (b0.2.2.2.2.2.1=0)) then some (.inr false)
   else rec s3 (zA (s4+1)) b0)
  else bif decide (s4 = 5) then (bif !(decide (b0.2.2.2.2.2.2=0)) then some (.inr false)
   else rec s3 (zA (s4+1)) b0)
  else none)
 else some (.inl s3)
def Dm (k:Nat):Nat→We:=vH (fun _ _ _=>none) (RX k)
def Dn (k:Nat)(a0:zB):Option Bool:=
 (RY k a0.1).bind fun x0=>
 (Dm k k x0 (vi false x0 0) a0).bind fun z=>
 match z with
 |.inl z1=>some (decide (z1≥0))
 |.inr z2=>some z2
def LO (k:Nat)(a0:Int):Option Bool:=
 bif decide (a0≥10) then some (decide (a0≤14))
 else some false
def xr (k:Nat)(a0:yI)(a1:qP):Option Bool:=
 (LN k a1.2.1).bind fun x0=>
 bif !x0 then some false
 else(Dn k a1.2).bind fun x1=>
 bif !x1 then some false
 else(LO k a1.2.1).bind fun x2=>
 bif x2 then some (decide (a1.1=(-1)))
 else bif decide (a1.1≥0) then some (decide (a1.1<a0.1))
 else some false
abbrev Wh:Type:=List zB→Int→Int→List zB→Option Ui
def Bt (k:Nat)(rec:Wh)(s0:List zB)(s1 s6:Int)(r0:List zB):Option Ui:=
 bif decide (s6 < (s0.length : Int)) then (bif zC s6 s0.length then (bif decide ((s0.getD s6.toNat (0, 0, 0, 0, 0, 0, 0)).2.1 = s1) then (bif zC s6 s0.length then (bif zR (r0.length + 1) 56 then (let y0:List zB:=(r0++[(s0.getD s6.toNat (0,0,0,0,0,0,0))])
      rec s0 s1 (zA (s6+1)) y0)
     else none)
    else none)
   else rec s0 s1 (zA (s6+1)) r0)
  else none)
 else some r0
def Gf (k:Nat):Nat→Wh
 |0,_,_,_,_=>none
 |n+1,s0,s1,s6,r0=>Bt k (Gf k n) s0 s1 s6 r0
def pZ (k:Nat)(a0:List zB)(a1:Int):Option (List zB):=
 (Gf k k a0 a1 0 []).bind fun z=>
 some z
def LK (k:Nat)(a0:yI)(a1:Int):Option Bool:=
 some (decide (a1=a0.2.2.2.1))
def RP (k:Nat)(bU aq bq aB az aI aN a1:Int):Option Bool:=
 some (decide (a1>aN))
def lz (k:Nat)(a0:List zB)(a1:Int):Option Ya:=
 (j6 k a0 a1).bind fun x0=>
 bif decide (x0<0) then some (a0,0,0,0,0,0,0,0,4)
 else bif (decide (0 ≤ x0)) && (decide (x0 ≤ (a0.length : Int))) then (bif zR (0 + (List.take x0.toNat a0).length) 56 then (bif (decide (0 ≤ (zA (x0 + 1)))) && (decide ((zA (x0 + 1)) ≤ (a0.length : Int))) then (bif zR ((List.take x0.toNat a0).length + (List.drop (zA (x0 + 1)).toNat a0).length) 56 then (bif zC x0 a0.length then some (((List.take x0.toNat a0)++(List.drop (zA (x0+1)).toNat a0)),(gh (a0.getD x0.toNat (0,0,0,0,0,0,0)) 0))
     else none)
    else none)
   else none)
  else none)
 else none
def Ht (k:Nat)(a0:yI)(a1:Int):Option Bool:=
 bif decide (a1 > 0) then (bif decide (a1 < a0.2.2.2.1) then (bif !(decide (a0.2.2.2.2=0)) then some (decide ((Int.tmod a1 a0.2.2.2.2)=0))
   else none)
  else some false)
 else some false
def QB (k:Nat)(bU aq bq aB az aI aN a1:Int):Option Bool:=
 bif decide (a1≥aI) then some (decide (a1≤aN))
 else some false
def Br (k:Nat)(rec:Wh)(s0:List zB)(s1 s6:Int)(r0:List zB):Option Ui:=
 bif decide (s6 < (s0.length : Int)) then (bif zC s6 s0.length then ((QB k (s0.getD s6.toNat (0,0,0,0,0,0,0)).1 (s0.getD s6.toNat (0,0,0,0,0,0,0)).2.1 (s0.getD s6.toNat (0,0,0,0,0,0,0)).2.2.1 (s0.getD s6.toNat (0,0,0,0,0,0,0)).2.2.2.1 (s0.getD s6.toNat (0,0,0,0,0,0,0)).2.2.2.2.1 (s0.getD s6.toNat (0,0,0,0,0,0,0)).2.2.2.2.2.1 (s0.getD s6.toNat (0,0,0,0,0,0,0)).2.2.2.2.2.2 s1).bind fun x0=>
   bif x0 then (bif zC s6 s0.length then (bif zR (r0.length + 1) 56 then (let y0:List zB:=(r0++[(s0.getD s6.toNat (0,0,0,0,0,0,0))])
      rec s0 s1 (zA (s6+1)) y0)
     else none)
    else none)
   else rec s0 s1 (zA (s6+1)) r0)
  else none)
 else some r0
def Ge (k:Nat):Nat→Wh
 |0,_,_,_,_=>none
 |n+1,s0,s1,s6,r0=>Br k (Ge k n) s0 s1 s6 r0
def Bq (k:Nat)(a0:List zB)(a1:Int):Option (List zB):=
 (Ge k k a0 a1 0 []).bind fun z=>
 some z
abbrev Wr:Type:=Int×Bool×(List zB)×(List zB)×(List zB)
abbrev Wp:Type:=Int→Bool→Int→List zB→List zB→List zB→Option Wr
def Bv (k:Nat)(rec:Wp)(s7:Int)(s9:Bool)(ao:Int)(r0 r1 r2:List zB):Option Wr:=
 bif decide (ao < (r2.length : Int)) then (bif s9 then (bif zC ao r2.length then(rec s7 (decide ((r2.getD ao.toNat (0,0,0,0,0,0,0)).2.2.2.2.1=3)) (zA (ao+1)) r0 r1 r2)
   else none)
  else rec s7 false (zA (ao+1)) r0 r1 r2)
 else some (s7,s9,r0,r1,r2)
def Bu (k:Nat):Nat→Wp
 |0,_,_,_,_,_,_=>none
 |n+1,s7,s9,ao,r0,r1,r2=>Bv k (Bu k n) s7 s9 ao r0 r1 r2
abbrev Ws:Type:=Int→List zB→List zB→Option Ui
def Bw (k:Nat)(rec:Ws)(s7:Int)(r0 r1:List zB):Option Ui:=
 bif decide (s7 < (r0.length : Int)) then (bif zC s7 r0.length then ((pZ k r0 (r0.getD s7.toNat (0,0,0,0,0,0,0)).2.1).bind fun x1=>
   (Bu k k s7 true 0 r0 r1 x1).bind fun z=>
   bif zC 0 z.2.2.2.2.length then (bif zC z.1 z.2.2.1.length then (bif (decide ((z.2.2.2.2.getD 0 (0, 0, 0, 0, 0, 0, 0)).1 = (z.2.2.1.getD z.1.toNat (0, 0, 0, 0, 0, 0, 0)).1)) && ((decide ((z.2.2.2.2.getD 0 (0, 0, 0, 0, 0, 0, 0)).2.1 = (z.2.2.1.getD z.1.toNat (0, 0, 0, 0, 0, 0, 0)).2.1)) && ((decide ((z.2.2.2.2.getD 0 (0, 0, 0, 0, 0, 0, 0)).2.2.1 = (z.2.2.1.getD z.1.toNat (0, 0, 0, 0, 0, 0, 0)).2.2.1)) && ((decide ((z.2.2.2.2.getD 0 (0, 0, 0, 0, 0, 0, 0)).2.2.2.1 = (z.2.2.1.getD z.1.toNat (0, 0, 0, 0, 0, 0, 0)).2.2.2.1)) && ((decide ((z.2.2.2.2.getD 0 (0, 0, 0, 0, 0, 0, 0)).2.2.2.2.1 = (z.2.2.1.getD z.1.toNat (0, 0, 0, 0, 0, 0, 0)).2.2.2.2.1)) && ((decide ((z.2.2.2.2.getD 0 (0, 0, 0, 0, 0, 0, 0)).2.2.2.2.2.1 = (z.2.2.1.getD z.1.toNat (0, 0, 0, 0, 0, 0, 0)).2.2.2.2.2.1)) && (decide ((z.2.2.2.2.getD 0 (0, 0, 0, 0, 0, 0, 0)).2.2.2.2.2.2 = (z.2.2.1.getD z.1.toNat (0, 0, 0, 0, 0, 0, 0)).2.2.2.2.2.2))))))) then (bif zC z.1 z.2.2.1.length then (bif zR (z.2.2.2.1.length + 1) 56 then (let y0:List zB:=(z.2.2.2.1++[(z.2.2.1.getD z.1.toNat (0,0,0,0,0,0,0))])
        rec (zA (z.1+1)) z.2.2.1 y0)
       else none)
      else none)
     else bif z.2.1 then (bif zC z.1 z.2.2.1.length then (bif zR (z.2.2.2.1.length + 1) 56 then (let y1:List zB:=(z.2.2.2.1++[(z.2.2.1.getD z.1.toNat (0,0,0,0,0,0,0))])
        rec (zA (z.1+1)) z.2.2.1 y1)
       else none)
      else none)
     else rec (zA (z.1+1)) z.2.2.1 z.2.2.2.1)
    else none)
   else none)
  else none)
 else some r1
def Gh (k:Nat):Nat→Ws
 |0,_,_,_=>none
 |n+1,s7,r0,r1=>Bw k (Gh k n) s7 r0 r1
def Gg (k:Nat)(a0:List zB)(a1:Int):Option (List zB):=
 (Bq k a0 a1).bind fun x0=>
 (Gh k k 0 x0 []).bind fun z1=>
 some z1
abbrev Wx:Type:=List zB→Int→List zH→EQ→AC→EQ→Option SY
def AU (k:Nat)(rec:Wx)(s1:List zB)(s5:Int)(aa:List zH)(ae:EQ)(af:AC)(ab:EQ):Option SY:=
 bif decide (s5 < (s1.length : Int)) then (bif zC s5 s1.length then ((J7 k aa ae af ab (s1.getD s5.toNat (0,0,0,0,0,0,0)).1 (s1.getD s5.toNat (0,0,0,0,0,0,0)).2.1 (s1.getD s5.toNat (0,0,0,0,0,0,0)).2.2.1 (s1.getD s5.toNat (0,0,0,0,0,0,0)).2.2.2.1 (s1.getD s5.toNat (0,0,0,0,0,0,0)).2.2.2.2.1 (s1.getD s5.toNat (0,0,0,0,0,0,0)).2.2.2.2.2.1 (s1.getD s5.toNat (0,0,0,0,0,0,0)).2.2.2.2.2.2).bind fun x0=>
   bif !x0 then some (.inr false)
   else rec s1 (zA (s5+1)) aa ae af ab)
  else none)
 else some (.inl s1)
def FU (k:Nat):Nat→Wx
 |0,_,_,_,_,_,_=>none
 |n+1,s1,s5,aa,ae,af,ab=>AU k (FU k n) s1 s5 aa ae af ab
def FT (k:Nat)(aL:List zH)(aY:EQ)(aX:AC)(aT:EQ)(a1:List zB):Option Bool:=
 (FU k k a1 0 aL aY aX aT).bind fun z=>
 match z with
 |.inl z1=>some (decide ((z1.length:Int)≤64))
 |.inr z2=>some z2
abbrev WA:Type:=EQ→Int→EQ→Option EQ
def AM (k:Nat)(rec:WA)(s0:EQ)(s4:Int)(m0:EQ):Option EQ:=
 bif decide (s4 < (s0.length : Int)) then (bif zC s4 s0.length then (bif zR (0 + (s0.getD s4.toNat []).length) 8 then (bif zR (m0.length+1) 24 then(rec s0 (zA (s4+1)) (m0++[(s0.getD s4.toNat [])]))
    else none)
   else none)
  else none)
 else some m0
def FF (k:Nat):Nat→WA
 |0,_,_,_=>none
 |n+1,s0,s4,m0=>AM k (FF k n) s0 s4 m0
def FG (k:Nat)(a0:EQ):Option EQ:=
 (FF k k a0 0 []).bind fun z=>
 some z
def mc (k:Nat)(aL:List zH)(aY:EQ)(aX:AC)(aT:EQ):Option ((List zH)×EQ×AC×EQ):=
 bif zR (0 + aL.length) 24 then ((FG k aY).bind fun x0=>
  bif zR (0 + aX.length) 8 then ((FG k aT).bind fun x1=>
   some (aL,x0,aX,x1))
  else none)
 else none
abbrev WC:Type:=List zB→Int→Int→Int→Int→Option vY
def A0 (k:Nat)(rec:WC)(s0:List zB)(s1 s6 s7 s8:Int):Option vY:=
 bif decide (s8 < (s0.length : Int)) then (bif zC s8 s0.length then (bif !(decide ((s0.getD s8.toNat (0,0,0,0,0,0,0)).2.1=s1)) then(rec s0 s1 s6 s7 (zA (s8+1)))
   else bif zC s8 s0.length then (bif decide ((s0.getD s8.toNat (0, 0, 0, 0, 0, 0, 0)).2.2.2.2.1 = 3) then (bif zC s8 s0.length then(rec s0 s1 (zA (s6+(s0.getD s8.toNat (0,0,0,0,0,0,0)).2.2.2.1)) s7 (zA (s8+1)))
     else none)
    else bif zC s8 s0.length then(rec s0 s1 s6 (zA (s7+(s0.getD s8.toNat (0,0,0,0,0,0,0)).2.2.2.1)) (zA (s8+1)))
    else none)
   else none)
  else none)
 else some (s6,s7)
def FX (k:Nat):Nat→WC
 |0,_,_,_,_,_=>none
 |n+1,s0,s1,s6,s7,s8=>A0 k (FX k n) s0 s1 s6 s7 s8
def FW (k:Nat)(a0:List zB)(a1:Int):Option vY:=
 (FX k k a0 a1 0 0 0).bind fun z=>
 some (z.1,z.2)
def Kg (k:Nat)(a0:List zB)(a1:Int):Option Int:=
 (FW k a0 a1).bind fun x0=>
 some x0.2
def FY (k:Nat)(bn bz aP a1:Int):Option Int:=
 bif decide (a1≥aP) then some 0
 else some (zA (aP-a1))
abbrev WH:Type:=List zB→Int→Int→Int→Int→Option Int
def AZ (k:Nat)(rec:WH)(s0:List zB)(s1 s2 s7 s8:Int):Option Int:=
 bif decide (s8 < (s0.length : Int)) then (bif zC s8 s0.length then (bif decide ((s0.getD s8.toNat (0, 0, 0, 0, 0, 0, 0)).2.1 = s1) then (bif zC s8 s0.length then (bif decide ((s0.getD s8.toNat (0, 0, 0, 0, 0, 0, 0)).2.2.1 = s2) then (bif zC s8 s0.length then(rec s0 s1 s2 (zA (s7+(s0.getD s8.toNat (0,0,0,0,0,0,0)).2.2.2.1)) (zA (s8+1)))
      else none)
     else rec s0 s1 s2 s7 (zA (s8+1)))
    else none)
   else rec s0 s1 s2 s7 (zA (s8+1)))
  else none)
 else some s7
def FV (k:Nat):Nat→WH
 |0,_,_,_,_,_=>none
 |n+1,s0,s1,s2,s7,s8=>AZ k (FV k n) s0 s1 s2 s7 s8
def sS (k:Nat)(a0:List zB)(a1 a2:Int):Option Int:=
 (FV k k a0 a1 a2 0 0).bind fun z=>
 some z
def Ke (k:Nat)(a0:List zB)(a1 a2:Int):Option Int:=
 (sS k a0 a1 a2).bind fun x0=>
 (sS k a0 a2 a1).bind fun x1=>
 some (zA (x0-x1))
abbrev WN:Type:=(List zB)×Int×(List zH)×EQ×AC×EQ×(List zH)×EQ×AC×EQ
abbrev WL:Type:=List zB→Int→Int→List zH→EQ→AC→EQ→List zH→EQ→AC→EQ→Option WN
def A3 (k:Nat)(rec:WL)(s1:List zB)(s7 s8:Int)(aa:List zH)(ae:EQ)(af:AC)(ab:EQ)(r3:List zH)(m4:EQ)(r5:AC)(m6:EQ):Option WN:=
 bif decide (s8 < (r3.length : Int)) then ((Ke k s1 s7 s8).bind fun x4=>
  bif zC s7 r3.length then (bif zC s7 r3.length then (let y1:List zH:=(r3.set s7.toNat ((zA ((r3.getD s7.toNat (0,0,0)).1-x4)),(r3.getD s7.toNat (0,0,0)).2))
    bif zC s7 m6.length then (bif zC s7 m6.length then (bif zC s8 (m6.getD s7.toNat []).length then (bif zC s8 (m6.getD s7.toNat []).length then (let y2:EQ:=(m6.set s7.toNat ((m6.getD s7.toNat []).set s8.toNat (zA (((m6.getD s7.toNat []).getD s8.toNat 0)+x4))))
        rec s1 s7 (zA (s8+1)) aa ae af ab y1 m4 r5 y2)
       else none)
      else none)
     else none)
    else none)
   else none)
  else none)
 else some (s1,s7,aa,ae,af,ab,r3,m4,r5,m6)
def A2 (k:Nat):Nat→WL
 |0,_,_,_,_,_,_,_,_,_,_,_=>none
 |n+1,s1,s7,s8,aa,ae,af,ab,r3,m4,r5,m6=>A3 k (A2 k n) s1 s7 s8 aa ae af ab r3 m4 r5 m6
abbrev WO:Type:=List zB→Int→List zH→EQ→AC→EQ→List zH→EQ→AC→EQ→Option Vi
def A5 (k:Nat)(rec:WO)(s1:List zB)(s7:Int)(aa:List zH)(ae:EQ)(af:AC)(ab:EQ)(r3:List zH)(m4:EQ)(r5:AC)(m6:EQ):Option Vi:=
 bif decide (s7 < (r3.length : Int)) then (bif zC s7 r3.length then ((Kg k s1 s7).bind fun x2=>
   (FY k (r3.getD s7.toNat (0,0,0)).1 (r3.getD s7.toNat (0,0,0)).2.1 (r3.getD s7.toNat (0,0,0)).2.2 x2).bind fun x3=>
   bif zC s7 r3.length then (let y0:List zH:=(r3.set s7.toNat ((r3.getD s7.toNat (0,0,0)).1,(r3.getD s7.toNat (0,0,0)).2.1,x3))
    (A2 k k s1 s7 0 aa ae af ab y0 m4 r5 m6).bind fun z=>
    rec z.1 (zA (z.2.1+1)) z.2.2.1 z.2.2.2.1 z.2.2.2.2.1 z.2.2.2.2.2.1 z.2.2.2.2.2.2.1 z.2.2.2.2.2.2.2.1 z.2.2.2.2.2.2.2.2.1 z.2.2.2.2.2.2.2.2.2)
   else none)
  else none)
 else some (aa,ae,af,ab,r3,m4,r5,m6)
def A4 (k:Nat):Nat→WO
 |0,_,_,_,_,_,_,_,_,_,_=>none
 |n+1,s1,s7,aa,ae,af,ab,r3,m4,r5,m6=>A5 k (A4 k n) s1 s7 aa ae af ab r3 m4 r5 m6
def we (k:Nat)(aL:List zH)(aY:EQ)(aX:AC)(aT:EQ)(a1:List zB):Option ((List zH)×EQ×AC×EQ×Int):=
 (FT k aL aY aX aT a1).bind fun x0=>
 bif !x0 then some (aL,aY,aX,aT,1)
 else(mc k aL aY aX aT).bind fun x1=>
 (A4 k k a1 0 aL aY aX aT x1.1 x1.2.1 x1.2.2.1 x1.2.2.2).bind fun z1=>
 (AB k z1.2.2.2.2.1 z1.2.2.2.2.2.1 z1.2.2.2.2.2.2.1 z1.2.2.2.2.2.2.2).bind fun x5=>
 bif !x5 then some (vG z1 8)
 else some (qVv z1 0)
abbrev WU:Type:=Int→Int→Int→List zH→EQ→AC→EQ→Option Int
def A7 (k:Nat)(rec:WU)(s1 s5 s6:Int)(aa:List zH)(ae:EQ)(af:AC)(ab:EQ):Option Int:=
 bif zC s1 ab.length then (bif decide (s6 < ((ab.getD s1.toNat []).length : Int)) then (bif zC s1 ab.length then (bif zC s6 (ab.getD s1.toNat []).length then(rec s1 (zA (s5+((ab.getD s1.toNat []).getD s6.toNat 0))) (zA (s6+1)) aa ae af ab)
    else none)
   else none)
  else some s5)
 else none
def A6 (k:Nat):Nat→WU
 |0,_,_,_,_,_,_,_=>none
 |n+1,s1,s5,s6,aa,ae,af,ab=>A7 k (A6 k n) s1 s5 s6 aa ae af ab
def Kk (k:Nat)(aL:List zH)(aY:EQ)(aX:AC)(aT:EQ)(a1:Int):Option Int:=
 (A6 k k a1 0 0 aL aY aX aT).bind fun z=>
 some z
abbrev WY:Type:=(Int×Int×Int×Int×Int×(List zH)×EQ×AC×EQ)⊕Bool
abbrev WW:Type:=List zB→Int→Int→Int→Int→Int→Int→List zH→EQ→AC→EQ→Option WY
def A9 (k:Nat)(rec:WW)(s1:List zB)(s2 s7 s8 s9 ao bc:Int)(aa:List zH)(ae:EQ)(af:AC)(ab:EQ):Option WY:=
 bif decide (bc < (aa.length : Int)) then ((sS k s1 s2 bc).bind fun x2=>
  (sS k s1 bc s2).bind fun x3=>
  (sS k s1 s2 bc).bind fun x4=>
  bif decide (x4 > 0) then (bif zC s2 ae.length then (bif zC bc (ae.getD s2.toNat []).length then (bif !(decide (((ae.getD s2.toNat []).getD bc.toNat 0) = (-1))) then (bif zC s2 ab.length then (bif zC bc (ab.getD s2.toNat []).length then (bif zC s2 ae.length then (bif zC bc (ae.getD s2.toNat []).length then (bif decide ((zA (((ab.getD s2.toNat []).getD bc.toNat 0)+(zA (x2-x3))))>((ae.getD s2.toNat []).getD bc.toNat 0)) then some (.inr true)
          else rec s1 s2 s7 s8 (zA (s9-(zA (x2-x3)))) (zA (ao+(zA (x2-x3)))) (zA (bc+1)) aa ae af ab)
         else none)
        else none)
       else none)
      else none)
     else rec s1 s2 s7 s8 (zA (s9-(zA (x2-x3)))) (zA (ao+(zA (x2-x3)))) (zA (bc+1)) aa ae af ab)
    else none)
   else none)
  else rec s1 s2 s7 s8 (zA (s9-(zA (x2-x3)))) (zA (ao+(zA (x2-x3)))) (zA (bc+1)) aa ae af ab)
 else some (.inl (s2,s7,s8,s9,ao,aa,ae,af,ab))
def oz (k:Nat):Nat→WW
 |0,_,_,_,_,_,_,_,_,_,_,_=>none
 |n+1,s1,s2,s7,s8,s9,ao,bc,aa,ae,af,ab=>A9 k (oz k n) s1 s2 s7 s8 s9 ao bc aa ae af ab
def Ko (k:Nat)(aL:List zH)(aY:EQ)(aX:AC)(aT:EQ)(a1:List zB)(a2:Int):Option Bool:=
 (FW k a1 a2).bind fun x0=>
 bif decide ((zA (x0.1+x0.2))=0) then some false
 else bif zC a2 aL.length then (bif zC a2 aL.length then ((Kk k aL aY aX aT a2).bind fun x1=>
   (oz k k a1 a2 x0.1 x0.2 (zA ((aL.getD a2.toNat (0,0,0)).1+(aL.getD a2.toNat (0,0,0)).2.1)) x1 0 aL aY aX aT).bind fun z=>
   match z with
   |.inl z1=>bif decide (z1.2.2.2.1<0) then some true
    else bif decide (z1.2.1 > 0) then (bif zC z1.1 z1.2.2.2.2.2.1.length then ((FY k (z1.2.2.2.2.2.1.getD z1.1.toNat (0,0,0)).1 (z1.2.2.2.2.2.1.getD z1.1.toNat (0,0,0)).2.1 (z1.2.2.2.2.2.1.getD z1.1.toNat (0,0,0)).2.2 z1.2.2.1).bind fun x5=>
      bif decide (z1.2.2.2.1<x5) then some true
      else bif zC z1.1 z1.2.2.2.2.2.2.2.1.length then (bif !(decide ((z1.2.2.2.2.2.2.2.1.getD z1.1.toNat 0) = (-1))) then (bif zC z1.1 z1.2.2.2.2.2.2.2.1.length then some (decide (z1.2.2.2.2.1>(z1.2.2.2.2.2.2.2.1.getD z1.1.toNat 0)))
        else none)
       else some false)
      else none)
     else none)
    else bif zC z1.1 z1.2.2.2.2.2.2.2.1.length then (bif !(decide ((z1.2.2.2.2.2.2.2.1.getD z1.1.toNat 0) = (-1))) then (bif zC z1.1 z1.2.2.2.2.2.2.2.1.length then some (decide (z1.2.2.2.2.1>(z1.2.2.2.2.2.2.2.1.getD z1.1.toNat 0)))
      else none)
     else some false)
    else none
   |.inr z2=>some z2)
  else none)
 else none
abbrev WZ:Type:=List zB→Int→List zH→EQ→AC→EQ→AC→Option AC
def oC (k:Nat)(rec:WZ)(s1:List zB)(s6:Int)(aa:List zH)(ae:EQ)(af:AC)(ab:EQ)(r1:AC):Option AC:=
 bif decide (s6 < (aa.length : Int)) then ((Ko k aa ae af ab s1 s6).bind fun x0=>
  bif x0 then (bif zR (r1.length+1) 8 then(rec s1 (zA (s6+1)) aa ae af ab (r1++[s6]))
   else none)
  else rec s1 (zA (s6+1)) aa ae af ab r1)
 else some r1
def pX (k:Nat):Nat→WZ
 |0,_,_,_,_,_,_,_=>none
 |n+1,s1,s6,aa,ae,af,ab,r1=>oC k (pX k n) s1 s6 aa ae af ab r1
def pW (k:Nat)(aL:List zH)(aY:EQ)(aX:AC)(aT:EQ)(a1:List zB):Option AC:=
 (pX k k a1 0 aL aY aX aT []).bind fun z=>
 some z
def F0 (k:Nat)(aL:List zH)(aY:EQ)(aX:AC)(aT:EQ)(a1:List zB):Option Bool:=
 (FT k aL aY aX aT a1).bind fun x0=>
 bif x0 then ((pW k aL aY aX aT a1).bind fun x1=>
  some (decide ((x1.length:Int)=0)))
 else some false
def qw (k:Nat)(aL:List zH)(aY:EQ)(aX:AC)(aT:EQ)(a1:List zB):Option ((List zH)×EQ×AC×EQ×Bool):=
 (we k aL aY aX aT a1).bind fun x0=>
 bif decide (x0.2.2.2.2 = 0) then ((F0 k aL aY aX aT a1).bind fun x1=>
  some (vG x0 x1))
 else some (vG x0 false)
abbrev W3:Type:=zB⊕(Bool×Int×Int×Int×Int×Int×Int×Int)
abbrev W1:Type:=Int→List zH→EQ→AC→EQ→Int→Int→Int→Int→Int→Int→Int→List zB→Option W3
def CX (k:Nat)(rec:W1)(s9:Int)(aa:List zH)(ae:EQ)(af:AC)(ab:EQ)(an ar au ax aD aE aF:Int)(r2:List zB):Option W3:=
 bif decide (s9 < (r2.length : Int)) then (bif ((decide (0 ≤ s9)) && (decide (s9 ≤ (zA (s9 + 1))))) && (decide ((zA (s9 + 1)) ≤ (r2.length : Int))) then ((qw k aa ae af ab (qW r2 (0+s9.toNat) ((zA (s9+1)).toNat-s9.toNat))).bind fun x1=>
   bif x1.2.2.2.2 then (bif zC s9 r2.length then some (.inr (true,(r2.getD s9.toNat (0,0,0,0,0,0,0)).1,(r2.getD s9.toNat (0,0,0,0,0,0,0)).2.1,(r2.getD s9.toNat (0,0,0,0,0,0,0)).2.2.1,(r2.getD s9.toNat (0,0,0,0,0,0,0)).2.2.2.1,(r2.getD s9.toNat (0,0,0,0,0,0,0)).2.2.2.2.1,(r2.getD s9.toNat (0,0,0,0,0,0,0)).2.2.2.2.2.1,(r2.getD s9.toNat (0,0,0,0,0,0,0)).2.2.2.2.2.2))
    else none)
   else rec (zA (s9+1)) aa ae af ab an ar au ax aD aE aF r2)
  else none)
 else some (.inl (an,ar,au,ax,aD,aE,aF))
def Hi (k:Nat):Nat→W1
 |0,_,_,_,_,_,_,_,_,_,_,_,_,_=>none
 |n+1,s9,aa,ae,af,ab,an,ar,au,ax,aD,aE,aF,r2=>CX k (Hi k n) s9 aa ae af ab an ar au ax aD aE aF r2
def LC (k:Nat)(aL:List zH)(aY:EQ)(aX:AC)(aT:EQ)(a1:List zB)(a2:Int):Option (Int×Int×Int×Int×Int×Int×Int×Bool):=
 (Gg k a1 a2).bind fun x0=>
 (Hi k k 0 aL aY aX aT 0 0 0 0 0 0 0 x0).bind fun z=>
 match z with
 |.inl z1=>some (0,0,0,0,0,0,0,false)
 |.inr z2=>some (qX1 z2 z2.1)
abbrev W4:Type:=List zB→Int→List zH→EQ→AC→EQ→List zB→Option Vp
def CY (k:Nat)(rec:W4)(s1:List zB)(s2:Int)(aa:List zH)(ae:EQ)(af:AC)(ab:EQ)(r2:List zB):Option Vp:=
 (LC k aa ae af ab s1 s2).bind fun x0=>
 bif !x0.2.2.2.2.2.2.2 then some (s1,aa,ae,af,ab,r2)
 else(qw k aa ae af ab [(wC x0)]).bind fun x1=>
 (lz k s1 x0.1).bind fun x2=>
 bif zR (r2.length + 1) 56 then (let y0:List zB:=(r2++[(wC x0)])
  rec x2.1 s2 x1.1 x1.2.1 x1.2.2.1 x1.2.2.2.1 y0)
 else none
def Hj (k:Nat):Nat→W4
 |0,_,_,_,_,_,_,_=>none
 |n+1,s1,s2,aa,ae,af,ab,r2=>CY k (Hj k n) s1 s2 aa ae af ab r2
def LD (k:Nat)(aL:List zH)(aY:EQ)(aX:AC)(aT:EQ)(a1:List zB)(a2:Int):Option oS:=
 (Hj k k a1 a2 aL aY aX aT []).bind fun z=>
 some (fO z (z.1,z.2.2.2.2.2))
abbrev W9:Type:=(Int×(List zH)×EQ×AC×EQ×Int×Int×Int×Int×Int×Int×Int×Int×Int×Int×Int×Int×Int×Int×(List zB))⊕(Bool×Int×Int×Int×Int×Int×Int×Int×Int×Int×Int×Int×Int×Int×Int)
abbrev W7:Type:=Int→Int→List zH→EQ→AC→EQ→Int→Int→Int→Int→Int→Int→Int→Int→Int→Int→Int→Int→Int→Int→List zB→Option W9
def CZ (k:Nat)(rec:W7)(ao bc:Int)(aa:List zH)(ae:EQ)(af:AC)(ab:EQ)(an ar au ax aD aE aF aZ bP bQ cG dW dX dY:Int)(r3:List zB):Option W9:=
 bif decide (bc < (r3.length : Int)) then (bif zC ao r3.length then (bif zC bc r3.length then (bif !(decide ((r3.getD bc.toNat (0,0,0,0,0,0,0)).2.1=(r3.getD ao.toNat (0,0,0,0,0,0,0)).2.2.1)) then(rec ao (zA (bc+1)) aa ae af ab an ar au ax aD aE aF aZ bP bQ cG dW dX dY r3)
    else bif !(decide ((r3.getD bc.toNat (0,0,0,0,0,0,0)).2.2.1=(r3.getD ao.toNat (0,0,0,0,0,0,0)).2.1)) then(rec ao (zA (bc+1)) aa ae af ab an ar au ax aD aE aF aZ bP bQ cG dW dX dY r3)
    else bif decide ((r3.getD ao.toNat (0,0,0,0,0,0,0)).2.1≥(r3.getD bc.toNat (0,0,0,0,0,0,0)).2.1) then(rec ao (zA (bc+1)) aa ae af ab an ar au ax aD aE aF aZ bP bQ cG dW dX dY r3)
    else(qw k aa ae af ab [(r3.getD ao.toNat (0,0,0,0,0,0,0)),(r3.getD bc.toNat (0,0,0,0,0,0,0))]).bind fun x1=>
    bif x1.2.2.2.2 then some (.inr (true,(gh (r3.getD ao.toNat (0,0,0,0,0,0,0)) ((r3.getD bc.toNat (0,0,0,0,0,0,0)).1,(r3.getD bc.toNat (0,0,0,0,0,0,0)).2.1,(r3.getD bc.toNat (0,0,0,0,0,0,0)).2.2.1,(r3.getD bc.toNat (0,0,0,0,0,0,0)).2.2.2.1,(r3.getD bc.toNat (0,0,0,0,0,0,0)).2.2.2.2.1,(r3.getD bc.toNat (0,0,0,0,0,0,0)).2.2.2.2.2.1,(r3.getD bc.toNat (0,0,0,0,0,0,0)).2.2.2.2.2.2))))
    else rec ao (zA (bc+1)) aa ae af ab an ar au ax aD aE aF aZ bP bQ cG dW dX dY r3)
   else none)
  else none)
 else some (.inl (ao,aa,ae,af,ab,an,ar,au,ax,aD,aE,aF,aZ,bP,bQ,cG,dW,dX,dY,r3))
def Hl (k:Nat):Nat→W7
 |0,_,_,_,_,_,_,_,_,_,_,_,_,_,_,_,_,_,_,_,_,_=>none
 |n+1,ao,bc,aa,ae,af,ab,an,ar,au,ax,aD,aE,aF,aZ,bP,bQ,cG,dW,dX,dY,r3=>CZ k (Hl k n) ao bc aa ae af ab an ar au ax aD aE aF aZ bP bQ cG dW dX dY r3
abbrev Xc:Type:=(Int×Int×Int×Int×Int×Int×Int×Int×Int×Int×Int×Int×Int×Int)⊕(Bool×Int×Int×Int×Int×Int×Int×Int×Int×Int×Int×Int×Int×Int×Int)
abbrev Xa:Type:=Int→List zH→EQ→AC→EQ→Int→Int→Int→Int→Int→Int→Int→Int→Int→Int→Int→Int→Int→Int→List zB→Option Xc
def C3 (k:Nat)(rec:Xa)(ao:Int)(aa:List zH)(ae:EQ)(af:AC)(ab:EQ)(an ar au ax aD aE aF aZ bP bQ cG dW dX dY:Int)(r3:List zB):Option Xc:=
 bif decide (ao < (r3.length : Int)) then ((Hl k k ao 0 aa ae af ab an ar au ax aD aE aF aZ bP bQ cG dW dX dY r3).bind fun z=>
  match z with
  |.inl z1=>rec (zA (z1.1+1)) z1.2.1 z1.2.2.1 z1.2.2.2.1 z1.2.2.2.2.1 z1.2.2.2.2.2.1 z1.2.2.2.2.2.2.1 z1.2.2.2.2.2.2.2.1 z1.2.2.2.2.2.2.2.2.1 z1.2.2.2.2.2.2.2.2.2.1 z1.2.2.2.2.2.2.2.2.2.2.1 z1.2.2.2.2.2.2.2.2.2.2.2.1 z1.2.2.2.2.2.2.2.2.2.2.2.2.1 z1.2.2.2.2.2.2.2.2.2.2.2.2.2.1 z1.2.2.2.2.2.2.2.2.2.2.2.2.2.2.1 z1.2.2.2.2.2.2.2.2.2.2.2.2.2.2.2.1 z1.2.2.2.2.2.2.2.2.2.2.2.2.2.2.2.2.1 z1.2.2.2.2.2.2.2.2.2.2.2.2.2.2.2.2.2.1 z1.2.2.2.2.2.2.2.2.2.2.2.2.2.2.2.2.2.2.1 z1.2.2.2.2.2.2.2.2.2.2.2.2.2.2.2.2.2.2.2
  |.inr z2=>some (.inr (z2.1,z2.2.1,z2.2.2.1,z2.2.2.2.1,z2.2.2.2.2.1,z2.2.2.2.2.2.1,z2.2.2.2.2.2.2.1,z2.2.2.2.2.2.2.2.1,z2.2.2.2.2.2.2.2.2.1,z2.2.2.2.2.2.2.2.2.2.1,z2.2.2.2.2.2.2.2.2.2.2.1,z2.2.2.2.2.2.2.2.2.2.2.2.1,z2.2.2.2.2.2.2.2.2.2.2.2.2.1,z2.2.2.2.2.2.2.2.2.2.2.2.2.2.1,z2.2.2.2.2.2.2.2.2.2.2.2.2.2.2)))
 else some (.inl (an,ar,au,ax,aD,aE,aF,aZ,bP,bQ,cG,dW,dX,dY))
def Hm (k:Nat):Nat→Xa
 |0,_,_,_,_,_,_,_,_,_,_,_,_,_,_,_,_,_,_,_,_=>none
 |n+1,ao,aa,ae,af,ab,an,ar,au,ax,aD,aE,aF,aZ,bP,bQ,cG,dW,dX,dY,r3=>C3 k (Hm k n) ao aa ae af ab an ar au ax aD aE aF aZ bP bQ cG dW dX dY r3
def LF (k:Nat)(aL:List zH)(aY:EQ)(aX:AC)(aT:EQ)(a1:List zB)(a2:Int):Option (Int×Int×Int×Int×Int×Int×Int×Int×Int×Int×Int×Int×Int×Int×Bool):=
 (Gg k a1 a2).bind fun x0=>
 (Hm k k 0 aL aY aX aT 0 0 0 0 0 0 0 0 0 0 0 0 0 0 x0).bind fun z3=>
 match z3 with
 |.inl z4=>some (0,0,0,0,0,0,0,0,0,0,0,0,0,0,false)
 |.inr z5=>some (yX0 z5 z5.1)
def C4 (k:Nat)(rec:W4)(s1:List zB)(s2:Int)(aa:List zH)(ae:EQ)(af:AC)(ab:EQ)(r2:List zB):Option Vp:=
 (LF k aa ae af ab s1 s2).bind fun x0=>
 bif !x0.2.2.2.2.2.2.2.2.2.2.2.2.2.2 then some (s1,aa,ae,af,ab,r2)
 else(qw k aa ae af ab [(wC x0),(Yd x0)]).bind fun x1=>
 (lz k s1 x0.1).bind fun x2=>
 (lz k x2.1 x0.2.2.2.2.2.2.2.1).bind fun x3=>
 bif zR (r2.length + 2) 56 then (let y0:List zB:=(r2++[(wC x0),(Yd x0)])
  rec x3.1 s2 x1.1 x1.2.1 x1.2.2.1 x1.2.2.2.1 y0)
 else none
def Hn (k:Nat):Nat→W4
 |0,_,_,_,_,_,_,_=>none
 |n+1,s1,s2,aa,ae,af,ab,r2=>C4 k (Hn k n) s1 s2 aa ae af ab r2
def LG (k:Nat)(aL:List zH)(aY:EQ)(aX:AC)(aT:EQ)(a1:List zB)(a2:Int):Option oS:=
 (Hn k k a1 a2 aL aY aX aT []).bind fun z=>
 some (fO z (z.1,z.2.2.2.2.2))
def Dd (k:Nat)(rec:W4)(s1:List zB)(s2:Int)(aa:List zH)(ae:EQ)(af:AC)(ab:EQ)(r2:List zB):Option Vp:=
 (LD k aa ae af ab s1 s2).bind fun x0=>
 (LG k x0.1 x0.2.1 x0.2.2.1 x0.2.2.2.1 x0.2.2.2.2.1 s2).bind fun x1=>
 bif zR (r2.length + x0.2.2.2.2.2.length) 56 then (bif zR ((r2 ++ x0.2.2.2.2.2).length + x1.2.2.2.2.2.length) 56 then (let y0:List zB:=((r2++x0.2.2.2.2.2)++x1.2.2.2.2.2)
   bif decide ((x1.2.2.2.2.2.length:Int)=0) then some (x1.2.2.2.2.1,(vG x1 y0))
   else rec x1.2.2.2.2.1 s2 x1.1 x1.2.1 x1.2.2.1 x1.2.2.2.1 y0)
  else none)
 else none
def Hr (k:Nat):Nat→W4
 |0,_,_,_,_,_,_,_=>none
 |n+1,s1,s2,aa,ae,af,ab,r2=>Dd k (Hr k n) s1 s2 aa ae af ab r2
def Hs (k:Nat)(aL:List zH)(aY:EQ)(aX:AC)(aT:EQ)(a1:List zB)(a2:Int):Option oS:=
 (Hr k k a1 a2 aL aY aX aT []).bind fun z=>
 some (fO z (z.1,z.2.2.2.2.2))
abbrev Xk:Type:=List zB→AC→Int→List zB→Option Ui
def C7 (k:Nat)(rec:Xk)(s0:List zB)(s1:AC)(s6:Int)(r0:List zB):Option Ui:=
 bif decide (s6 < (s0.length : Int)) then (bif (decide (0 ≤ s6)) && (decide (s6 ≤ (s0.length : Int))) then (bif zC s6 s0.length then ((pZ k (List.take s6.toNat s0) (s0.getD s6.toNat (0,0,0,0,0,0,0)).2.1).bind fun x0=>
    bif zC s6 s0.length then (bif decide ((s0.getD s6.toNat (0, 0, 0, 0, 0, 0, 0)).2.1 ≥ 0) then (bif zC s6 s0.length then (bif decide ((s0.getD s6.toNat (0, 0, 0, 0, 0, 0, 0)).2.1 < (s1.length : Int)) then (bif zC s6 s0.length then (bif zC (s0.getD s6.toNat (0, 0, 0, 0, 0, 0, 0)).2.1 s1.length then (bif decide ((x0.length : Int) < (s1.getD (s0.getD s6.toNat (0, 0, 0, 0, 0, 0, 0)).2.1.toNat 0)) then (bif zC s6 s0.length then (bif zR (r0.length + 1) 56 then (let y0:List zB:=(r0++[(s0.getD s6.toNat (0,0,0,0,0,0,0))])
             rec s0 s1 (zA (s6+1)) y0)
            else none)
           else none)
          else rec s0 s1 (zA (s6+1)) r0)
         else none)
        else none)
       else rec s0 s1 (zA (s6+1)) r0)
      else none)
     else rec s0 s1 (zA (s6+1)) r0)
    else none)
   else none)
  else none)
 else some r0
def C6 (k:Nat):Nat→Xk
 |0,_,_,_,_=>none
 |n+1,s0,s1,s6,r0=>C7 k (C6 k n) s0 s1 s6 r0
def C5 (k:Nat)(a0:List zB)(a1:AC):Option (List zB):=
 (C6 k k a0 a1 0 []).bind fun z=>
 some z
end Go.Ab.Gi
