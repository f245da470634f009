/- part 6 -/
import Derived.Test.YthpehdcmpldloaaGreatGiAbD
set_option linter.unusedVariables false
set_option maxRecDepth 100000
abbrev Go.Ab.Ty.i:Go.Ab.Ty:=.int .i64
abbrev Go.Ab.CS.i:Go.Ab.CS:=.int .i64
abbrev Go.Ab.PC.i:Go.Ab.PC:=.int .i64
abbrev Go.Ab.RC.i:Go.Ab.RC:=.int .i64
namespace Go.Ab.Gi
abbrev AC:=List Int
abbrev EQ:=List AC
abbrev lF:Type:=AC×Bool
abbrev jA:Go.Ab.Ty:=.pair .i .i
abbrev wE:Type:=Int×AC×Int×AC×Int×Int×Int×Bool×Bool×Int
abbrev fa:Type:=Int×Bool
abbrev vM:Type:=Int×Int×Bool
abbrev gv:Type:=Int×Int×Int×Bool
abbrev y8:Type:=Int×Int×Int×Int×Int×Bool×Bool×Int
abbrev qP:Type:=Int×Int×Int×Int×Int×Int×Int×Int
abbrev zC:Type:=Int×Int×Int×Int×Int×Int×Int
abbrev LW:Type:=Int×Int×Int×Int×Int×Int
abbrev zI:Type:=Int×Int×Int
abbrev vX:Type:=Int×Int
abbrev tn:Type:=(List zI)×EQ×AC×EQ×(List zC)×(List zC)
abbrev LY:Type:=(List zI)×EQ×AC×EQ
abbrev qPg:Type:=(List zC)×Int×Int×Int×Int×Int×Int×Int×Int
abbrev qX:Go.Ab.Ty:=.pair .i jA
abbrev yQn:Type:=Bool×Int×Int×Int×Int×Int×Int×Int×Int×Int×Int×Int×Int×Int×Int×(List zI)×EQ×AC×EQ
abbrev Ro:Type:=Int×(List zI)×EQ×AC×EQ×AC×EQ×(List zC)×AC×Int×Bool×(List qP)
abbrev vH:Type:=Int×(List zI)×EQ×AC×EQ×AC×EQ×(List zC)×AC×Int×Bool
abbrev vg:Type:=Int×(List vX)×Int×Int×Int×Int×(List zI)×EQ×AC×EQ×AC×EQ×(List zC)×AC×Int×Bool×Int×(List qP)×Int
abbrev jL:Type:=Int×(List vX)×Int×Int×Int×Int×(List zI)×EQ×AC×EQ×AC×EQ×(List zC)×AC×Int×Bool×Int×(List qP)
abbrev pw:Type:=Int×(List vX)×Int×Int×Int×Int×(List zI)×EQ×AC×EQ×AC×EQ×(List zC)×AC×Int×Bool×Int×Bool
abbrev ru:Type:=Int×(List vX)×Int×Int×Int×Int×(List zI)×EQ×AC×EQ×AC×EQ×(List zC)×AC×Int×Bool×Int×Int
abbrev lG:Type:=Int×(List vX)×Int×Int×Int×Int×(List zI)×EQ×AC×EQ×AC×EQ×(List zC)×AC×Int×Bool×Int
abbrev vQ:Type:=Int×(List vX)×Int×Int×Int
abbrev vYn:Go.Ab.Ty:=.pair .i qX
abbrev vQx:Go.Ab.Ty:=.pair .i vYn
abbrev vU2:Go.Ab.Ty:=.pair .i vQx
abbrev zG:Go.Ab.Ty:=.pair .i vU2
abbrev yH:Go.Ab.Ty:=.pair .i zG
abbrev qZq:List Go.Ab.CS:=[.dat false .i,.dat false .i,.dat false (.sl .i)]
abbrev jZ:List Go.Ab.CS:=[.dat false qX,.dat false (.sl .i),.dat false .i,.dat false (.sl .i)]
abbrev Hh:List Go.Ab.CS:=[.dat true (.int .u8),.bool]
abbrev wA:List Go.Ab.CS:=[.dat true qX,.dat true (.sl .i),.dat true .i,.dat true (.sl .i)]
abbrev QT:List Go.Ab.CS:=[.i,.dat false qX,.dat false (.sl .i),.dat false .i,.dat false (.sl .i),.dat false .i,.dat false (.sl .i),.dat false zG,.dat false .i,.i,.bool]
abbrev qt:List Go.Ab.CS:=[.i,.dat false jA,.i,.i,.i]
abbrev iU:List Go.Ab.CS:=[.i,.dat true qX,.dat true (.sl .i),.dat true .i,.dat true (.sl .i),.dat true .i,.dat true (.sl .i),.dat true zG,.dat true .i,.i,.bool]
abbrev QU:List Go.Ab.CS:=[.i,.dat true jA,.i,.i,.i]
abbrev ZT:List Go.Ab.CS:=[.i,.dat true jA,.i,.i,.i,.i,.dat true qX,.dat true (.sl .i),.dat true .i,.dat true (.sl .i),.dat true .i,.dat true (.sl .i),.dat true zG,.dat true .i,.i,.bool,.i,.lit (.osl 1001001 none)]
abbrev qIj:List Go.Ab.CS:=[.i,.dat true jA,.i,.i,.i,.i,.dat true qX,.dat true (.sl .i),.dat true .i,.dat true (.sl .i),.dat true .i,.dat true (.sl .i),.dat true zG,.dat true .i,.i,.bool,.i,.lit .nsl]
abbrev qS3:List Go.Ab.CS:=[.i,.dat true jA,.i,.i,.i,.i,.dat true qX,.dat true (.sl .i),.dat true .i,.dat true (.sl .i),.dat true .i,.dat true (.sl .i),.dat true zG,.dat true .i,.i,.bool,.i,.lit .nsl,.i]
abbrev wW:List Go.Ab.CS:=[.i,.i,.i,.i,.i,.i,.i]
abbrev yZf:List Go.Ab.CS:=[.i,.i,.i,.i,.i,.i,.i,.i,.i,.i,.i,.i,.i,.i,.dat true qX,.dat true (.sl .i),.dat true .i,.dat true (.sl .i)]
abbrev QI:List Go.Ab.CS:=[.i,.i,.i,.i,.i,.i,.i,.i,.i,.i,.i,.i,.i,.i,.lit .nsl,.lit .nsl,.lit .nsl,.lit .nsl]
abbrev yJj:List Go.Ab.CS:=[.i,.lit (.osl 1001001 none),.i,.lit (.osl 1001002 none),.i,.i,.i,.bool,.bool,.i]
abbrev yCi:List Go.Ab.CS:=[.i,.lit (.osl 1001002 none),.lit (.osl 1001003 none),.lit (.osl 1001004 none),.lit (.osl 1001005 none),.lit (.osl 1001006 none),.lit (.osl 1001007 none),.lit .nsl,.lit .nsl,.i,.bool]
abbrev qP8:List Go.Ab.CS:=[.i,.lit (.osl 1001003 none),.i,.lit (.osl 1001004 none),.i,.i,.i,.bool,.bool,.i]
abbrev vAt:List Go.Ab.CS:=[.i,.lit (.osl 1001003 none),.lit (.osl 1001004 none),.lit (.osl 1001005 none),.lit (.osl 1001006 none),.lit (.osl 1001007 none),.lit (.osl 1001008 none),.lit (.osl 1001009 none),.lit .nsl,.i,.bool]
abbrev yVr:List Go.Ab.CS:=[.i,.lit (.osl 1001003 none),.lit (.osl 1001004 none),.lit (.osl 1001005 none),.lit (.osl 1001006 none),.lit (.osl 1001007 none),.lit (.osl 1001008 none),.lit .nsl,.lit .nsl,.i,.bool]
abbrev Qh:List Go.Ab.CS:=[.i,.lit (.osl 1001003 none),.lit (.osl 1001004 none),.lit (.osl 1001005 none),.lit (.osl 1001006 none),.lit (.osl 1001007 none),.lit .nsl,.lit .nsl,.lit .nsl,.i,.bool]
abbrev yVa:List Go.Ab.CS:=[.i,.lit (.osl 1001004 none),.lit .nsl,.lit .nsl,.lit .nsl,.lit .nsl,.lit .nsl,.lit .nsl,.lit .nsl,.i,.bool]
abbrev ft:List Go.Ab.CS:=[.i,.lit .nsl,.lit .nsl,.lit .nsl,.lit .nsl,.lit .nsl,.lit .nsl,.lit .nsl,.lit .nsl,.i,.bool]
abbrev qZ5:List Go.Ab.CS:=[.lit (.osl 1001002 none),.lit (.osl 1001003 none),.lit (.osl 1001004 none)]
abbrev tj:List Go.Ab.CS:=[.lit (.osl 1001003 none),.lit (.osl 1001004 none),.lit (.osl 1001005 none),.lit (.osl 1001006 none)]
abbrev yJe:List Go.Ab.CS:=[.lit (.osl 1001004 none),.lit (.osl 1001005 none),.lit (.osl 1001006 none),.lit (.osl 1001007 none)]
abbrev oc:List Go.Ab.CS:=[.lit .nsl,.lit .nsl,.lit .nsl,.lit .nsl]
abbrev QG:List Go.Ab.PC:=[.dat false .i,.dat false .i,.dat false (.sl .i)]
abbrev jV:List Go.Ab.PC:=[.dat false qX,.dat false (.sl .i),.dat false .i,.dat false (.sl .i)]
abbrev kZ:List Go.Ab.PC:=[.dat true qX,.dat true (.sl .i),.dat true .i,.dat true (.sl .i)]
abbrev Ly:List Go.Ab.PC:=[.i,.dat false (.int .u8),.i,.dat false (.int .u8),.i,.i,.i,.bool,.bool,.i]
abbrev tf:List Go.Ab.PC:=[.i,.dat false qX,.dat false (.sl .i),.dat false .i,.dat false (.sl .i),.dat false .i,.dat false (.sl .i),.dat false zG,.dat false .i,.i,.bool]
abbrev ki:List Go.Ab.PC:=[.i,.dat false jA,.i,.i,.i]
abbrev Zn:List Go.Ab.PC:=[.i,.dat false jA,.i,.i,.i,.i,.dat false qX,.dat false (.sl .i),.dat false .i,.dat false (.sl .i),.dat false .i,.dat false (.sl .i),.dat false zG,.dat false .i,.i,.bool,.i,.dat false yH]
abbrev yMk:List Go.Ab.PC:=[.i,.dat false jA,.i,.i,.i,.i,.dat false qX,.dat false (.sl .i),.dat false .i,.dat false (.sl .i),.dat false .i,.dat false (.sl .i),.dat false zG,.dat false .i,.i,.bool,.i,.dat false yH,.i]
abbrev yo:List Go.Ab.PC:=[.i,.dat true qX,.dat true (.sl .i),.dat true .i,.dat true (.sl .i),.dat true .i,.dat true (.sl .i),.dat true zG,.dat true .i,.i,.bool]
abbrev QP:List Go.Ab.PC:=[.i,.dat true jA,.i,.i,.i]
abbrev n9:List Go.Ab.PC:=[.i,.i,.i]
abbrev LF:List Go.Ab.PC:=[.i,.i,.i,.i,.i,.i]
abbrev vO:List Go.Ab.PC:=[.i,.i,.i,.i,.i,.i,.i]
abbrev LB:List Go.Ab.PC:=[.i,.i,.i,.i,.i,.i,.i,.i]
abbrev nn:List Go.Ab.RC:=[.fro qX,.fro (.sl .i),.fro .i,.fro (.sl .i)]
abbrev vC:List Go.Ab.RC:=[.i]
abbrev yp:List Go.Ab.RC:=[.i,.fro qX,.fro (.sl .i),.fro .i,.fro (.sl .i),.fro .i,.fro (.sl .i),.fro zG,.fro .i,.i,.bool]
abbrev lA:List Go.Ab.RC:=[.i,.fro jA,.i,.i,.i,.i,.fro qX,.fro (.sl .i),.fro .i,.fro (.sl .i),.fro .i,.fro (.sl .i),.fro zG,.fro .i,.i,.bool,.i,.own yH]
abbrev Ck:List Go.Ab.RC:=[.i,.fro jA,.i,.i,.i,.i,.fro qX,.fro (.sl .i),.fro .i,.fro (.sl .i),.fro .i,.fro (.sl .i),.fro zG,.fro .i,.i,.bool,.i,.own yH,.i]
abbrev qu:List Go.Ab.RC:=[.i,.i,.i,.i,.i,.i,.i]
abbrev kY:List Go.Ab.RC:=[.i,.own (.int .u8),.i,.own (.int .u8),.i,.i,.i,.bool,.bool,.i]
abbrev Yk:List Go.Ab.RC:=[.i,.own qX,.mat,.own .i,.mat,.own .i,.mat,.own zG,.own .i,.i,.bool]
abbrev Q1:List Go.Ab.RC:=[.link 1,.i,.fro jA,.i,.i,.i,.i,.fro qX,.fro (.sl .i),.fro .i,.fro (.sl .i),.fro .i,.fro (.sl .i),.fro zG,.fro .i,.i,.bool,.i,.bool]
abbrev Q2:List Go.Ab.RC:=[.link 2,.i,.i,.i,.bool]
abbrev QZ:List Go.Ab.XC:=[.link 1,.p .i,.p (.dat true jA),.p .i,.p .i,.p .i,.p .i,.p (.dat true qX),.p (.dat true (.sl .i)),.p (.dat true .i),.p (.dat true (.sl .i)),.p (.dat true .i),.p (.dat true (.sl .i)),.p (.dat true zG),.p (.dat true .i),.p .i,.p .bool,.p .i,.p .bool]
abbrev qNq:List Go.Ab.XC:=[.link 1,.p .i,.p .i,.p .i,.p .bool]
abbrev Q0:List Go.Ab.XC:=[.link 2,.p .i,.p .i,.p .i,.p .bool]
abbrev nk:List Go.Ab.XC:=[.p .i,.own (.int .u8),.p .i,.own (.int .u8),.p .i,.p .i,.p .i,.p .bool,.p .bool,.p .i]
abbrev yt:List Go.Ab.XC:=[.p .i,.p (.dat true jA),.p .i,.p .i,.p .i,.p .i,.p (.dat true qX),.p (.dat true (.sl .i)),.p (.dat true .i),.p (.dat true (.sl .i)),.p (.dat true .i),.p (.dat true (.sl .i)),.p (.dat true zG),.p (.dat true .i),.p .i,.p .bool,.p .i,.own yH]
abbrev yq:List Go.Ab.XC:=[.p .i,.p (.dat true jA),.p .i,.p .i,.p .i,.p .i,.p (.dat true qX),.p (.dat true (.sl .i)),.p (.dat true .i),.p (.dat true (.sl .i)),.p (.dat true .i),.p (.dat true (.sl .i)),.p (.dat true zG),.p (.dat true .i),.p .i,.p .bool,.p .i,.p (.nil)]
abbrev Ch:List Go.Ab.XC:=[.p .i,.p (.dat true jA),.p .i,.p .i,.p .i,.p .i,.p (.dat true qX),.p (.dat true (.sl .i)),.p (.dat true .i),.p (.dat true (.sl .i)),.p (.dat true .i),.p (.dat true (.sl .i)),.p (.dat true zG),.p (.dat true .i),.p .i,.p .bool,.p .i,.p (.nil),.p .i]
section
variable {A B C D E F G H I J K L M N O P Q R S U V W X Z a b Aa Ab Ac Ad Ae Af Ag Ah Ai Aj Ak Al Am An Ao Ap Aq Ar As At T Y:Type}
abbrev gO (x:A×B×C×D)(t:T):=(x.1,x.2.1,x.2.2.1,x.2.2.2,t)
abbrev jI (x:A×B×C×D×E)(t:T):=(x.1,gO x.2 t)
abbrev oe (x:A×B×C×D×E×F)(t:T):=(x.1,jI x.2 t)
abbrev ir (x:A×B×C×D×E×F×G)(t:T):=(x.1,oe x.2 t)
abbrev Hi (x:A×B×C×D×E×F×G×H)(t:T):=(x.1,ir x.2 t)
abbrev Qw (x:A×B×C×D×E×F×G×H×I)(t:T):=(x.1,Hi x.2 t)
abbrev kh (x:A×B×C×D×E×F×G×H×I×J)(t:T):=(x.1,Qw x.2 t)
abbrev wZ (x:A×B×C×D×E×F×G×H×I×J×K)(t:T):=(x.1,kh x.2 t)
abbrev Ho (x:A×B×C×D×E×F×G×H×I×J×K×L)(t:T):=(x.1,wZ x.2 t)
abbrev vOy (x:A×B×C×D×E×F×G×H×I×J×K×L×M)(t:T):=(x.1,Ho x.2 t)
abbrev qSb (x:A×B×C×D×E×F×G×H×I×J×K×L×M×N)(t:T):=(x.1,vOy x.2 t)
abbrev yEe (x:A×B×C×D×E×F×G×H×I×J×K×L×M×N×O)(t:T):=(x.1,qSb x.2 t)
abbrev vTq (x:A×B×C×D×E×F×G×H×I×J×K×L×M×N×O×P)(t:T):=(x.1,yEe x.2 t)
abbrev vS (x:A×B×C×D×E×F×G×H×I×J×K×L×M×N×O×P×Q)(t:T):=(x.1,vTq x.2 t)
abbrev jH (x:A×B×C×D×E×F×G×H×I×J×K×L×M×N×O×P×Q×R)(t:T):=(x.1,vS x.2 t)
abbrev yx (x:A×B×C×D×E×F×G×H×I×J×K×L×M×N×O×P×Q×R×S)(t:T):=(x.1,jH x.2 t)
abbrev fu (x:A×B×C×D×E):=(x.1,x.2.1,x.2.2.1,x.2.2.2.1)
abbrev yV (x:A×B×C×D×E×F):=(x.1,fu x.2)
abbrev np (x:A×B×C×D×E×F×G):=(x.1,yV x.2)
abbrev wG (x:A×B×C×D×E×F×G×H):=(x.1,np x.2)
abbrev nZ (x:A×B×C×D×E×F×G×H×I):=(x.1,wG x.2)
abbrev Qx (x:A×B×C×D×E×F×G×H×I×J):=(x.1,nZ x.2)
abbrev iq (x:A×B×C×D×E×F×G×H×I×J×K):=(x.1,Qx x.2)
abbrev qV (x:A×B×C×D×E×F×G×H×I×J×K×L):=(x.1,iq x.2)
abbrev Hq (x:A×B×C×D×E×F×G×H×I×J×K×L×M):=(x.1,qV x.2)
abbrev vK1 (x:A×B×C×D×E×F×G×H×I×J×K×L×M×N):=(x.1,Hq x.2)
abbrev yYx (x:A×B×C×D×E×F×G×H×I×J×K×L×M×N×O):=(x.1,vK1 x.2)
abbrev yMn (x:A×B×C×D×E×F×G×H×I×J×K×L×M×N×O×P):=(x.1,yYx x.2)
abbrev vXd (x:A×B×C×D×E×F×G×H×I×J×K×L×M×N×O×P×Q):=(x.1,yMn x.2)
abbrev lB (x:A×B×C×D×E×F×G×H×I×J×K×L×M×N×O×P×Q×R):=(x.1,vXd x.2)
abbrev jY (x:A×B×C×D×E×F×G×H×I×J×K×L×M×N×O×P×Q×R×S):=(x.1,lB x.2)
abbrev QJ (x:A×B×C×D×E×F×G×H×I×J×K×L×M×N×O×P×Q×R×S×U):=(x.1,jY x.2)
abbrev vL (x:A×B×C×D×E)(t:T):=(x.1,x.2.1,x.2.2.1,x.2.2.2.1,t)
abbrev tl (x:A×B×C×D×E×F)(t:T):=(x.1,vL x.2 t)
abbrev jK (x:A×B×C×D×E×F×G)(t:T):=(x.1,tl x.2 t)
abbrev ke (x:A×B×C×D×E×F×G×H)(t:T):=(x.1,jK x.2 t)
abbrev vMk (x:A×B×C×D×E×F×G×H×I)(t:T):=(x.1,ke x.2 t)
abbrev qPy (x:A×B×C×D×E×F×G×H×I×J)(t:T):=(x.1,vMk x.2 t)
abbrev vOf (x:A×B×C×D×E×F×G×H×I×J×K)(t:T):=(x.1,qPy x.2 t)
abbrev yw (x:A×B×C×D×E×F×G×H×I×J×K×L)(t:T):=(x.1,vOf x.2 t)
abbrev kl (x:A×B×C×D×E×F×G×H×I×J×K×L×M)(t:T):=(x.1,yw x.2 t)
abbrev vQb (x:A×B×C×D×E×F×G×H×I×J×K×L×M×N)(t:T):=(x.1,kl x.2 t)
abbrev qKg (x:A×B×C×D×E×F×G×H×I×J×K×L×M×N×O)(t:T):=(x.1,vQb x.2 t)
abbrev aa7 (x:A×B×C×D×E×F×G×H×I×J×K×L×M×N×O×P)(t:T):=(x.1,qKg x.2 t)
abbrev vGw (x:A×B×C×D×E×F×G×H×I×J×K×L×M×N×O×P×Q)(t:T):=(x.1,aa7 x.2 t)
abbrev yE (x:A×B×C×D×E×F×G×H×I×J×K×L×M×N×O×P×Q×R)(t:T):=(x.1,vGw x.2 t)
abbrev yEs (x:A×B×C×D×E×F×G×H×I×J×K×L×M×N×O×P×Q×R×S)(t:T):=(x.1,yE x.2 t)
abbrev vJ (f:A→B→C→D→Y)(x:A×B×C×D×E):Y:=f x.1 x.2.1 x.2.2.1 x.2.2.2.1
abbrev lC (f:A→B→C→D→E→Y)(x:A×B×C×D×E×F):Y:=vJ (f x.1) x.2
abbrev kk (f:A→B→C→D→E→F→Y)(x:A×B×C×D×E×F×G):Y:=lC (f x.1) x.2
abbrev mm (f:A→B→C→D→E→F→G→Y)(x:A×B×C×D×E×F×G×H):Y:=kk (f x.1) x.2
abbrev mj (f:A→B→C→D→E→F→G→H→Y)(x:A×B×C×D×E×F×G×H×I):Y:=mm (f x.1) x.2
abbrev QF (f:A→B→C→D→E→F→G→H→I→Y)(x:A×B×C×D×E×F×G×H×I×J):Y:=mj (f x.1) x.2
abbrev vHp (f:A→B→C→D→E→F→G→H→I→J→Y)(x:A×B×C×D×E×F×G×H×I×J×K):Y:=QF (f x.1) x.2
abbrev tg (f:A→B→C→D→E→F→G→H→I→J→K→Y)(x:A×B×C×D×E×F×G×H×I×J×K×L):Y:=vHp (f x.1) x.2
abbrev LK (f:A→B→C→D→E→F→G→H→I→J→K→L→Y)(x:A×B×C×D×E×F×G×H×I×J×K×L×M):Y:=tg (f x.1) x.2
abbrev qNp (f:A→B→C→D→E→F→G→H→I→J→K→L→M→Y)(x:A×B×C×D×E×F×G×H×I×J×K×L×M×N):Y:=LK (f x.1) x.2
abbrev Hj (f:A→B→C→D→E→F→G→H→I→J→K→L→M→N→Y)(x:A×B×C×D×E×F×G×H×I×J×K×L×M×N×O):Y:=qNp (f x.1) x.2
abbrev vLy (f:A→B→C→D→E→F→G→H→I→J→K→L→M→N→O→Y)(x:A×B×C×D×E×F×G×H×I×J×K×L×M×N×O×P):Y:=Hj (f x.1) x.2
abbrev yF6 (f:A→B→C→D→E→F→G→H→I→J→K→L→M→N→O→P→Y)(x:A×B×C×D×E×F×G×H×I×J×K×L×M×N×O×P×Q):Y:=vLy (f x.1) x.2
abbrev aa8 (f:A→B→C→D→E→F→G→H→I→J→K→L→M→N→O→P→Q→Y)(x:A×B×C×D×E×F×G×H×I×J×K×L×M×N×O×P×Q×R):Y:=yF6 (f x.1) x.2
abbrev vJ6 (f:A→B→C→D→E→F→G→H→I→J→K→L→M→N→O→P→Q→R→Y)(x:A×B×C×D×E×F×G×H×I×J×K×L×M×N×O×P×Q×R×S):Y:=aa8 (f x.1) x.2
abbrev vFv (f:A→B→C→D→E→F→G→H→I→J→K→L→M→N→O→P→Q→R→S→Y)(x:A×B×C×D×E×F×G×H×I×J×K×L×M×N×O×P×Q×R×S×U):Y:=vJ6 (f x.1) x.2
abbrev qXs (x:A×B×C×D×E×F×G×H×I×J×K×L×M×N×O×P×Q)(t:T):=gO x.2.2.2.2.2.2.2.2.2.2.2.2.2 t
abbrev BN (x:A×B×C×D×E×F)(t:T):=gO x.2.2 t
abbrev vYe (x:A×B×C×D×E×F×G)(t:T):=gO x.2.2.2 t
abbrev yD5 (x:A×B×C×D×E×F×G×H)(t:T):=gO x.2.2.2.2 t
abbrev vUm (x:A×B×C×D×E×F×G×H×I)(t:T):=gO x.2.2.2.2.2 t
abbrev vTw (x:A×B×C×D×E×F×G×H×I×J×K×L)(t:T):=gO x.2.2.2.2.2.2.2.2 t
abbrev yXf (x:A×B×C×D×E×F×G×H×I×J×K×L×M×N×O×P×Q)(t:T):=jI x.2.2.2.2.2.2.2.2.2.2.2.2 t
abbrev WQ (x:A×B×C×D×E×F×G×H×I×J×K×L×M×N×O×P×Q)(t:T):=oe x.2.2.2.2.2.2.2.2.2.2.2 t
abbrev yUa (x:A×B×C×D×E×F×G×H)(t:T):=oe x.2.2 t
abbrev qJy (x:A×B×C×D×E×F×G×H×I×J×K×L×M×N×O×P×Q)(t:T):=ir x.2.2.2.2.2.2.2.2.2.2 t
abbrev yIo (x:A×B×C×D×E×F×G×H)(t:T):=ir x.2 t
abbrev qPb (x:A×B×C×D×E×F×G×H×I×J×K)(t:T):=ir x.2.2.2.2 t
abbrev yQ3 (x:A×B×C×D×E×F×G×H×I×J×K×L×M×N)(t:T):=ir x.2.2.2.2.2.2.2 t
abbrev yY8 (x:A×B×C×D×E×F×G×H×I×J×K×L×M×N×O)(t:T):=ir x.2.2.2.2.2.2.2.2 t
abbrev vLd (x:A×B×C×D×E×F×G×H×I×J×K×L)(t:T):=wZ x.2 t
abbrev Hz (x:A×B×C×D×E×F×G×H×I×J×K×L×M×N×O×P×Q×R)(t:T):=wZ x.2.2.2.2.2.2.2 t
abbrev vI1 (x:A×B×C×D×E×F×G×H×I×J×K×L×M×N×O)(t:T):=qSb x.2 t
abbrev qQh (x:A×B×C×D×E×F×G×H×I×J×K×L×M×N×O×P×Q×R×S)(t:T):=jH x.2 t
abbrev vXl (x:A×B×C×D×E×F×G×H×I×J×K×L×M×N×O×P×Q×R×S×U):=fu x.2.2.2.2.2.2.2.2.2.2.2.2.2.2.2
abbrev QQ (x:A×B×C×D×E×F):=fu x.2
abbrev Q3 (x:A×B×C×D×E×F×G×H×I×J×K×L×M×N×O×P×Q×R×S×U×V×W×X×Z×a):=fu x.2.2.2.2.2.2.2.2.2.2.2.2.2.2.2.2.2.2.2.2
abbrev qKw (x:A×B×C×D×E×F×G×H×I×J×K×L×M×N×O×P×Q×R×S×U×V×W×X×Z×a×b):=fu x.2.2.2.2.2.2.2.2.2.2.2.2.2.2.2.2.2.2.2.2.2
abbrev qTu (x:A×B×C×D×E×F×G):=fu x.2.2
abbrev vVc (x:A×B×C×D×E×F×G×H×I×J×K×L×M×N×O×P×Q×R×S×U×V×W×X×Z×a×b×Aa×Ab×Ac×Ad×Ae×Af×Ag×Ah×Ai×Aj):=fu x.2.2.2.2.2.2.2.2.2.2.2.2.2.2.2.2.2.2.2.2.2.2.2.2.2.2.2.2.2.2.2
abbrev vWe (x:A×B×C×D×E×F×G×H×I×J×K×L×M×N×O×P×Q×R×S×U×V×W×X×Z×a×b×Aa×Ab×Ac×Ad×Ae×Af×Ag×Ah×Ai×Aj×Ak):=fu x.2.2.2.2.2.2.2.2.2.2.2.2.2.2.2.2.2.2.2.2.2.2.2.2.2.2.2.2.2.2.2.2
abbrev yZr (x:A×B×C×D×E×F×G×H×I×J×K×L×M×N×O×P×Q×R×S×U×V×W×X×Z×a):=np x.2.2.2.2.2.2.2.2.2.2.2.2.2.2.2.2.2.2
abbrev vKi (x:A×B×C×D×E×F×G×H×I×J×K×L×M×N×O×P×Q×R×S×U×V×W×X×Z×a×b):=np x.2.2.2.2.2.2.2.2.2.2.2.2.2.2.2.2.2.2.2
abbrev yZx (x:A×B×C×D×E×F×G×H×I×J×K×L×M×N×O×P×Q×R×S×U×V×W×X×Z×a×b×Aa):=np x.2.2.2.2.2.2.2.2.2.2.2.2.2.2.2.2.2.2.2.2
abbrev Hl (x:A×B×C×D×E×F×G×H×I×J×K×L×M×N×O×P×Q×R×S×U×V×W×X×Z×a×b):=wG x.2.2.2.2.2.2.2.2.2.2.2.2.2.2.2.2.2.2
abbrev vE1 (x:A×B×C×D×E×F×G×H×I×J×K×L×M×N×O×P×Q×R×S×U×V×W×X×Z×a×b×Aa):=wG x.2.2.2.2.2.2.2.2.2.2.2.2.2.2.2.2.2.2.2
abbrev Qu (x:A×B×C×D×E×F×G×H×I):=wG x.2
abbrev Y6 (x:A×B×C×D×E×F×G×H×I×J×K×L×M×N):=wG x.2.2.2.2.2.2
abbrev qKu (x:A×B×C×D×E×F×G×H×I×J×K×L×M×N×O):=wG x.2.2.2.2.2.2.2
abbrev YZ (x:A×B×C×D×E×F×G×H×I×J×K×L×M×N×O×P×Q×R×S×U×V×W×X×Z×a):=nZ x.2.2.2.2.2.2.2.2.2.2.2.2.2.2.2.2
abbrev aa6 (x:A×B×C×D×E×F×G×H×I×J):=nZ x.2
abbrev vJq (x:A×B×C×D×E×F×G×H×I×J×K×L×M×N):=nZ x.2.2.2.2.2
abbrev Hf (x:A×B×C×D×E×F×G×H×I×J×K×L):=iq x.2
abbrev Q4 (x:A×B×C×D×E×F×G×H×I×J×K×L×M×N×O×P×Q×R×S×U×V×W×X×Z×a×b×Aa×Ab×Ac×Ad×Ae×Af×Ag×Ah×Ai):=iq x.2.2.2.2.2.2.2.2.2.2.2.2.2.2.2.2.2.2.2.2.2.2.2.2
abbrev qKs (x:A×B×C×D×E×F×G×H×I×J×K×L×M×N×O×P×Q×R×S×U×V×W×X×Z×a×b×Aa×Ab×Ac×Ad×Ae×Af×Ag×Ah×Ai×Aj):=iq x.2.2.2.2.2.2.2.2.2.2.2.2.2.2.2.2.2.2.2.2.2.2.2.2.2
abbrev yWg (x:A×B×C×D×E×F×G×H×I×J×K×L×M):=iq x.2.2
abbrev aaU (x:A×B×C×D×E×F×G×H×I×J×K×L×M×N×O×P×Q×R×S×U×V×W×X×Z×a×b×Aa×Ab×Ac×Ad×Ae×Af×Ag×Ah×Ai×Aj×Ak×Al×Am×An×Ao×Ap×Aq×Ar×As×At):=iq x.2.2.2.2.2.2.2.2.2.2.2.2.2.2.2.2.2.2.2.2.2.2.2.2.2.2.2.2.2.2.2.2.2.2.2
abbrev yKh (x:A×B×C×D×E×F×G×H×I×J×K×L×M×N×O):=iq x.2.2.2.2
abbrev QR (x:A×B×C×D×E×F×G×H×I×J×K×L×M×N×O×P):=iq x.2.2.2.2.2
abbrev qKq (x:A×B×C×D×E×F×G×H×I×J×K×L×M×N×O×P×Q):=iq x.2.2.2.2.2.2
abbrev vCt (x:A×B×C×D×E×F×G×H×I×J×K×L×M×N×O×P×Q×R×S×U×V×W×X):=qV x.2.2.2.2.2.2.2.2.2.2.2
abbrev qq (x:A×B×C×D×E×F×G×H×I×J×K×L×M×N×O×P×Q):=qV x.2.2.2.2.2
abbrev vSh (x:A×B×C×D×E×F×G×H×I×J×K×L×M×N×O×P×Q×R×S):=qV x.2.2.2.2.2.2.2
abbrev vWc (x:A×B×C×D×E×F×G×H×I×J×K×L×M×N×O×P×Q×R×S×U×V×W×X×Z×a×b×Aa×Ab×Ac×Ad×Ae):=jY x.2.2.2.2.2.2.2.2.2.2.2.2
abbrev vW7 (x:A×B×C×D×E×F×G×H×I×J×K×L×M×N×O×P×Q×R×S×U×V×W×X×Z×a×b×Aa×Ab×Ac×Ad×Ae×Af):=jY x.2.2.2.2.2.2.2.2.2.2.2.2.2
abbrev kj (x:A×B×C×D×E×F×G×H×I×J×K×L×M×N×O×P×Q×R×S×U):=jY x.2
abbrev qJg (x:A×B×C×D×E×F×G×H×I×J×K×L×M×N×O×P×Q×R×S×U×V):=jY x.2.2
abbrev Cl (x:A×B×C×D×E×F×G×H×I×J×K×L×M×N×O×P×Q×R×S×U×V):=QJ x.2
abbrev Ht (x:A×B×C×D×E×F×G×H×I×J×K×L×M×N×O)(t:T):=vL x.2.2.2.2.2.2.2.2.2.2 t
abbrev Rp (x:A×B×C×D×E×F×G×H×I×J×K×L×M×N×O×P×Q×R)(t:T):=vL x.2.2.2.2.2.2.2.2.2.2.2.2.2 t
abbrev iw (x:A×B×C×D×E×F)(t:T):=vL x.2 t
abbrev Qr (x:A×B×C×D×E×F×G)(t:T):=vL x.2.2 t
abbrev vUx (x:A×B×C×D×E×F×G×H×I×J)(t:T):=vL x.2.2.2.2.2 t
abbrev vBz (x:A×B×C×D×E×F×G×H×I×J×K×L×M×N×O×P×Q×R)(t:T):=tl x.2.2.2.2.2.2.2.2.2.2.2.2 t
abbrev yTg (x:A×B×C×D×E×F×G×H×I×J×K×L×M×N×O×P×Q×R)(t:T):=jK x.2.2.2.2.2.2.2.2.2.2.2 t
abbrev qK8 (x:A×B×C×D×E×F×G×H×I×J×K×L×M×N×O×P×Q×R)(t:T):=ke x.2.2.2.2.2.2.2.2.2.2 t
abbrev vOr (x:A×B×C×D×E×F×G×H×I×J×K×L×M×N×O×P×Q×R×S×U)(t:T):=ke x.2.2.2.2.2.2.2.2.2.2.2.2 t
abbrev qSw (x:A×B×C×D×E×F×G×H×I)(t:T):=ke x.2 t
abbrev vPk (x:A×B×C×D×E×F×G×H×I×J×K×L×M)(t:T):=ke x.2.2.2.2.2 t
abbrev vQy (x:A×B×C×D×E×F×G×H×I×J×K×L×M×N×O×P×Q)(t:T):=yw x.2.2.2.2.2 t
abbrev aah (x:A×B×C×D×E×F×G×H×I×J×K×L×M×N×O×P×Q×R×S×U×V)(t:T):=qKg x.2.2.2.2.2.2 t
abbrev GX (x:A×B×C×D×E×F×G×H×I×J×K×L×M×N×O×P×Q×R×S)(t:T):=yE x.2 t
end
def P8 (k:Nat)(a0:Int):Option wE:=
 bif decide (a0<0) then none
 else bif decide (a0>200000) then none
 else some (a0,[],0,[],0,0,0,false,false,0)
def td (k:Nat)(a0 a1 a2:Int):Option Bool:=
 bif decide (a0≥a1) then some (decide (a0≤a2))
 else some false
def vBl (k:Nat)(a0:vX):Option Bool:=
 (td k a0.1 0 1048576).bind fun x0=>
 bif !x0 then some true
 else(td k a0.2 0 10000).bind fun x1=>
 some (!x1)
abbrev XS:Type:=List vX→Int→Int→Option (Unit⊕Int)
def yFt (k:Nat)(rec:XS)(s0:List vX)(s7 s8:Int):Option (Unit⊕Int):=
 bif decide (s8 < s7) then (bif zB s8 s0.length then ((vBl k (s0.getD s8.toNat (0,0))).bind fun x0=>
   bif x0 then some (.inr s8)
   else rec s0 s7 (zA (s8+1)))
  else none)
 else some (.inl ())
def XU (k:Nat):Nat→XS:=yR (fun _ _ _=>none) (yFt k)
def yB3 (k:Nat)(a0:List vX):Option Int:=
 (XU k k a0 (a0.length:Int) 0).bind fun z=>
 match z with
 |.inl z1=>some (-1)
 |.inr z2=>some z2
def yWy (k:Nat)(a0:List vX):Option Bool:=
 (yB3 k a0).bind fun x0=>
 some (decide (x0≥0))
def qp (k:Nat)(a0:vQ):Option Bool:=
 (td k a0.1 1 6).bind fun x0=>
 bif x0 then ((td k a0.2.2.2.1 1 1048576).bind fun x1=>
  bif x1 then ((td k a0.2.2.1 0 a0.2.2.2.1).bind fun x2=>
   bif x2 then ((td k a0.2.2.2.2 1 1048576).bind fun x3=>
    bif decide ((a0.2.1.length : Int) ≤ 3) then (bif x3 then ((yWy k a0.2.1).bind fun x4=>
      some (!x4))
     else some false)
    else some false)
   else bif decide ((a0.2.1.length:Int)≤3) then some false
   else some false)
  else bif decide ((a0.2.1.length:Int)≤3) then some false
  else some false)
 else(td k a0.2.2.2.1 1 1048576).bind fun x5=>
 bif x5 then ((td k a0.2.2.1 0 a0.2.2.2.1).bind fun x6=>
  bif x6 then ((td k a0.2.2.2.2 1 1048576).bind fun x7=>
   some false)
  else some false)
 else some false
def Qe (k:Nat)(a0:Int):Option Bool:=
 bif decide (a0≥0) then some (decide (a0<2))
 else some false
def B9 (k:Nat)(a0:AC):Option AC:=
 bif zQ (0+a0.length) 1 then some a0
 else none
def Xw (k:Nat)(a0:wE)(a1:Int):Option AC:=
 (Qe k a1).bind fun x0=>
 bif !x0 then some []
 else bif decide (a1 = 0) then ((B9 k a0.2.1).bind fun x1=>
  some x1)
 else bif decide (a1 = 1) then ((B9 k a0.2.2.2.1).bind fun x2=>
  some x2)
 else none
abbrev X0:Type:=AC×EQ
abbrev XY:Type:=AC→EQ→Option X0
def DZ (k:Nat)(rec:XY)(s0:AC)(r0:EQ):Option X0:=
 bif decide ((s0.length : Int) ≥ 2) then (bif zB 0 s0.length then (bif zB 1 s0.length then (bif decide ((wN .i64 (shl .i64 (zA ((s0.getD 0 0))) 8) (zA ((s0.getD 1 0))))>60000) then some (s0,r0)
    else bif decide ((wN .i64 (shl .i64 (zA ((s0.getD 0 0))) 8) (zA ((s0.getD 1 0))))>(zA ((s0.length:Int)-2))) then some (s0,r0)
    else bif (decide (2 ≤ (zA (2 + (wN .i64 (shl .i64 (zA ((s0.getD 0 0))) 8) (zA ((s0.getD 1 0)))))))) && (decide ((zA (2 + (wN .i64 (shl .i64 (zA ((s0.getD 0 0))) 8) (zA ((s0.getD 1 0)))))) ≤ (s0.length : Int))) then (bif zQ (0 + (qS s0 2 ((zA (2 + (wN .i64 (shl .i64 (zA ((s0.getD 0 0))) 8) (zA ((s0.getD 1 0)))))).toNat - 2)).length) 1 then (let y0:AC:=(qS s0 2 ((zA (2+(wN .i64 (shl .i64 (zA ((s0.getD 0 0))) 8) (zA ((s0.getD 1 0)))))).toNat-2))
      bif zQ (r0.length + 1) 24 then (bif (decide (0≤(zA (2+(wN .i64 (shl .i64 (zA ((s0.getD 0 0))) 8) (zA ((s0.getD 1 0))))))))&&(decide ((zA (2+(wN .i64 (shl .i64 (zA ((s0.getD 0 0))) 8) (zA ((s0.getD 1 0))))))≤(s0.length:Int))) then(rec (List.drop (zA (2+(wN .i64 (shl .i64 (zA ((s0.getD 0 0))) 8) (zA ((s0.getD 1 0)))))).toNat s0) (r0++[y0]))
       else none)
      else none)
     else none)
    else none)
   else none)
  else none)
 else some (s0,r0)
def DY (k:Nat):Nat→XY:=yR (fun _ _=>none) (DZ k)
def NI (k:Nat)(a0:AC):Option (EQ×Int):=
 (DY k k a0 []).bind fun z=>
 some (z.2,(z.1.length:Int))
abbrev X4:Type:=AC×Int×AC
abbrev X2:Type:=AC→Int→AC→Int→Int→AC→Option X4
def NA (k:Nat)(rec:X2)(s0:AC)(s5:Int)(bX:AC)(bm la:Int)(r0:AC):Option X4:=
 bif decide (la < bm) then (bif zB la bX.length then(rec s0 (wN .u64 (shl .u64 s5 8) (IntKind.wrap .u64 ((bX.getD la.toNat 0)))) bX bm (zA (la+1)) r0)
  else none)
 else some (s0,s5,r0)
def DM (k:Nat):Nat→X2:=yR (fun _ _ _ _ _ _=>none) (NA k)
def DO (k:Nat)(rec:AC→AC→Option AC)(s0 r0:AC):Option AC:=
 bif decide ((s0.length : Int) > 0) then (bif decide (8 ≤ (s0.length : Int)) then ((DM k k s0 0 (List.take 8 s0) ((List.take 8 s0).length:Int) 0 r0).bind fun z=>
   bif zQ (z.2.2.length + 1) 8 then (bif decide (8≤(z.1.length:Int)) then(rec (List.drop 8 z.1) (z.2.2++[(zA (z.2.1))]))
    else none)
   else none)
  else none)
 else some r0
def DN (k:Nat):Nat→AC→AC→Option AC:=yR (fun _ _=>none) (DO k)
def sF (k:Nat)(a0:AC):Option (AC×Int):=
 bif !(decide ((Int.tmod (a0.length:Int) 8)=0)) then some ([],2)
 else(DN k k a0 []).bind fun z1=>
 some (z1,0)
def yk (k:Nat)(a0:wE)(a1:Int):Option (Int×AC×EQ):=
 (Xw k a0 a1).bind fun x0=>
 (NI k x0).bind fun x1=>
 bif decide ((x1.1.length:Int)=0) then some (0,[],[])
 else bif zB 0 x1.1.length then (bif decide (((x1.1.getD 0 []).length:Int)<8) then some (0,[],[])
  else bif zB 0 x1.1.length then (bif decide (8 ≤ ((x1.1.getD 0 []).length : Int)) then ((sF k (List.take 8 (x1.1.getD 0 []))).bind fun x2=>
    bif zB 0 x2.1.length then (bif decide ((x2.1.getD 0 0)<1) then some (0,[],[])
     else bif zB 0 x2.1.length then (bif decide ((x2.1.getD 0 0)>4611686018427387904) then some (0,[],[])
      else bif zB 0 x2.1.length then (bif zB 0 x1.1.length then (bif decide (8 ≤ ((x1.1.getD 0 []).length : Int)) then (bif decide (1≤(x1.1.length:Int)) then some ((x2.1.getD 0 0),(List.drop 8 (x1.1.getD 0 [])),(qS x1.1 1 (x1.1.length-1)))
         else none)
        else none)
       else none)
      else none)
     else none)
    else none)
   else none)
  else none)
 else none
def Ln (k:Nat)(a0:wE):Option (Int×Int×AC×EQ×Bool):=
 (yk k a0 0).bind fun x0=>
 bif decide (x0.1 > 0) then ((yk k a0 1).bind fun x1=>
  bif decide (x1.1>x0.1) then some (x1.1,1,x1.2.1,x1.2.2,true)
  else some (x0.1,0,x0.2.1,x0.2.2,true))
 else(yk k a0 1).bind fun x2=>
 bif decide (x2.1>0) then some (x2.1,1,x2.2.1,x2.2.2,true)
 else some (0,0,[],[],false)
def JC (k:Nat)(a0:Int):Option Bool:=
 bif decide (a0≥0) then some (decide (a0≤6))
 else some false
abbrev X9:Type:=Int→Int→Int→AC→Option AC
def EG (k:Nat)(rec:X9)(s1 bA bE:Int)(r0:AC):Option AC:=
 bif decide (bE < bA) then (bif zB bE r0.length then(rec s1 bA (zA (bE+1)) (r0.set bE.toNat s1))
  else none)
 else some r0
def JD (k:Nat):Nat→X9
 |0,_,_,_,_=>none
 |n+1,s1,bA,bE,r0=>EG k (JD k n) s1 bA bE r0
def Bh (k:Nat)(a0 a1:Int):Option AC:=
 (JC k a0).bind fun x0=>
 bif !x0 then some []
 else bif sj a0 a0 8 then ((JD k k a1 ((List.replicate a0.toNat (0:Int)).length:Int) 0 (List.replicate a0.toNat (0:Int))).bind fun z=>
  some z)
 else none
abbrev Yb:Type:=Int→Int→Int→Int→EQ→Option EQ
def EI (k:Nat)(rec:Yb)(s0 s1 bA bE:Int)(m0:EQ):Option EQ:=
 bif decide (bE < bA) then ((Bh k s0 s1).bind fun x1=>
  bif zB bE m0.length then(rec s0 s1 bA (zA (bE+1)) (m0.set bE.toNat x1))
  else none)
 else some m0
def JE (k:Nat):Nat→Yb
 |0,_,_,_,_,_=>none
 |n+1,s0,s1,bA,bE,m0=>EI k (JE k n) s0 s1 bA bE m0
def EH (k:Nat)(a0 a1:Int):Option EQ:=
 (JC k a0).bind fun x0=>
 bif !x0 then some []
 else bif sj a0 a0 24 then ((JE k k a0 a1 ((List.replicate a0.toNat ([]:AC)).length:Int) 0 (List.replicate a0.toNat ([]:AC))).bind fun z=>
  some z)
 else none
abbrev Ye:Type:=Int×vQ×vM×vM×(List zI)×EQ×AC×EQ×AC
abbrev Yd:Type:=Int→List vX→Int→Int→vQ→vM→vM→List zI→EQ→AC→EQ→AC→Option Ye
def yOo (k:Nat)(rec:Yd)(s3:Int)(cL:List vX)(s21 Rs:Int)(b0:vQ)(b1 b2:vM)(r3:List zI)(m4:EQ)(r5:AC)(m6:EQ)(r7:AC):Option Ye:=
 bif decide (Rs < s21) then (bif zB Rs cL.length then (bif zQ (r7.length+1) 8 then(rec s3 cL s21 (zA (Rs+1)) b0 b1 b2 r3 m4 r5 m6 (r7++[(cL.getD Rs.toNat (0,0)).1]))
   else none)
  else none)
 else some (s3,b0,b1,b2,r3,m4,r5,m6,r7)
def Yf (k:Nat):Nat→Yd:=yR (fun _ _ _ _ _ _ _ _ _ _ _ _=>none) (yOo k)
abbrev Yh:Type:=vM×vM×(List zI)×EQ×AC×EQ×AC×EQ
abbrev Yg:Type:=Int→Int→vQ→vM→vM→List zI→EQ→AC→EQ→AC→EQ→Option Yh
def vAq (k:Nat)(rec:Yg)(Cp tp:Int)(b0:vQ)(b1 b2:vM)(r3:List zI)(m4:EQ)(r5:AC)(m6:EQ)(r7:AC)(m8:EQ):Option Yh:=
 bif decide (tp < Cp) then (bif sj (b0.2.1.length : Int) (b0.2.1.length : Int) 8 then (bif zQ (m8.length+1) 24 then(rec Cp (zA (tp+1)) b0 b1 b2 r3 m4 r5 m6 r7 (m8++[(List.replicate b0.2.1.length (0:Int))]))
   else none)
  else none)
 else some (b1,b2,r3,m4,r5,m6,r7,m8)
def Yi (k:Nat):Nat→Yg:=yR (fun _ _ _ _ _ _ _ _ _ _ _=>none) (vAq k)
def qn (k:Nat)(a0:vQ):Option vH:=
 bif sj a0.1 a0.1 24 then ((EH k a0.1 (-1)).bind fun x0=>
  (Bh k a0.1 (-1)).bind fun x1=>
  (EH k a0.1 0).bind fun x2=>
  (Yf k k a0.1 a0.2.1 (a0.2.1.length:Int) 0 a0 (0,0,false) (0,0,false) (List.replicate a0.1.toNat ((0,0,0):Int×Int×Int)) x0 x1 x2 []).bind fun z=>
  (Yi k k z.1 0 z.2.1 z.2.2.1 z.2.2.2.1 z.2.2.2.2.1 z.2.2.2.2.2.1 z.2.2.2.2.2.2.1 z.2.2.2.2.2.2.2.1 z.2.2.2.2.2.2.2.2 []).bind fun z1=>
  some (z1.2.1.1,(yUa z1 ([],[],z1.2.1.2))))
 else none
def NG (k:Nat)(a0:Bool):Option Int:=
 bif a0 then some 1
 else some 0
abbrev Yo:Type:=AC×Int×Int×AC
abbrev Ym:Type:=Int→Int→AC→Int→Int→AC→Option Yo
def ND (k:Nat)(rec:Ym)(s5 s6:Int)(aR:AC)(dh bA:Int)(r0:AC):Option Yo:=
 bif decide (s6 ≥ 0) then (bif !(decide ((zA (8 * s6)) < 0)) then (bif zQ (r0.length+1) 1 then(rec s5 (zA (s6-1)) aR dh bA (r0++[(IntKind.wrap .u8 ((shr .i64 s5 (zA (8*s6)))))]))
   else none)
  else none)
 else some (aR,dh,bA,r0)
def xm (k:Nat):Nat→Ym:=yR (fun _ _ _ _ _ _=>none) (ND k)
abbrev Yp:Type:=AC→Int→Int→AC→Option AC
def DR (k:Nat)(rec:Yp)(aR:AC)(dh bA:Int)(r0:AC):Option AC:=
 bif decide (bA < dh) then (bif zB bA aR.length then ((xm k k (aR.getD bA.toNat 0) 7 aR dh bA r0).bind fun z=>
   rec z.1 z.2.1 (zA (z.2.2.1+1)) z.2.2.2)
  else none)
 else some r0
def A7 (k:Nat):Nat→Yp:=yR (fun _ _ _ _=>none) (DR k)
def xn (k:Nat)(a0:AC):Option AC:=
 bif sj 0 (zA (8 * (a0.length : Int))) 1 then ((A7 k k a0 (a0.length:Int) 0 []).bind fun z1=>
  some z1)
 else none
def NF (k:Nat)(a0:AC):Option AC:=
 (xn k [(a0.length:Int)]).bind fun x0=>
 (xn k a0).bind fun x1=>
 bif zQ (x0.length+x1.length) 1 then some (x0++x1)
 else none
abbrev Ys:Type:=EQ→Int→Int→AC→Option AC
def DU (k:Nat)(rec:Ys)(s6:EQ)(s7 s8:Int)(r0:AC):Option AC:=
 bif decide (s8 < s7) then (bif zB s8 s6.length then ((NF k (s6.getD s8.toNat [])).bind fun x0=>
   bif zQ (r0.length+x0.length) 1 then(rec s6 s7 (zA (s8+1)) (r0++x0))
   else none)
  else none)
 else some r0
def DT (k:Nat):Nat→Ys:=yR (fun _ _ _ _=>none) (DU k)
def I5 (k:Nat)(a0:EQ):Option AC:=
 (DT k k a0 (a0.length:Int) 0 []).bind fun z=>
 some z
abbrev Yx:Type:=vH×LY×EQ
abbrev Yw:Type:=List zI→Int→Int→vH→LY→EQ→Option Yx
def DV (k:Nat)(rec:Yw)(lH:List zI)(gx jc:Int)(b0:vH)(b1:LY)(r2:EQ):Option Yx:=
 bif decide (jc < gx) then (bif zB jc lH.length then (bif zQ (r2.length + 1) 24 then (let y0:EQ:=(r2++[[(lH.getD jc.toNat (0,0,0)).1,(lH.getD jc.toNat (0,0,0)).2.1,(lH.getD jc.toNat (0,0,0)).2.2]])
    rec lH gx (zA (jc+1)) b0 b1 y0)
   else none)
  else none)
 else some (b0,b1,r2)
def A8 (k:Nat):Nat→Yw:=yR (fun _ _ _ _ _ _=>none) (DV k)
abbrev Yz:Type:=vH×EQ
abbrev Yy:Type:=List zC→Int→Int→vH→EQ→Option Yz
def DW (k:Nat)(rec:Yy)(vk:List zC)(s80 tq:Int)(b0:vH)(r1:EQ):Option Yz:=
 bif decide (tq < s80) then (bif zB tq vk.length then (bif zQ (r1.length + 1) 24 then (let y3:EQ:=(r1++[[(vk.getD tq.toNat (0,0,0,0,0,0,0)).1,(vk.getD tq.toNat (0,0,0,0,0,0,0)).2.1,(vk.getD tq.toNat (0,0,0,0,0,0,0)).2.2.1,(vk.getD tq.toNat (0,0,0,0,0,0,0)).2.2.2.1,(vk.getD tq.toNat (0,0,0,0,0,0,0)).2.2.2.2.1,(vk.getD tq.toNat (0,0,0,0,0,0,0)).2.2.2.2.2.1,(vk.getD tq.toNat (0,0,0,0,0,0,0)).2.2.2.2.2.2]])
    rec vk s80 (zA (tq+1)) b0 y3)
   else none)
  else none)
 else some (b0,r1)
def A9 (k:Nat):Nat→Yy:=yR (fun _ _ _ _ _=>none) (DW k)
def mb (k:Nat)(a0:vH):Option AC:=
 (NG k a0.2.2.2.2.2.2.2.2.2.2).bind fun x0=>
 (A8 k k a0.2.1 (a0.2.1.length:Int) 0 a0 (QQ a0) [[a0.1,a0.2.2.2.2.2.2.2.2.2.1,x0,(a0.2.1.length:Int),(a0.2.2.1.length:Int),(a0.2.2.2.1.length:Int),(a0.2.2.2.2.1.length:Int),(a0.2.2.2.2.2.2.1.length:Int),(a0.2.2.2.2.2.2.2.1.length:Int)]]).bind fun z=>
 bif zQ (z.2.2.length + z.2.1.2.1.length) 24 then (bif zQ ((z.2.2 ++ z.2.1.2.1).length + 1) 24 then (let y1:EQ:=((z.2.2++z.2.1.2.1)++[z.2.1.2.2.1])
   bif zQ (y1.length + z.2.1.2.2.2.length) 24 then (bif zQ ((y1 ++ z.2.1.2.2.2).length + 1) 24 then (let y2:EQ:=((y1++z.2.1.2.2.2)++[z.1.2.2.2.2.2.1])
     bif zQ (y2.length + z.1.2.2.2.2.2.2.1.length) 24 then ((A9 k k z.1.2.2.2.2.2.2.2.1 (z.1.2.2.2.2.2.2.2.1.length:Int) 0 z.1 (y2++z.1.2.2.2.2.2.2.1)).bind fun z1=>
      bif zQ (z1.2.length + 1) 24 then (let y4:EQ:=(z1.2++[z1.1.2.2.2.2.2.2.2.2.1])
       (I5 k y4).bind fun x1=>
       some x1)
      else none)
     else none)
    else none)
   else none)
  else none)
 else none
def I3 (k:Nat)(a0:AC):Option lF:=
 bif decide ((a0.length:Int)>60000) then some ([],false)
 else bif zQ (2+a0.length) 1 then some (([(IntKind.wrap .u8 ((shr .i64 (a0.length:Int) 8))),(IntKind.wrap .u8 ((a0.length:Int)))]++a0),true)
 else none
def Xu (k:Nat)(a0:wE):Option Int:=
 some a0.1
def Qn (k:Nat)(a0:wE):Option Bool:=
 some a0.2.2.2.2.2.2.2.2.1
def kV (k:Nat)(a0:wE):Option (Bool×wE):=
 bif !a0.2.2.2.2.2.2.2.1 then some (false,(qPy a0 (zA (a0.2.2.2.2.2.2.2.2.2+1))))
 else bif decide (a0.2.2.2.2.2.2.2.2.2<a0.2.2.2.2.2.1) then some (false,(qPy a0 (zA (a0.2.2.2.2.2.2.2.2.2+1))))
 else bif (decide (0 ≤ (zA (a0.2.2.1 + (vZ true (vZ false a0.2.2.2.2.2.2.1 0) (zA ((a0.2.1.length : Int) - a0.2.2.1))))))) && (decide ((zA (a0.2.2.1 + (vZ true (vZ false a0.2.2.2.2.2.2.1 0) (zA ((a0.2.1.length : Int) - a0.2.2.1))))) ≤ (a0.2.1.length : Int))) then (bif (decide (0≤(zA (a0.2.2.2.2.1+(vZ true (zA ((vZ false a0.2.2.2.2.2.2.1 0)-(vZ true (vZ false a0.2.2.2.2.2.2.1 0) (zA ((a0.2.1.length:Int)-a0.2.2.1))))) (zA ((a0.2.2.2.1.length:Int)-a0.2.2.2.2.1)))))))&&(decide ((zA (a0.2.2.2.2.1+(vZ true (zA ((vZ false a0.2.2.2.2.2.2.1 0)-(vZ true (vZ false a0.2.2.2.2.2.2.1 0) (zA ((a0.2.1.length:Int)-a0.2.2.1))))) (zA ((a0.2.2.2.1.length:Int)-a0.2.2.2.2.1)))))≤(a0.2.2.2.1.length:Int))) then some (true,a0.1,(List.take ((zA (a0.2.2.1+(vZ true (vZ false a0.2.2.2.2.2.2.1 0) (zA ((a0.2.1.length:Int)-a0.2.2.1))))).toNat-0) a0.2.1),(zA (a0.2.2.1+(vZ true (vZ false a0.2.2.2.2.2.2.1 0) (zA ((a0.2.1.length:Int)-a0.2.2.1))))),(List.take ((zA (a0.2.2.2.2.1+(vZ true (zA ((vZ false a0.2.2.2.2.2.2.1 0)-(vZ true (vZ false a0.2.2.2.2.2.2.1 0) (zA ((a0.2.1.length:Int)-a0.2.2.1))))) (zA ((a0.2.2.2.1.length:Int)-a0.2.2.2.2.1))))).toNat-0) a0.2.2.2.1),(zA (a0.2.2.2.2.1+(vZ true (zA ((vZ false a0.2.2.2.2.2.2.1 0)-(vZ true (vZ false a0.2.2.2.2.2.2.1 0) (zA ((a0.2.1.length:Int)-a0.2.2.1))))) (zA ((a0.2.2.2.1.length:Int)-a0.2.2.2.2.1))))),a0.2.2.2.2.2.1,a0.2.2.2.2.2.2.1,a0.2.2.2.2.2.2.2.1,true,a0.2.2.2.2.2.2.2.2.2)
  else none)
 else none
def P1 (k:Nat)(a0:wE)(a1:Int):Option (Int×wE):=
 (Qn k a0).bind fun x0=>
 bif x0 then some (11,a0)
 else(Qe k a1).bind fun x1=>
 bif !x1 then some (1,a0)
 else(kV k a0).bind fun x2=>
 bif x2.1 then some (11,x2.2)
 else bif decide (a1 = 0) then (bif decide (a1=0) then some (0,x2.2.1,[],0,x2.2.2.2.2)
  else bif decide (a1=1) then some (0,x2.2.1,[],x2.2.2.2.1,x2.2.2.2.2.1,0,x2.2.2.2.2.2.2)
  else none)
 else bif decide (a1 = 1) then (bif decide (a1=0) then some (0,x2.2.1,x2.2.2.1,0,[],x2.2.2.2.2.2)
  else bif decide (a1=1) then some (0,x2.2.1,x2.2.2.1,x2.2.2.2.1,[],0,x2.2.2.2.2.2.2)
  else none)
 else none
def yj (k:Nat)(a0:wE)(a1:Int)(a2:AC):Option (Int×wE):=
 (Qn k a0).bind fun x0=>
 bif x0 then some (11,a0)
 else(Qe k a1).bind fun x1=>
 bif !x1 then some (1,a0)
 else bif decide (a1 = 0) then (bif decide ((a2.length:Int)>(zA (a0.1-(a0.2.1.length:Int)))) then some (3,a0)
  else(kV k a0).bind fun x2=>
  bif x2.1 then some (11,x2.2)
  else bif decide (a1 = 0) then (bif zQ (x2.2.2.1.length+a2.length) 1 then some (0,x2.2.1,(x2.2.2.1++a2),x2.2.2.2)
   else none)
  else bif decide (a1 = 1) then (bif zQ (x2.2.2.2.2.1.length+a2.length) 1 then some (0,x2.2.1,x2.2.2.1,x2.2.2.2.1,(x2.2.2.2.2.1++a2),x2.2.2.2.2.2)
   else none)
  else none)
 else bif decide (a1 = 1) then (bif decide ((a2.length:Int)>(zA (a0.1-(a0.2.2.2.1.length:Int)))) then some (3,a0)
  else(kV k a0).bind fun x3=>
  bif x3.1 then some (11,x3.2)
  else bif decide (a1 = 0) then (bif zQ (x3.2.2.1.length+a2.length) 1 then some (0,x3.2.1,(x3.2.2.1++a2),x3.2.2.2)
   else none)
  else bif decide (a1 = 1) then (bif zQ (x3.2.2.2.2.1.length+a2.length) 1 then some (0,x3.2.1,x3.2.2.1,x3.2.2.2.1,(x3.2.2.2.2.1++a2),x3.2.2.2.2.2)
   else none)
  else none)
 else none
def u9 (k:Nat)(a0:wE):Option (Int×wE):=
 (Qn k a0).bind fun x0=>
 bif x0 then some (11,a0)
 else(kV k a0).bind fun x1=>
 bif x1.1 then some (11,x1.2)
 else some (0,x1.2.1,x1.2.2.1,(x1.2.2.1.length:Int),x1.2.2.2.2.1,(x1.2.2.2.2.1.length:Int),x1.2.2.2.2.2.2)
def Lj (k:Nat)(a0:wE)(a1 a2:Int)(a3:AC):Option (Int×wE):=
 (xn k [a2]).bind fun x0=>
 bif zQ (x0.length + a3.length) 1 then ((I3 k (x0++a3)).bind fun x1=>
  bif !x1.2 then some (10,a0)
  else bif decide (a2>4611686018427387904) then some (10,a0)
  else(Xu k a0).bind fun x2=>
  bif decide ((x1.1.length:Int)>x2) then some (10,a0)
  else(P1 k a0 a1).bind fun x3=>
  bif !(decide (x3.1=0)) then some (x3.1,x3.2)
  else(yj k x3.2 a1 x1.1).bind fun x4=>
  bif !(decide (x4.1=0)) then some (x4.1,x4.2)
  else(u9 k x4.2).bind fun x5=>
  some (x5.1,x5.2))
 else none
def P2 (k:Nat)(a0:wE)(a1:AC):Option ((AC×EQ×Int×wE×gv)⊕(AC×EQ×Int×wE)):=
 (Ln k a0).bind fun x0=>
 bif x0.2.2.2.2 then some (.inl (x0.2.2.1,x0.2.2.2.1,0,a0,x0.2.1,x0.1,(x0.2.2.2.1.length:Int),true))
 else(Lj k a0 0 1 a1).bind fun x1=>
 bif !(decide (x1.1=0)) then some (.inr ([],[],x1.1,x1.2))
 else bif zQ (0+a1.length) 1 then some (.inl (a1,[],0,x1.2,0,1,0,false))
 else none
def NH (k:Nat)(a0:AC):Option (AC×AC×Bool):=
 bif decide ((a0.length:Int)<8) then some ([],[],false)
 else bif decide (8 ≤ (a0.length : Int)) then ((sF k (List.take 8 a0)).bind fun x0=>
  bif decide (8 ≤ (a0.length : Int)) then (bif zB 0 x0.1.length then (bif decide ((x0.1.getD 0 0)<0) then some ([],[],false)
    else bif zB 0 x0.1.length then (bif decide ((x0.1.getD 0 0)>(zA (Int.tdiv ((List.drop 8 a0).length:Int) 8))) then some ([],[],false)
     else bif zB 0 x0.1.length then (bif (decide (0 ≤ (zA (8 * (x0.1.getD 0 0))))) && (decide ((zA (8 * (x0.1.getD 0 0))) ≤ ((List.drop 8 a0).length : Int))) then ((sF k (List.take (zA (8*(x0.1.getD 0 0))).toNat (List.drop 8 a0))).bind fun x1=>
       bif (decide (0≤(zA (8*(x0.1.getD 0 0)))))&&(decide ((zA (8*(x0.1.getD 0 0)))≤((List.drop 8 a0).length:Int))) then some (x1.1,(List.drop (zA (8*(x0.1.getD 0 0))).toNat (List.drop 8 a0)),true)
       else none)
      else none)
     else none)
    else none)
   else none)
  else none)
 else none
def xR (k:Nat)(a0:lF):Option (AC×lF):=
 (NH k a0.1).bind fun x0=>
 bif a0.2 then some (x0.1,x0.2.1,true)
 else some (x0.1,x0.2.1,(!x0.2.2))
def F2 (k:Nat)(a0:lF)(a1:Int):Option (AC×lF):=
 (xR k a0).bind fun x0=>
 bif !(decide ((x0.1.length : Int) = a1)) then (bif sj a1 a1 8 then some ((List.replicate a1.toNat (0:Int)),x0.2.1,true)
  else none)
 else some (x0.1,x0.2)
abbrev YJ:Type:=lF×EQ
abbrev YH:Type:=Int→lF→EQ→Option YJ
def Pc (k:Nat)(rec:YH)(s1:Int)(b0:lF)(r1:EQ):Option YJ:=
 bif decide (s1 > 0) then (bif !b0.2 then ((xR k b0).bind fun x0=>
   bif zQ (r1.length+1) 24 then(rec (zA (s1-1)) x0.2 (r1++[x0.1]))
   else none)
  else some (b0,r1))
 else some (b0,r1)
def Kx (k:Nat):Nat→YH:=yR (fun _ _ _=>none) (Pc k)
def F3 (k:Nat)(a0:lF)(a1:Int):Option (EQ×lF):=
 (Kx k k a1 a0 []).bind fun z=>
 some (z.2,z.1)
def Ws (k:Nat)(a0 a1:AC):Option Bool:=
 some (zd a0 a1)
abbrev YP:Type:=AC×vM×lF×AC×vM×(List zI)
abbrev YO:Type:=AC→Int→vM→lF→AC→vM→List zI→Option YP
def Pd (k:Nat)(rec:YO)(s0:AC)(s7:Int)(b0:vM)(b1:lF)(r2:AC)(b3:vM)(r4:List zI):Option YP:=
 bif decide (s7 > 0) then (bif !b1.2 then ((F2 k b1 3).bind fun x1=>
   bif zB 0 x1.1.length then (bif zB 1 x1.1.length then (bif zB 2 x1.1.length then (bif zQ (r4.length + 1) 24 then (let y0:List zI:=(r4++[((x1.1.getD 0 0),(x1.1.getD 1 0),(x1.1.getD 2 0))])
       rec s0 (zA (s7-1)) b0 x1.2 r2 b3 y0)
      else none)
     else none)
    else none)
   else none)
  else some (s0,b0,b1,r2,b3,r4))
 else some (s0,b0,b1,r2,b3,r4)
def F4 (k:Nat):Nat→YO:=yR (fun _ _ _ _ _ _ _=>none) (Pd k)
abbrev YR:Type:=AC×vM×lF×vM×(List zI)×EQ×AC×EQ×AC×EQ×(List zC)
abbrev YQ:Type:=AC→Int→vM→lF→vM→List zI→EQ→AC→EQ→AC→EQ→List zC→Option YR
def Pe (k:Nat)(rec:YQ)(s0:AC)(s9:Int)(b0:vM)(b1:lF)(b2:vM)(r3:List zI)(r4:EQ)(r5:AC)(r6:EQ)(r7:AC)(r8:EQ)(r9:List zC):Option YR:=
 bif decide (s9 > 0) then (bif !b1.2 then ((F2 k b1 7).bind fun x7=>
   bif zB 0 x7.1.length then (bif zB 1 x7.1.length then (bif zB 2 x7.1.length then (bif zB 3 x7.1.length then (bif zB 4 x7.1.length then (bif zB 5 x7.1.length then (bif zB 6 x7.1.length then (bif zQ (r9.length + 1) 56 then (let y1:List zC:=(r9++[((x7.1.getD 0 0),(x7.1.getD 1 0),(x7.1.getD 2 0),(x7.1.getD 3 0),(x7.1.getD 4 0),(x7.1.getD 5 0),(x7.1.getD 6 0))])
           rec s0 (zA (s9-1)) b0 x7.2 b2 r3 r4 r5 r6 r7 r8 y1)
          else none)
         else none)
        else none)
       else none)
      else none)
     else none)
    else none)
   else none)
  else some (s0,b0,b1,b2,r3,r4,r5,r6,r7,r8,r9))
 else some (s0,b0,b1,b2,r3,r4,r5,r6,r7,r8,r9)
def F5 (k:Nat):Nat→YQ:=yR (fun _ _ _ _ _ _ _ _ _ _ _ _=>none) (Pe k)
def Ky (k:Nat)(a0:AC):Option (vH×Bool):=
 (F2 k (a0,false) 9).bind fun x0=>
 bif zB 0 x0.1.length then (bif zB 1 x0.1.length then (bif zB 2 x0.1.length then (bif zB 3 x0.1.length then ((F4 k k a0 (x0.1.getD 3 0) (0,0,false) x0.2 x0.1 ((x0.1.getD 0 0),(x0.1.getD 1 0),(decide ((x0.1.getD 2 0)=1))) []).bind fun z=>
     bif zB 4 z.2.2.2.1.length then ((F3 k z.2.2.1 (z.2.2.2.1.getD 4 0)).bind fun x2=>
      (xR k x2.2).bind fun x3=>
      bif zB 6 z.2.2.2.1.length then ((F3 k x3.2 (z.2.2.2.1.getD 6 0)).bind fun x4=>
       (xR k x4.2).bind fun x5=>
       bif zB 7 z.2.2.2.1.length then ((F3 k x5.2 (z.2.2.2.1.getD 7 0)).bind fun x6=>
        bif zB 8 z.2.2.2.1.length then ((F5 k k z.1 (z.2.2.2.1.getD 8 0) z.2.1 x6.2 z.2.2.2.2.1 z.2.2.2.2.2 x2.1 x3.1 x4.1 x5.1 x6.1 []).bind fun z1=>
         (xR k z1.2.2.1).bind fun x8=>
         bif x8.2.2 then some ((0,[],[],[],[],[],[],[],[],0,false),false)
         else(mb k (z1.2.2.2.1.1,(qPb z1 (x8.1,z1.2.2.2.1.2)))).bind fun x9=>
         (Ws k x9 z1.1).bind fun cq=>
         bif !cq then some ((0,[],[],[],[],[],[],[],[],0,false),false)
         else some ((z1.2.2.2.1.1,(qPb z1 (x8.1,z1.2.2.2.1.2))),true))
        else none)
       else none)
      else none)
     else none)
    else none)
   else none)
  else none)
 else none
def uo (k:Nat)(a0:Int):Option Int:=
 bif decide (a0=9) then some 0
 else bif decide (a0=13) then some 0
 else bif decide (a0=14) then some 0
 else bif decide (a0=15) then some 0
 else bif decide (a0=2) then some 1
 else bif decide (a0=6) then some 1
 else bif decide (a0=7) then some 1
 else bif decide (a0=16) then some 1
 else bif decide (a0=19) then some 1
 else bif decide (a0=20) then some 1
 else bif decide (a0=21) then some 1
 else bif decide (a0=22) then some 1
 else bif decide (a0=23) then some 1
 else bif decide (a0=3) then some 2
 else bif decide (a0=4) then some 2
 else bif decide (a0=5) then some 2
 else bif decide (a0=8) then some 2
 else bif decide (a0=10) then some 2
 else bif decide (a0=11) then some 2
 else bif decide (a0=12) then some 2
 else bif decide (a0=18) then some 4
 else bif decide (a0=17) then some 5
 else bif decide (a0=1) then some 6
 else some (-1)
def A4 (k:Nat)(a0:AC):Option (zC×Int):=
 bif decide ((a0.length:Int)=0) then some ((0,0,0,0,0,0,0),2)
 else bif decide (1 ≤ (a0.length : Int)) then ((sF k (List.drop 1 a0)).bind fun x0=>
  bif !(decide (x0.2=0)) then some ((0,0,0,0,0,0,0),2)
  else bif zB 0 a0.length then ((uo k (zA ((a0.getD 0 0)))).bind fun x1=>
   bif !(decide ((x0.1.length:Int)=x1)) then some ((0,0,0,0,0,0,0),2)
   else bif zB 0 a0.length then some (((zA ((a0.getD 0 0))),(bif (Nat.blt 0 x0.1.length) then(x0.1.getD 0 0) else 0),(bif (Nat.blt 1 x0.1.length) then(x0.1.getD 1 0) else 0),(bif (Nat.blt 2 x0.1.length) then(x0.1.getD 2 0) else 0),(bif (Nat.blt 3 x0.1.length) then(x0.1.getD 3 0) else 0),(bif (Nat.blt 4 x0.1.length) then(x0.1.getD 4 0) else 0),(bif (Nat.blt 5 x0.1.length) then(x0.1.getD 5 0) else 0)),0)
   else none)
  else none)
 else none
def sU (k:Nat)(a0:AC):Option (qP×Int):=
 bif decide ((a0.length:Int)<8) then some ((0,0,0,0,0,0,0,0),2)
 else bif decide (8 ≤ (a0.length : Int)) then ((sF k (List.take 8 a0)).bind fun x0=>
  bif decide (8 ≤ (a0.length : Int)) then ((A4 k (List.drop 8 a0)).bind fun x1=>
   bif !(decide (x1.2=0)) then some ((0,0,0,0,0,0,0,0),2)
   else bif zB 0 x0.1.length then some (((x0.1.getD 0 0),x1.1),0)
   else none)
  else none)
 else none
def O7 (k:Nat)(a0:Int):Option Bool:=
 bif decide (a0≥10) then some (decide (a0≤14))
 else some false
def Ku (k:Nat)(a0:Int):Option Bool:=
 bif decide (a0≥1) then some (decide (a0≤14))
 else some false
abbrev YX:Type:=AC→Int→Int→Option (Unit⊕Bool)
def lz (k:Nat)(rec:YX)(bA:AC)(bE ba:Int):Option (Unit⊕Bool):=
 bif decide (ba < bE) then (bif zB ba bA.length then (bif !(decide ((bA.getD ba.toNat 0)=0)) then some (.inr false)
   else rec bA bE (zA (ba+1)))
  else none)
 else some (.inl ())
def mh (k:Nat):Nat→YX:=yR (fun _ _ _=>none) (lz k)
def kb (k:Nat)(a0:zC):Option Bool:=
 (uo k a0.1).bind fun x0=>
 bif decide (x0<0) then some false
 else bif (decide (0 ≤ x0)) && (decide (x0 ≤ 6)) then ((mh k k (qS [a0.2.1,a0.2.2.1,a0.2.2.2.1,a0.2.2.2.2.1,a0.2.2.2.2.2.1,a0.2.2.2.2.2.2] x0.toNat (6-x0.toNat)) ((qS [a0.2.1,a0.2.2.1,a0.2.2.2.1,a0.2.2.2.2.1,a0.2.2.2.2.2.1,a0.2.2.2.2.2.2] x0.toNat (6-x0.toNat)).length:Int) 0).bind fun z=>
  match z with
  |.inl z1=>some true
  |.inr z2=>some z2)
 else none
def uO (k:Nat)(a0:vQ)(a1:vH)(a2:qP):Option Int:=
 (O7 k a2.2.1).bind fun x0=>
 bif decide (a2.1 ≥ 0) then ((Ku k a2.2.1).bind fun x1=>
  bif !x1 then some 5
  else(kb k a2.2).bind fun x2=>
  bif !x2 then some 5
  else bif x0 then (bif !(decide (a2.1=(-1))) then some 5
   else bif !x0 then (bif !(decide (a2.1<a0.1)) then some 5
    else bif a1.2.2.2.2.2.2.2.2.2.2 then (bif !(decide (a2.2.1=9)) then some 7
     else some 0)
    else some 0)
   else bif a1.2.2.2.2.2.2.2.2.2.2 then (bif !(decide (a2.2.1=9)) then some 7
    else some 0)
   else some 0)
  else bif !x0 then (bif !(decide (a2.1<a0.1)) then some 5
   else bif a1.2.2.2.2.2.2.2.2.2.2 then (bif !(decide (a2.2.1=9)) then some 7
    else some 0)
   else some 0)
  else bif a1.2.2.2.2.2.2.2.2.2.2 then (bif !(decide (a2.2.1=9)) then some 7
   else some 0)
  else some 0)
 else(Ku k a2.2.1).bind fun x3=>
 bif !x3 then some 5
 else(kb k a2.2).bind fun x4=>
 bif !x4 then some 5
 else bif x0 then (bif !(decide (a2.1=(-1))) then some 5
  else bif !x0 then some 5
  else bif a1.2.2.2.2.2.2.2.2.2.2 then (bif !(decide (a2.2.1=9)) then some 7
   else some 0)
  else some 0)
 else bif !x0 then some 5
 else bif a1.2.2.2.2.2.2.2.2.2.2 then (bif !(decide (a2.2.1=9)) then some 7
  else some 0)
 else some 0
def V5 (k:Nat)(cd bg bC ct bO ca bR a1:Int):Option Bool:=
 some (decide (bg=a1))
abbrev Y4:Type:=List zC
abbrev Y2:Type:=List zC→Int→Int→Int→List zC→Option Y4
def FH (k:Nat)(rec:Y2)(s8:List zC)(s9 ax af:Int)(r1:List zC):Option Y4:=
 bif decide (ax < s9) then (bif zB ax s8.length then ((V5 k (s8.getD ax.toNat (0,0,0,0,0,0,0)).1 (s8.getD ax.toNat (0,0,0,0,0,0,0)).2.1 (s8.getD ax.toNat (0,0,0,0,0,0,0)).2.2.1 (s8.getD ax.toNat (0,0,0,0,0,0,0)).2.2.2.1 (s8.getD ax.toNat (0,0,0,0,0,0,0)).2.2.2.2.1 (s8.getD ax.toNat (0,0,0,0,0,0,0)).2.2.2.2.2.1 (s8.getD ax.toNat (0,0,0,0,0,0,0)).2.2.2.2.2.2 af).bind fun x0=>
   bif x0 then (bif zQ (r1.length + 1) 56 then (let y0:List zC:=(r1++[(s8.getD ax.toNat (0,0,0,0,0,0,0))])
     rec s8 s9 (zA (ax+1)) af y0)
    else none)
   else rec s8 s9 (zA (ax+1)) af r1)
  else none)
 else some r1
def Ki (k:Nat):Nat→Y2
 |0,_,_,_,_,_=>none
 |n+1,s8,s9,ax,af,r1=>FH k (Ki k n) s8 s9 ax af r1
def V4 (k:Nat)(a0:List zC)(cW:Int):Option (List zC):=
 (Ki k k a0 (a0.length:Int) 0 cW []).bind fun z=>
 some z
def Kh (k:Nat)(a0:List zC)(a1:Int):Option (List zC):=
 (V4 k a0 a1).bind fun x0=>
 some x0
def yDo (k:Nat)(a0:(Int×Int×Int×Int×Int×Int×Bool×Int))(a1:Int)(a2:AC):Option jL:=
 some (a0.1,[],(iw a0 ([],[],[],[],[],[],[],[],a0.2.2.2.2.2.1,a0.2.2.2.2.2.2.1,a0.2.2.2.2.2.2.2,[(a0.2.2.2.2.2.2.2,a1,(bif (Nat.blt 0 a2.length) then(a2.getD 0 0) else 0),(bif (Nat.blt 1 a2.length) then(a2.getD 1 0) else 0),(bif (Nat.blt 2 a2.length) then(a2.getD 2 0) else 0),(bif (Nat.blt 3 a2.length) then(a2.getD 3 0) else 0),(bif (Nat.blt 4 a2.length) then(a2.getD 4 0) else 0),(bif (Nat.blt 5 a2.length) then(a2.getD 5 0) else 0))])))
def BZ (k:Nat)(a0:vH)(a1:Int):Option (List qP):=
 bif zB a1 a0.2.1.length then ((Kh k a0.2.2.2.2.2.2.2.1 a1).bind fun x0=>
  (yDo k (0,0,0,0,0,0,false,a1) 17 [(a0.2.1.getD a1.toNat (0,0,0)).1,(a0.2.1.getD a1.toNat (0,0,0)).2.1,(a0.2.1.getD a1.toNat (0,0,0)).2.2,(x0.length:Int),a0.1]).bind fun x1=>
  some x1.2.2.2.2.2.2.2.2.2.2.2.2.2.2.2.2.2)
 else none
def K4 (k:Nat)(a0:lG)(a1:Int)(a2:AC):Option jL:=
 some (vS a0 [(a0.2.2.2.2.2.2.2.2.2.2.2.2.2.2.2.2,a1,(bif (Nat.blt 0 a2.length) then(a2.getD 0 0) else 0),(bif (Nat.blt 1 a2.length) then(a2.getD 1 0) else 0),(bif (Nat.blt 2 a2.length) then(a2.getD 2 0) else 0),(bif (Nat.blt 3 a2.length) then(a2.getD 3 0) else 0),(bif (Nat.blt 4 a2.length) then(a2.getD 4 0) else 0),(bif (Nat.blt 5 a2.length) then(a2.getD 5 0) else 0))])
def vF (k:Nat)(a0 a1 a2:Int):Option Bool:=
 bif decide (a0≥a1) then some (decide (a0≤a2))
 else some false
def Kr (k:Nat)(a0:vQ)(a1:Int):Option Bool:=
 bif decide (a1≥0) then some (decide (a1<a0.1))
 else some false
def O2 (k:Nat)(a0:vQ)(a1:Int)(a2:zC):Option Bool:=
 (Kr k a0 a2.2.1).bind fun x0=>
 bif x0 then ((Kr k a0 a2.2.2.1).bind fun x1=>
  bif x1 then (bif decide (a2.1 ≥ 1) then (bif decide (a2.2.2.2.1 ≥ 1) then (bif decide (a2.2.2.2.1 ≤ 1099511627776) then (bif decide (a2.2.2.2.2.1 ≥ 1) then (bif !(decide (a2.2.1 = a2.2.2.1)) then (bif decide (a2.2.2.2.2.1 ≤ 3) then (bif decide (a2.2.2.2.2.2.1 ≥ 0) then (bif decide (a2.2.2.2.2.2.1 ≤ a2.2.2.2.2.2.2) then (bif decide (a2.2.2.2.2.2.2≥a1) then some (decide (a2.2.2.2.2.2.2≤1048576))
           else some false)
          else some false)
         else some false)
        else some false)
       else some false)
      else bif !(decide (a2.2.1=a2.2.2.1)) then some false
      else some false)
     else bif !(decide (a2.2.1=a2.2.2.1)) then some false
     else some false)
    else bif !(decide (a2.2.1=a2.2.2.1)) then some false
    else some false)
   else bif !(decide (a2.2.1=a2.2.2.1)) then some false
   else some false)
  else bif decide (a2.1 ≥ 1) then (bif decide (a2.2.2.2.1 ≥ 1) then (bif decide (a2.2.2.2.1 ≤ 1099511627776) then (bif decide (a2.2.2.2.2.1≥1) then some false
     else some false)
    else some false)
   else some false)
  else some false)
 else bif decide (a2.1 ≥ 1) then (bif decide (a2.2.2.2.1 ≥ 1) then (bif decide (a2.2.2.2.1 ≤ 1099511627776) then (bif decide (a2.2.2.2.2.1≥1) then some false
    else some false)
   else some false)
  else some false)
 else some false
def BE (k:Nat)(a0:vQ)(a1 a2:Int):Option Int:=
 bif decide (a1≥a0.2.2.2.1) then some 7
 else bif decide (a2 = 3) then (bif decide (a1≥a0.2.2.1) then some 7
  else some 0)
 else some 0
def F0 (k:Nat)(a0:vQ)(a1:Int)(a2:zC):Option Int:=
 (O2 k a0 a1 a2).bind fun x0=>
 bif !x0 then some 1
 else(BE k a0 a1 a2.2.2.2.2.1).bind fun x1=>
 some x1
def OA (k:Nat)(a0:Int):Option Bool:=
 some (!(decide (a0=a0)))
def Oz (k:Nat)(a0 a1:Int):Option Bool:=
 (OA k a0).bind fun x0=>
 bif x0 then ((OA k a1).bind fun x1=>
  bif !x1 then some true
  else some (decide (a0<a1)))
 else some (decide (a0<a1))
def OC (k:Nat)(a0:Int):Option Bool:=
 some (!(decide (a0=a0)))
abbrev Za:Type:=AC×Int×Int×Int
abbrev Y8:Type:=AC→Int→Int→Int→Int→Option Za
def OB (k:Nat)(rec:Y8)(s0:AC)(s1 s6 s7 s8:Int):Option Za:=
 bif decide (s7 < s8) then (bif zB (zA ((shr .u64 (IntKind.wrap .u64 ((zA (s7 + s8)))) 1))) s0.length then ((Oz k (s0.getD (zA ((shr .u64 (IntKind.wrap .u64 ((zA (s7+s8)))) 1))).toNat 0) s1).bind fun x0=>
   bif x0 then(rec s0 s1 s6 (zA ((zA ((shr .u64 (IntKind.wrap .u64 ((zA (s7+s8)))) 1)))+1)) s8)
   else rec s0 s1 s6 s7 (zA ((shr .u64 (IntKind.wrap .u64 ((zA (s7+s8)))) 1))))
  else none)
 else some (s0,s1,s6,s7)
def J3 (k:Nat):Nat→Y8:=yR (fun _ _ _ _ _=>none) (OB k)
def Fi (k:Nat)(a0:AC)(a1:Int):Option fa:=
 (J3 k k a0 a1 (a0.length:Int) 0 (a0.length:Int)).bind fun z=>
 bif decide (z.2.2.2 < z.2.2.1) then (bif zB z.2.2.2 z.1.length then (bif decide ((z.1.getD z.2.2.2.toNat 0)=z.2.1) then some (z.2.2.2,true)
   else bif zB z.2.2.2 z.1.length then ((OC k (z.1.getD z.2.2.2.toNat 0)).bind fun x1=>
    bif x1 then ((OC k z.2.1).bind fun x2=>
     some (z.2.2.2,x2))
    else some (z.2.2.2,false))
   else none)
  else none)
 else some (z.2.2.2,false)
def pW (k:Nat)(a0:AC):Option AC:=
 bif zQ (0+a0.length) 8 then some a0
 else none
abbrev yBz (k:Nat)(a0:AC)(a1:Int)(a2:AC):Option AC:=ins 8 a0 a1 a2
def Fj (k:Nat)(a0:AC)(a1:Int):Option (AC×Int):=
 (Fi k a0 a1).bind fun x0=>
 bif x0.2 then some (a0,6)
 else bif decide ((a0.length:Int)≥200) then some (a0,3)
 else(pW k a0).bind fun x1=>
 (yBz k x1 x0.1 [a1]).bind fun x2=>
 some (x2,0)
def VC (k:Nat)(cd bg bC ct bO ca bR a1:Int):Option Bool:=
 some (decide (cd=a1))
abbrev Zf:Type:=List zC→Int→Int→Int→Option (Unit⊕Int)
def E7 (k:Nat)(rec:Zf)(s0:List zC)(s7 s8 af:Int):Option (Unit⊕Int):=
 bif decide (s8 < s7) then (bif zB s8 s0.length then ((VC k (s0.getD s8.toNat (0,0,0,0,0,0,0)).1 (s0.getD s8.toNat (0,0,0,0,0,0,0)).2.1 (s0.getD s8.toNat (0,0,0,0,0,0,0)).2.2.1 (s0.getD s8.toNat (0,0,0,0,0,0,0)).2.2.2.1 (s0.getD s8.toNat (0,0,0,0,0,0,0)).2.2.2.2.1 (s0.getD s8.toNat (0,0,0,0,0,0,0)).2.2.2.2.2.1 (s0.getD s8.toNat (0,0,0,0,0,0,0)).2.2.2.2.2.2 af).bind fun x0=>
   bif x0 then some (.inr s8)
   else rec s0 s7 (zA (s8+1)) af)
  else none)
 else some (.inl ())
def E6 (k:Nat):Nat→Zf
 |0,_,_,_,_=>none
 |n+1,s0,s7,s8,af=>E7 k (E6 k n) s0 s7 s8 af
def VD (k:Nat)(a0:List zC)(cW:Int):Option Int:=
 (E6 k k a0 (a0.length:Int) 0 cW).bind fun z=>
 match z with
 |.inl z1=>some (-1)
 |.inr z2=>some z2
def nS (k:Nat)(a0:List zC)(a1:Int):Option Int:=
 (VD k a0 a1).bind fun x0=>
 some x0
def Ox (k:Nat)(a0:Int):Option Bool:=
 some (!(decide (a0=a0)))
def JW (k:Nat)(a0 a1:Int):Option Int:=
 (Ox k a0).bind fun x0=>
 (Ox k a1).bind fun x1=>
 bif x0 then (bif x1 then some 0
  else some (-1))
 else bif x1 then some 1
 else bif decide (a0<a1) then some (-1)
 else bif decide (a0>a1) then some 1
 else some 0
abbrev Zi:Type:=Int→AC→Int→Int→Option (Int⊕Int)
def yBg (k:Nat)(rec:Zi)(s3:Int)(s6:AC)(s7 s8:Int):Option (Int⊕Int):=
 bif decide (s8 < s7) then (bif zB s8 s6.length then (bif !(decide ((s6.getD s8.toNat 0)=s3)) then some (.inr (s6.getD s8.toNat 0))
   else rec s3 s6 s7 (zA (s8+1)))
  else none)
 else some (.inl s3)
def JV (k:Nat):Nat→Zi
 |0,_,_,_,_=>none
 |n+1,s3,s6,s7,s8=>yBg k (JV k n) s3 s6 s7 s8
def Ow (k:Nat)(a0:AC):Option Int:=
 (JV k k 0 a0 (a0.length:Int) 0).bind fun z=>
 match z with
 |.inl z1=>some z1
 |.inr z2=>some z2
def E8 (k:Nat)(cd bg bC ct bO ca bR gP cw du ek dv iV iW:Int):Option Int:=
 (JW k bg cw).bind fun x0=>
 (JW k bO dv).bind fun x1=>
 (Ow k [x0,x1]).bind fun x2=>
 some x2
def xy (k:Nat)(a0:List zC):Option (List zC):=
 bif zQ (0+a0.length) 56 then some a0
 else none
abbrev Oy (k:Nat)(a0:List zC)(a1:Int)(a2:List zC):Option (List zC):=ins 56 a0 a1 a2
abbrev Zm:Type:=(List zC)×Int×zC
abbrev Zk:Type:=List zC→Int→zC→Option Zm
def Fc (k:Nat)(rec:Zk)(s0:List zC)(s6:Int)(b0:zC):Option Zm:=
 bif decide (s6 < (s0.length : Int)) then (bif zB s6 s0.length then ((E8 k (s0.getD s6.toNat (0,0,0,0,0,0,0)).1 (s0.getD s6.toNat (0,0,0,0,0,0,0)).2.1 (s0.getD s6.toNat (0,0,0,0,0,0,0)).2.2.1 (s0.getD s6.toNat (0,0,0,0,0,0,0)).2.2.2.1 (s0.getD s6.toNat (0,0,0,0,0,0,0)).2.2.2.2.1 (s0.getD s6.toNat (0,0,0,0,0,0,0)).2.2.2.2.2.1 (s0.getD s6.toNat (0,0,0,0,0,0,0)).2.2.2.2.2.2 b0.1 b0.2.1 b0.2.2.1 b0.2.2.2.1 b0.2.2.2.2.1 b0.2.2.2.2.2.1 b0.2.2.2.2.2.2).bind fun x1=>
   bif decide (x1≤0) then(rec s0 (zA (s6+1)) b0)
   else some (s0,s6,b0))
  else none)
 else some (s0,s6,b0)
def JZ (k:Nat):Nat→Zk:=yR (fun _ _ _=>none) (Fc k)
def xz (k:Nat)(a0:List zC)(a1:zC):Option ((List zC)×Int):=
 (nS k a0 a1.1).bind fun x0=>
 bif decide (x0≥0) then some (a0,6)
 else bif decide ((a0.length:Int)≥40) then some (a0,3)
 else(JZ k k a0 0 a1).bind fun z=>
 (xy k z.1).bind fun x2=>
 (Oy k x2 z.2.1 [z.2.2]).bind fun x3=>
 some (x3,0)
def O3 (k:Nat)(a0:jL)(a1:LW):Option (Int×jL):=
 (vF k a1.2.1 0 (zA (a0.1-1))).bind fun x0=>
 bif !x0 then some (1,a0)
 else(vF k a1.2.2.2.1 1 3).bind fun x1=>
 bif !x1 then some (1,a0)
 else(F0 k (yV a0) a0.2.2.2.2.2.1 (a1.1,a0.2.2.2.2.2.2.2.2.2.2.2.2.2.2.2.2.1,a1.2)).bind fun x2=>
 bif !(decide (x2=0)) then some (x2,a0)
 else(Fj k a0.2.2.2.2.2.2.2.2.2.2.2.2.2.1 a1.1).bind fun x3=>
 bif !(decide (x3.2=0)) then some (x3.2,a0)
 else(xz k a0.2.2.2.2.2.2.2.2.2.2.2.2.1 (a1.1,a0.2.2.2.2.2.2.2.2.2.2.2.2.2.2.2.2.1,a1.2)).bind fun x4=>
 bif !(decide (x4.2=0)) then some (x4.2,a0)
 else some (0,(kl a0 (x4.1,x3.1,a0.2.2.2.2.2.2.2.2.2.2.2.2.2.2)))
def Zo (k:Nat)(a0:jL)(a1:Int):Option (zC×Int):=
 (nS k a0.2.2.2.2.2.2.2.2.2.2.2.2.1 a1).bind fun x0=>
 bif decide (x0<0) then some ((0,0,0,0,0,0,0),4)
 else bif zB x0 a0.2.2.2.2.2.2.2.2.2.2.2.2.1.length then (bif !(decide ((a0.2.2.2.2.2.2.2.2.2.2.2.2.1.getD x0.toNat (0,0,0,0,0,0,0)).2.1=a0.2.2.2.2.2.2.2.2.2.2.2.2.2.2.2.2.1)) then some ((0,0,0,0,0,0,0),4)
  else bif zB x0 a0.2.2.2.2.2.2.2.2.2.2.2.2.1.length then some ((a0.2.2.2.2.2.2.2.2.2.2.2.2.1.getD x0.toNat (0,0,0,0,0,0,0)),0)
  else none)
 else none
def JU (k:Nat)(a0:List zC)(a1 a2:Int):Option (List zC):=
 bif ((((decide (0 ≤ a1)) && (decide (a1 ≤ a2))) && (decide (a2 ≤ (a0.length : Int)))) && (decide (((a2.toNat : Nat) : Int) ≤ (a0.length : Int)))) && (decide ((a0.length : Int) ≤ (a0.length : Int))) then (bif decide (a1=a2) then some a0
  else bif (decide (0 ≤ a1)) && (decide (a1 ≤ (a0.length : Int))) then (bif (decide (0 ≤ a2)) && (decide (a2 ≤ (a0.length : Int))) then (bif Nat.ble (a1.toNat - 0) (0 + a2.toNat) then (let y0:List zC:=(((List.take (a1.toNat-0) a0)++(qS a0 (0+a2.toNat) (a0.length-a2.toNat)))++(List.drop ((a1.toNat-0)+(a0.length-a2.toNat)) a0))
     bif ((decide (0 ≤ ((qS y0 0 ((a1.toNat - 0) + (a0.length - a2.toNat))).length : Int))) && (decide (((qS y0 0 ((a1.toNat - 0) + (a0.length - a2.toNat))).length : Int) ≤ (a0.length : Int)))) && (decide ((a0.length : Int) ≤ (((y0.length - 0) : Nat) : Int))) then (let y1:List zC:=(((List.take (0+(qS y0 0 ((a1.toNat-0)+(a0.length-a2.toNat))).length) y0)++(List.replicate (a0.length-(qS y0 0 ((a1.toNat-0)+(a0.length-a2.toNat))).length) ((0,0,0,0,0,0,0):Int×Int×Int×Int×Int×Int×Int)))++(List.drop ((0+(qS y0 0 ((a1.toNat-0)+(a0.length-a2.toNat))).length)+(a0.length-(qS y0 0 ((a1.toNat-0)+(a0.length-a2.toNat))).length)) y0))
      some (List.take ((a1.toNat-0)+(a0.length-a2.toNat)) y1))
     else none)
    else none)
   else none)
  else none)
 else none
def qa (k:Nat)(a0:List zC)(a1:Int):Option qPg:=
 (nS k a0 a1).bind fun x0=>
 bif decide (x0<0) then some (a0,0,0,0,0,0,0,0,4)
 else(xy k a0).bind fun x1=>
 (JU k x1 x0 (zA (x0+1))).bind fun x2=>
 bif zB x0 a0.length then some (x2,(ir (a0.getD x0.toNat (0,0,0,0,0,0,0)) 0))
 else none
def uN (k:Nat)(a0:jL)(a1:Int)(a2:AC):Option jL:=
 bif zQ (a0.2.2.2.2.2.2.2.2.2.2.2.2.2.2.2.2.2.length + 1) 64 then (let y0:List qP:=(a0.2.2.2.2.2.2.2.2.2.2.2.2.2.2.2.2.2++[(a0.2.2.2.2.2.2.2.2.2.2.2.2.2.2.2.2.1,a1,(bif (Nat.blt 0 a2.length) then(a2.getD 0 0) else 0),(bif (Nat.blt 1 a2.length) then(a2.getD 1 0) else 0),(bif (Nat.blt 2 a2.length) then(a2.getD 2 0) else 0),(bif (Nat.blt 3 a2.length) then(a2.getD 3 0) else 0),(bif (Nat.blt 4 a2.length) then(a2.getD 4 0) else 0),(bif (Nat.blt 5 a2.length) then(a2.getD 5 0) else 0))])
  some (yE a0 y0))
 else none
def Fe (k:Nat)(a0:List zC)(a1 a2:Int):Option ((List zC)×Int):=
 (qa k a0 a1).bind fun x0=>
 bif !(decide (x0.2.2.2.2.2.2.2.2=0)) then some (a0,x0.2.2.2.2.2.2.2.2)
 else(xz k x0.1 (iw x0 (a2,x0.2.2.2.2.2.2.1,x0.2.2.2.2.2.2.2.1))).bind fun x1=>
 some (x1.1,x1.2)
def VJ (k:Nat)(a0:List zC)(a1:Int):Option qPg:=
 (nS k a0 a1).bind fun x0=>
 bif decide (x0<0) then none
 else(xy k a0).bind fun x1=>
 (JU k x1 x0 (zA (x0+1))).bind fun x2=>
 bif zB x0 a0.length then some (x2,(ir (a0.getD x0.toNat (0,0,0,0,0,0,0)) 0))
 else none
abbrev Zr:Type:=Int×(List zC)×zC
abbrev Zp:Type:=Int→List zC→zC→Option Zr
def Fg (k:Nat)(rec:Zp)(s9:Int)(r0:List zC)(b1:zC):Option Zr:=
 bif decide (s9 < (r0.length : Int)) then (bif zB s9 r0.length then ((E8 k (r0.getD s9.toNat (0,0,0,0,0,0,0)).1 (r0.getD s9.toNat (0,0,0,0,0,0,0)).2.1 (r0.getD s9.toNat (0,0,0,0,0,0,0)).2.2.1 (r0.getD s9.toNat (0,0,0,0,0,0,0)).2.2.2.1 (r0.getD s9.toNat (0,0,0,0,0,0,0)).2.2.2.2.1 (r0.getD s9.toNat (0,0,0,0,0,0,0)).2.2.2.2.2.1 (r0.getD s9.toNat (0,0,0,0,0,0,0)).2.2.2.2.2.2 b1.1 b1.2.1 b1.2.2.1 b1.2.2.2.1 b1.2.2.2.2.1 b1.2.2.2.2.2.1 b1.2.2.2.2.2.2).bind fun x1=>
   bif decide (x1<0) then(rec (zA (s9+1)) r0 b1)
   else some (s9,r0,b1))
  else none)
 else some (s9,r0,b1)
def J2 (k:Nat):Nat→Zp:=yR (fun _ _ _=>none) (Fg k)
def Fh (k:Nat)(a0:List zC)(a1:Int):Option ((List zC)×Int):=
 (VJ k a0 a1).bind fun x0=>
 bif !(decide (x0.2.2.2.2.2.2.2.2=0)) then some (a0,x0.2.2.2.2.2.2.2.2)
 else(J2 k k 0 x0.1 (Qu x0)).bind fun z=>
 (Oy k z.2.1 z.1 [z.2.2]).bind fun x2=>
 some (x2,0)
def Ff (k:Nat)(a0:List zC)(a1:Int):Option ((List zC)×Int):=
 (qa k a0 a1).bind fun x0=>
 bif !(decide (x0.2.2.2.2.2.2.2.2=0)) then some (a0,x0.2.2.2.2.2.2.2.2)
 else(xz k x0.1 (Qu x0)).bind fun x1=>
 some (x1.1,x1.2)
def xN (k:Nat)(a0:jL)(a1:zC):Option (Int×jL):=
 (Zo k a0 a1.2.1).bind fun x0=>
 bif !(decide (x0.2=0)) then some (x0.2,a0)
 else bif decide (a1.1 = 2) then ((qa k a0.2.2.2.2.2.2.2.2.2.2.2.2.1 a1.2.1).bind fun x1=>
  (uN k (kl a0 (x1.1,a0.2.2.2.2.2.2.2.2.2.2.2.2.2)) 20 [a1.2.1]).bind fun x2=>
  some (x1.2.2.2.2.2.2.2.2,x2))
 else bif decide (a1.1 = 4) then ((vF k a1.2.2.1 1 3).bind fun x3=>
  bif !x3 then some (1,a0)
  else(BE k (yV a0) a0.2.2.2.2.2.1 a1.2.2.1).bind fun x4=>
  bif !(decide (x4=0)) then some (x4,a0)
  else(Fe k a0.2.2.2.2.2.2.2.2.2.2.2.2.1 a1.2.1 a1.2.2.1).bind fun x5=>
  some (x5.2,(kl a0 (x5.1,a0.2.2.2.2.2.2.2.2.2.2.2.2.2))))
 else bif decide (a1.2.2.1 = 0) then ((Fh k a0.2.2.2.2.2.2.2.2.2.2.2.2.1 a1.2.1).bind fun x6=>
  some (x6.2,(kl a0 (x6.1,a0.2.2.2.2.2.2.2.2.2.2.2.2.2))))
 else bif decide (a1.2.2.1 = 1) then ((Ff k a0.2.2.2.2.2.2.2.2.2.2.2.2.1 a1.2.1).bind fun x7=>
  some (x7.2,(kl a0 (x7.1,a0.2.2.2.2.2.2.2.2.2.2.2.2.2))))
 else some (1,a0)
def UX (k:Nat)(a0:List zI):Option (List zI):=
 bif zQ (0+a0.length) 24 then some a0
 else none
def UU (k:Nat)(a0:EQ):Option Nat:=
 bif zQ (0+a0.length) 24 then some a0.length
 else none
abbrev Zu:Type:=EQ→Int→Int→EQ→Nat→Option (EQ×Nat)
def Ei (k:Nat)(rec:Zu)(s8:EQ)(s9 ax:Int)(m0:EQ)(n0:Nat):Option (EQ×Nat):=
 bif decide (ax < s9) then (bif zB ax s8.length then ((pW k (s8.getD ax.toNat [])).bind fun x1=>
   bif zB ax n0 then (bif Nat.beq ax.toNat m0.length then(rec s8 s9 (zA (ax+1)) (m0++[x1]) n0)
    else none)
   else none)
  else none)
 else some (m0,n0)
def Jj (k:Nat):Nat→Zu
 |0,_,_,_,_,_=>none
 |n+1,s8,s9,ax,m0,n0=>Ei k (Jj k n) s8 s9 ax m0 n0
def Jk (k:Nat)(a0:EQ):Option EQ:=
 (UU k a0).bind fun x0=>
 (Jj k k a0 (a0.length:Int) 0 [] x0).bind fun z=>
 T0 z.1 z.2
def gk (k:Nat)(av:List zI)(aA:EQ)(az:AC)(ay:EQ):Option LY:=
 (UX k av).bind fun x0=>
 (Jk k aA).bind fun x1=>
 (pW k az).bind fun x2=>
 (Jk k ay).bind fun x3=>
 some (x0,x1,x2,x3)
def Zw (k:Nat)(a0:jL)(a1:Int):Option Bool:=
 (vF k a1 0 (zA (a0.1-1))).bind fun x0=>
 bif x0 then some (!(decide (a1=a0.2.2.2.2.2.2.2.2.2.2.2.2.2.2.2.2.1)))
 else some false
def xO (k:Nat)(a0:jL)(a1:zC):Option (Int×jL):=
 (gk k a0.2.2.2.2.2.2.1 a0.2.2.2.2.2.2.2.1 a0.2.2.2.2.2.2.2.2.1 a0.2.2.2.2.2.2.2.2.2.1).bind fun x0=>
 bif decide (a1.1 = 5) then ((Zw k a0 a1.2.1).bind fun x1=>
  bif !x1 then some (1,a0)
  else(vF k a1.2.2.1 (-1) 1152921504606846976).bind fun x2=>
  bif !x2 then some (1,a0)
  else bif zB a0.2.2.2.2.2.2.2.2.2.2.2.2.2.2.2.2.1 x0.2.1.length then (bif zB a1.2.1 (x0.2.1.getD a0.2.2.2.2.2.2.2.2.2.2.2.2.2.2.2.2.1.toNat []).length then (let y0:EQ:=(x0.2.1.set a0.2.2.2.2.2.2.2.2.2.2.2.2.2.2.2.2.1.toNat ((x0.2.1.getD a0.2.2.2.2.2.2.2.2.2.2.2.2.2.2.2.2.1.toNat []).set a1.2.1.toNat a1.2.2.1))
    some (0,(jK a0 (x0.1,y0,x0.2.2.1,x0.2.2.2,a0.2.2.2.2.2.2.2.2.2.2))))
   else none)
  else none)
 else bif decide (a1.1 = 6) then ((vF k a1.2.1 (-1) 1152921504606846976).bind fun x3=>
  bif !x3 then some (1,a0)
  else bif zB a0.2.2.2.2.2.2.2.2.2.2.2.2.2.2.2.2.1 x0.2.2.1.length then (let y1:AC:=(x0.2.2.1.set a0.2.2.2.2.2.2.2.2.2.2.2.2.2.2.2.2.1.toNat a1.2.1)
   some (0,(jK a0 (x0.1,x0.2.1,y1,x0.2.2.2,a0.2.2.2.2.2.2.2.2.2.2))))
  else none)
 else(vF k a1.2.1 0 1152921504606846976).bind fun x4=>
 bif !x4 then some (1,a0)
 else bif zB a0.2.2.2.2.2.2.2.2.2.2.2.2.2.2.2.2.1 x0.1.length then (let y2:List zI:=(x0.1.set a0.2.2.2.2.2.2.2.2.2.2.2.2.2.2.2.2.1.toNat ((x0.1.getD a0.2.2.2.2.2.2.2.2.2.2.2.2.2.2.2.2.1.toNat (0,0,0)).1,(x0.1.getD a0.2.2.2.2.2.2.2.2.2.2.2.2.2.2.2.2.1.toNat (0,0,0)).2.1,a1.2.1))
  some (0,(jK a0 (y2,x0.2.1,x0.2.2.1,x0.2.2.2,a0.2.2.2.2.2.2.2.2.2.2))))
 else none
def LG (k:Nat)(a0:jL)(a1:Int):Option Bool:=
 (vF k a1 0 (zA ((a0.2.1.length:Int)-1))).bind fun x0=>
 some x0
def F1 (k:Nat)(a0:EQ):Option EQ:=
 bif zQ (0+a0.length) 24 then some a0
 else none
def qd (k:Nat)(a0:AC)(a1 a2:Int):Option AC:=
 (pW k a0).bind fun x0=>
 bif decide (a1 ≥ 0) then (bif decide (a1 < (x0.length : Int)) then (bif zB a1 x0.length then some (x0.set a1.toNat a2)
   else none)
  else some x0)
 else some x0
def VN (k:Nat)(a0:Int):Option Bool:=
 bif decide (a0≥0) then some (decide (a0≤10000))
 else some false
def J4 (k:Nat)(a0 a1:Int):Option vX:=
 some ((IntKind.wrap .u64 ((IntKind.wrap .u64 ((IntKind.wrap .u64 ((shr .u64 a0 32)*(shr .u64 a1 32)))+(shr .u64 (IntKind.wrap .u64 ((IntKind.wrap .u64 ((shr .u64 a0 32)*(yL .u64 a1 4294967295)))+(shr .u64 (IntKind.wrap .u64 ((yL .u64 a0 4294967295)*(yL .u64 a1 4294967295))) 32))) 32)))+(shr .u64 (IntKind.wrap .u64 ((yL .u64 (IntKind.wrap .u64 ((IntKind.wrap .u64 ((shr .u64 a0 32)*(yL .u64 a1 4294967295)))+(shr .u64 (IntKind.wrap .u64 ((yL .u64 a0 4294967295)*(yL .u64 a1 4294967295))) 32))) 4294967295)+(IntKind.wrap .u64 ((yL .u64 a0 4294967295)*(shr .u64 a1 32))))) 32))),(IntKind.wrap .u64 (a0*a1)))
def vBv (k:Nat)(a0:Int):Option Int:=
 bif decide (a0 ≥ 4294967296) then (bif decide ((shr .u64 a0 32) ≥ 65536) then (bif decide ((shr .u64 (shr .u64 a0 32) 16)≥256) then none
   else none)
  else bif decide ((shr .u64 a0 32)≥256) then none
  else none)
 else bif decide (a0 ≥ 65536) then (bif decide ((shr .u64 a0 16)≥256) then none
  else none)
 else bif decide (a0≥256) then none
 else none
def yT9 (k:Nat)(a0:Int):Option Int:=
 (vBv k a0).bind fun x0=>
 some (zA (64-x0))
abbrev Zz:Type:=Int→Int→Int→Int→Int→Int→Int→Int→Int→Option qP
def yMc (k:Nat)(rec:Zz)(s2 s8 s9 ax aR bA bE ba bX:Int):Option qP:=
 bif decide (ba ≥ 4294967296) then (bif decide ((IntKind.wrap .u64 (bX+s9))≥4294967296) then some (s2,s8,s9,ax,aR,bA,bE,(IntKind.wrap .u64 (ba-1)))
  else rec s2 s8 s9 ax aR bA bE (IntKind.wrap .u64 (ba-1)) (IntKind.wrap .u64 (bX+s9)))
 else bif decide ((IntKind.wrap .u64 (ba * ax)) > (IntKind.wrap .u64 ((IntKind.wrap .u64 (4294967296 * bX)) + bA))) then (bif decide ((IntKind.wrap .u64 (bX+s9))≥4294967296) then some (s2,s8,s9,ax,aR,bA,bE,(IntKind.wrap .u64 (ba-1)))
  else rec s2 s8 s9 ax aR bA bE (IntKind.wrap .u64 (ba-1)) (IntKind.wrap .u64 (bX+s9)))
 else some (s2,s8,s9,ax,aR,bA,bE,ba)
def ZB (k:Nat):Nat→Zz:=yR (fun _ _ _ _ _ _ _ _ _=>none) (yMc k)
abbrev ZC:Type:=Int→Int→Int→Int→Int→Int→Int→Int→Int→Option LW
def yFj (k:Nat)(rec:ZC)(s2 s8 s9 ax bE ba bX bm la:Int):Option LW:=
 bif decide (la ≥ 4294967296) then (bif decide ((IntKind.wrap .u64 (bX+s9))≥4294967296) then some (s2,s8,bE,ba,bm,(IntKind.wrap .u64 (la-1)))
  else rec s2 s8 s9 ax bE ba (IntKind.wrap .u64 (bX+s9)) bm (IntKind.wrap .u64 (la-1)))
 else bif decide ((IntKind.wrap .u64 (la * ax)) > (IntKind.wrap .u64 ((IntKind.wrap .u64 (4294967296 * bX)) + bE))) then (bif decide ((IntKind.wrap .u64 (bX+s9))≥4294967296) then some (s2,s8,bE,ba,bm,(IntKind.wrap .u64 (la-1)))
  else rec s2 s8 s9 ax bE ba (IntKind.wrap .u64 (bX+s9)) bm (IntKind.wrap .u64 (la-1)))
 else some (s2,s8,bE,ba,bm,la)
def ZE (k:Nat):Nat→ZC:=yR (fun _ _ _ _ _ _ _ _ _=>none) (yFj k)
def OF (k:Nat)(a0 a1 a2:Int):Option vX:=
 bif decide (a2=0) then none
 else bif decide (a2≤a0) then none
 else bif decide (a0 = 0) then (bif !(decide (a2 = 0)) then (bif !(decide (a2=0)) then some ((IntKind.wrap .u64 (Int.tdiv a1 a2)),(Int.tmod a1 a2))
   else none)
  else none)
 else(yT9 k a2).bind fun x0=>
 bif !(decide ((IntKind.wrap .u64 (x0)) < 0)) then (bif !(decide ((IntKind.wrap .u64 (x0)) < 0)) then (bif !(decide ((IntKind.wrap .u64 (64 - (IntKind.wrap .u64 (x0)))) < 0)) then (bif !(decide ((IntKind.wrap .u64 (x0)) < 0)) then (bif !(decide ((shr .u64 (shl .u64 a2 (IntKind.wrap .u64 (x0))) 32) = 0)) then ((ZB k k (shl .u64 a2 (IntKind.wrap .u64 (x0))) (IntKind.wrap .u64 (x0)) (shr .u64 (shl .u64 a2 (IntKind.wrap .u64 (x0))) 32) (yL .u64 (shl .u64 a2 (IntKind.wrap .u64 (x0))) 4294967295) (wN .u64 (shl .u64 a0 (IntKind.wrap .u64 (x0))) (shr .u64 a1 (IntKind.wrap .u64 (64-(IntKind.wrap .u64 (x0)))))) (shr .u64 (shl .u64 a1 (IntKind.wrap .u64 (x0))) 32) (yL .u64 (shl .u64 a1 (IntKind.wrap .u64 (x0))) 4294967295) (IntKind.wrap .u64 (Int.tdiv (wN .u64 (shl .u64 a0 (IntKind.wrap .u64 (x0))) (shr .u64 a1 (IntKind.wrap .u64 (64-(IntKind.wrap .u64 (x0)))))) (shr .u64 (shl .u64 a2 (IntKind.wrap .u64 (x0))) 32))) (IntKind.wrap .u64 ((wN .u64 (shl .u64 a0 (IntKind.wrap .u64 (x0))) (shr .u64 a1 (IntKind.wrap .u64 (64-(IntKind.wrap .u64 (x0))))))-(IntKind.wrap .u64 ((IntKind.wrap .u64 (Int.tdiv (wN .u64 (shl .u64 a0 (IntKind.wrap .u64 (x0))) (shr .u64 a1 (IntKind.wrap .u64 (64-(IntKind.wrap .u64 (x0)))))) (shr .u64 (shl .u64 a2 (IntKind.wrap .u64 (x0))) 32)))*(shr .u64 (shl .u64 a2 (IntKind.wrap .u64 (x0))) 32)))))).bind fun z=>
      bif !(decide (z.2.2.1 = 0)) then ((ZE k k z.1 z.2.1 z.2.2.1 z.2.2.2.1 z.2.2.2.2.2.2.1 z.2.2.2.2.2.2.2 (IntKind.wrap .u64 ((IntKind.wrap .u64 ((IntKind.wrap .u64 ((IntKind.wrap .u64 (z.2.2.2.2.1*4294967296))+z.2.2.2.2.2.1))-(IntKind.wrap .u64 (z.2.2.2.2.2.2.2*z.1))))-(IntKind.wrap .u64 ((IntKind.wrap .u64 (Int.tdiv (IntKind.wrap .u64 ((IntKind.wrap .u64 ((IntKind.wrap .u64 (z.2.2.2.2.1*4294967296))+z.2.2.2.2.2.1))-(IntKind.wrap .u64 (z.2.2.2.2.2.2.2*z.1)))) z.2.2.1))*z.2.2.1)))) (IntKind.wrap .u64 ((IntKind.wrap .u64 ((IntKind.wrap .u64 (z.2.2.2.2.1*4294967296))+z.2.2.2.2.2.1))-(IntKind.wrap .u64 (z.2.2.2.2.2.2.2*z.1)))) (IntKind.wrap .u64 (Int.tdiv (IntKind.wrap .u64 ((IntKind.wrap .u64 ((IntKind.wrap .u64 (z.2.2.2.2.1*4294967296))+z.2.2.2.2.2.1))-(IntKind.wrap .u64 (z.2.2.2.2.2.2.2*z.1)))) z.2.2.1))).bind fun z1=>
       bif !(decide (z1.2.1<0)) then some ((IntKind.wrap .u64 ((IntKind.wrap .u64 (z1.2.2.2.1*4294967296))+z1.2.2.2.2.2)),(shr .u64 (IntKind.wrap .u64 ((IntKind.wrap .u64 ((IntKind.wrap .u64 (z1.2.2.2.2.1*4294967296))+z1.2.2.1))-(IntKind.wrap .u64 (z1.2.2.2.2.2*z1.1)))) z1.2.1))
       else none)
      else none)
     else none)
    else none)
   else none)
  else none)
 else none
def OG (k:Nat)(a0 a1 a2:Int):Option fa:=
 bif decide (a0<0) then some (0,false)
 else bif decide (a1<0) then some (0,false)
 else(VN k a2).bind fun x0=>
 bif !x0 then some (0,false)
 else(J4 k (IntKind.wrap .u64 (a0)) (IntKind.wrap .u64 (a1))).bind fun x1=>
 (OF k (Int.tmod x1.1 10000) x1.2 10000).bind fun x2=>
 (J4 k x2.1 (IntKind.wrap .u64 ((zA (10000-a2))))).bind fun x3=>
 (DG k x3.2 (IntKind.wrap .u64 (Int.tdiv (IntKind.wrap .u64 (x2.2*(IntKind.wrap .u64 ((zA (10000-a2)))))) 10000)) 0).bind fun x4=>
 bif decide ((IntKind.wrap .u64 (Int.tdiv x1.1 10000)) > 0) then (bif decide ((IntKind.wrap .u64 ((zA (10000-a2))))>0) then some (0,false)
  else bif decide ((IntKind.wrap .u64 (x3.1+x4.2))>0) then some (0,false)
  else bif decide (x4.1>9223372036854775807) then some (0,false)
  else some ((zA (x4.1)),true))
 else bif decide ((IntKind.wrap .u64 (x3.1+x4.2))>0) then some (0,false)
 else bif decide (x4.1>9223372036854775807) then some (0,false)
 else some ((zA (x4.1)),true)
abbrev ZK:Type:=Int→Int→AC→Int→Int→Option vX
def Fm (k:Nat)(rec:ZK)(s4 s5:Int)(s9:AC)(ax aR:Int):Option vX:=
 bif decide (aR < ax) then (bif zB aR s9.length then ((DG k s5 (IntKind.wrap .u64 ((s9.getD aR.toNat 0))) 0).bind fun x0=>
   rec (zA (s4+(zA ((shr .i64 (s9.getD aR.toNat 0) 63)+(zA (x0.2)))))) x0.1 s9 ax (zA (aR+1)))
  else none)
 else some (s4,s5)
def Fl (k:Nat):Nat→ZK
 |0,_,_,_,_,_=>none
 |n+1,s4,s5,s9,ax,aR=>Fm k (Fl k n) s4 s5 s9 ax aR
def Fk (k:Nat)(a0:AC):Option fa:=
 (Fl k k 0 0 a0 (a0.length:Int) 0).bind fun z=>
 bif !(decide (z.1=(shr .i64 (zA (z.2)) 63))) then some (0,false)
 else some ((zA (z.2)),true)
abbrev ZM:Type:=AC→AC→List vX→Int→Int→AC→Option (AC⊕fa)
def Fq (k:Nat)(rec:ZM)(s1 s2:AC)(ko:List vX)(aV fw:Int)(r0:AC):Option (AC⊕fa):=
 bif decide (fw < aV) then (bif zB fw ko.length then (bif zB fw s1.length then (bif zB fw s2.length then ((OG k (s1.getD fw.toNat 0) (s2.getD fw.toNat 0) (ko.getD fw.toNat (0,0)).2).bind fun x0=>
     bif !x0.2 then some (.inr (0,false))
     else bif zQ (r0.length+1) 8 then(rec s1 s2 ko aV (zA (fw+1)) (r0++[x0.1]))
     else none)
    else none)
   else none)
  else none)
 else some (.inl r0)
def Fp (k:Nat):Nat→ZM:=yR (fun _ _ _ _ _ _=>none) (Fq k)
def sM (k:Nat)(a0:List vX)(a1 a2:AC):Option fa:=
 bif !(decide ((a1.length:Int)=(a0.length:Int))) then some (0,false)
 else bif !(decide ((a2.length:Int)=(a0.length:Int))) then some (0,false)
 else(Fp k k a1 a2 a0 (a0.length:Int) 0 []).bind fun z=>
 match z with
 |.inl z1=>(Fk k z1).bind fun x1=>
  some (x1.1,x1.2)
 |.inr z2=>some (z2.1,z2.2)
def O4 (k:Nat)(a0:jL)(a1 a2:Int):Option (Int×jL):=
 (LG k a0 a1).bind fun x0=>
 bif !x0 then some (1,a0)
 else(vF k a2 0 1099511627776).bind fun x1=>
 bif !x1 then some (1,a0)
 else(F1 k a0.2.2.2.2.2.2.2.2.2.2.2.1).bind fun x2=>
 bif zB a0.2.2.2.2.2.2.2.2.2.2.2.2.2.2.2.2.1 x2.length then ((qd k (x2.getD a0.2.2.2.2.2.2.2.2.2.2.2.2.2.2.2.2.1.toNat []) a1 a2).bind fun x3=>
  bif zB a0.2.2.2.2.2.2.2.2.2.2.2.2.2.2.2.2.1 x2.length then (let y0:EQ:=(x2.set a0.2.2.2.2.2.2.2.2.2.2.2.2.2.2.2.2.1.toNat x3)
   bif zB a0.2.2.2.2.2.2.2.2.2.2.2.2.2.2.2.2.1 y0.length then ((sM k a0.2.1 a0.2.2.2.2.2.2.2.2.2.2.1 (y0.getD a0.2.2.2.2.2.2.2.2.2.2.2.2.2.2.2.2.1.toNat [])).bind fun x4=>
    bif zB a0.2.2.2.2.2.2.2.2.2.2.2.2.2.2.2.2.1 a0.2.2.2.2.2.2.1.length then (bif !x4.2 then some (8,a0)
     else bif decide (x4.1>1152921504606846976) then some (8,a0)
     else bif decide (x4.1 < (a0.2.2.2.2.2.2.1.getD a0.2.2.2.2.2.2.2.2.2.2.2.2.2.2.2.2.1.toNat (0, 0, 0)).2.1) then (bif decide ((zA ((a0.2.2.2.2.2.2.1.getD a0.2.2.2.2.2.2.2.2.2.2.2.2.2.2.2.2.1.toNat (0,0,0)).1+x4.1))<0) then some (9,a0)
      else(gk k a0.2.2.2.2.2.2.1 a0.2.2.2.2.2.2.2.1 a0.2.2.2.2.2.2.2.2.1 a0.2.2.2.2.2.2.2.2.2.1).bind fun x5=>
      bif zB a0.2.2.2.2.2.2.2.2.2.2.2.2.2.2.2.2.1 x5.1.length then (let y1:List zI:=(x5.1.set a0.2.2.2.2.2.2.2.2.2.2.2.2.2.2.2.2.1.toNat ((x5.1.getD a0.2.2.2.2.2.2.2.2.2.2.2.2.2.2.2.2.1.toNat (0,0,0)).1,x4.1,(x5.1.getD a0.2.2.2.2.2.2.2.2.2.2.2.2.2.2.2.2.1.toNat (0,0,0)).2.2))
       some (0,(jK a0 (y1,x5.2.1,x5.2.2.1,x5.2.2.2,a0.2.2.2.2.2.2.2.2.2.2.1,y0,a0.2.2.2.2.2.2.2.2.2.2.2.2))))
      else none)
     else(gk k a0.2.2.2.2.2.2.1 a0.2.2.2.2.2.2.2.1 a0.2.2.2.2.2.2.2.2.1 a0.2.2.2.2.2.2.2.2.2.1).bind fun x6=>
     bif zB a0.2.2.2.2.2.2.2.2.2.2.2.2.2.2.2.2.1 x6.1.length then (let y2:List zI:=(x6.1.set a0.2.2.2.2.2.2.2.2.2.2.2.2.2.2.2.2.1.toNat ((x6.1.getD a0.2.2.2.2.2.2.2.2.2.2.2.2.2.2.2.2.1.toNat (0,0,0)).1,x4.1,(x6.1.getD a0.2.2.2.2.2.2.2.2.2.2.2.2.2.2.2.2.1.toNat (0,0,0)).2.2))
      some (0,(jK a0 (y2,x6.2.1,x6.2.2.1,x6.2.2.2,a0.2.2.2.2.2.2.2.2.2.2.1,y0,a0.2.2.2.2.2.2.2.2.2.2.2.2))))
     else none)
    else none)
   else none)
  else none)
 else none
def O5 (k:Nat)(a0 a1:Int):Option fa:=
 bif decide (a1 > 0) then (bif decide (a0>(zA (9223372036854775807-a1))) then some (0,false)
  else bif decide (a1 < 0) then (bif decide (a0<(zA ((-9223372036854775808)-a1))) then some (0,false)
   else some ((zA (a0+a1)),true))
  else some ((zA (a0+a1)),true))
 else bif decide (a1 < 0) then (bif decide (a0<(zA ((-9223372036854775808)-a1))) then some (0,false)
  else some ((zA (a0+a1)),true))
 else some ((zA (a0+a1)),true)
def NJ (k:Nat)(bx bF aT:Int):Option Bool:=
 bif decide (bx > (-4611686018427387904)) then (bif decide (bx < 4611686018427387904) then (bif decide (bF ≥ 0) then (bif decide (bF ≤ 2305843009213693952) then (bif decide (aT≥0) then some (decide (aT≤2305843009213693952))
     else some false)
    else some false)
   else some false)
  else some false)
 else some false
def Kt (k:Nat)(a0:zI)(a1:Int):Option (zI×Int):=
 (O5 k a0.1 a1).bind fun x0=>
 bif !x0.2 then some (a0,8)
 else(NJ k x0.1 a0.2.1 a0.2.2).bind fun x1=>
 bif !x1 then some (a0,8)
 else some ((x0.1,a0.2),0)
def Gp (k:Nat)(a0:zI)(a1:Int):Option (zI×Int):=
 (Kt k a0 a1).bind fun x0=>
 some (x0.1,x0.2)
def xr (k:Nat)(bx bF aT a1:Int):Option Int:=
 some (vZ false (zA (aT-a1)) 0)
def Gq (k:Nat)(a0:zI)(a1 a2:Int):Option (zI×Int):=
 (Kt k a0 (zA (0-a1))).bind fun x0=>
 bif decide (x0.2 = 0) then (bif decide (a2 = 1) then ((xr k a0.1 a0.2.1 a0.2.2 a1).bind fun x1=>
   some ((x0.1.1,x0.1.2.1,x1),x0.2))
  else bif decide (a2 = 2) then ((xr k a0.1 a0.2.1 a0.2.2 a1).bind fun x2=>
   some ((x0.1.1,x0.1.2.1,x2),x0.2))
  else some (x0.1,x0.2))
 else some (x0.1,x0.2)
def Gr (k:Nat)(a0:zI)(a1:Int):Option Int:=
 bif decide (a1=3) then some (zA ((zA (a0.1+a0.2.1))-a0.2.2))
 else some (zA (a0.1+a0.2.1))
def ZS (k:Nat)(a0:jL)(a1 a2 a3:Int):Option (Int×jL):=
 (vF k a2 0 (zA (a0.1-1))).bind fun x0=>
 bif !x0 then some (1,a0)
 else(vF k a3 1 1099511627776).bind fun x1=>
 bif !x1 then some (1,a0)
 else bif zB a2 a0.2.2.2.2.2.2.1.length then ((Gp k (a0.2.2.2.2.2.2.1.getD a2.toNat (0,0,0)) a3).bind fun x2=>
  bif decide (a1 = 11) then ((Gq k (a0.2.2.2.2.2.2.1.getD a2.toNat (0,0,0)) a3 3).bind fun x3=>
   (Gr k (a0.2.2.2.2.2.2.1.getD a2.toNat (0,0,0)) 3).bind fun x4=>
   bif decide (x4<a3) then some (9,a0)
   else bif decide ((zA (a0.2.2.2.2.2.2.2.2.2.2.2.2.2.2.1-a3))<0) then some (9,a0)
   else bif !(decide (x3.2=0)) then some (x3.2,a0)
   else bif decide ((zA (a0.2.2.2.2.2.2.2.2.2.2.2.2.2.2.1-a3))>1152921504606846976) then some (8,a0)
   else(gk k a0.2.2.2.2.2.2.1 a0.2.2.2.2.2.2.2.1 a0.2.2.2.2.2.2.2.2.1 a0.2.2.2.2.2.2.2.2.2.1).bind fun x5=>
   bif zB a2 x5.1.length then some (0,(jK a0 ((x5.1.set a2.toNat x3.1),x5.2.1,x5.2.2.1,x5.2.2.2,(Ht a0 ((zA (a0.2.2.2.2.2.2.2.2.2.2.2.2.2.2.1-a3)),a0.2.2.2.2.2.2.2.2.2.2.2.2.2.2.2)))))
   else none)
  else bif !(decide (x2.2=0)) then some (x2.2,a0)
  else bif decide ((zA (a0.2.2.2.2.2.2.2.2.2.2.2.2.2.2.1+a3))>1152921504606846976) then some (8,a0)
  else(gk k a0.2.2.2.2.2.2.1 a0.2.2.2.2.2.2.2.1 a0.2.2.2.2.2.2.2.2.1 a0.2.2.2.2.2.2.2.2.2.1).bind fun x6=>
  bif zB a2 x6.1.length then some (0,(jK a0 ((x6.1.set a2.toNat x2.1),x6.2.1,x6.2.2.1,x6.2.2.2,(Ht a0 ((zA (a0.2.2.2.2.2.2.2.2.2.2.2.2.2.2.1+a3)),a0.2.2.2.2.2.2.2.2.2.2.2.2.2.2.2)))))
  else none)
 else none
abbrev ZW:Type:=(lG×(List qP)×AC×(List zI)×EQ×AC×EQ)⊕(Int×lG×(List qP))
abbrev ZU:Type:=EQ→Int→Int→lG→List qP→AC→List zI→EQ→AC→EQ→Option ZW
def vAr (k:Nat)(rec:ZU)(gx:EQ)(jc ld:Int)(b0:lG)(r1:List qP)(r2:AC)(r4:List zI)(m5:EQ)(r6:AC)(m7:EQ):Option ZW:=
 bif decide (ld < jc) then (bif zB ld gx.length then ((sM k b0.2.1 r2 (gx.getD ld.toNat [])).bind fun x4=>
   bif !x4.2 then some (.inr (8,b0,r1))
   else bif decide (x4.1>1152921504606846976) then some (.inr (8,b0,r1))
   else bif zB ld r4.length then (let y0:List zI:=(r4.set ld.toNat ((r4.getD ld.toNat (0,0,0)).1,x4.1,(r4.getD ld.toNat (0,0,0)).2.2))
    rec gx jc (zA (ld+1)) b0 r1 r2 y0 m5 r6 m7)
   else none)
  else none)
 else some (.inl (b0,r1,r2,r4,m5,r6,m7))
def ZX (k:Nat):Nat→ZU:=yR (fun _ _ _ _ _ _ _ _ _ _=>none) (vAr k)
def yW9 (k:Nat)(a0:jL)(a1 a2:Int):Option (Int×jL):=
 (LG k a0 a1).bind fun x0=>
 bif !x0 then some (1,a0)
 else(vF k a2 0 1048576).bind fun x1=>
 bif !x1 then some (1,a0)
 else(qd k a0.2.2.2.2.2.2.2.2.2.2.1 a1 a2).bind fun x2=>
 (gk k a0.2.2.2.2.2.2.1 a0.2.2.2.2.2.2.2.1 a0.2.2.2.2.2.2.2.2.1 a0.2.2.2.2.2.2.2.2.2.1).bind fun x3=>
 (ZX k k a0.2.2.2.2.2.2.2.2.2.2.2.1 (a0.2.2.2.2.2.2.2.2.2.2.2.1.length:Int) 0 (lB a0) a0.2.2.2.2.2.2.2.2.2.2.2.2.2.2.2.2.2 x2 x3.1 x3.2.1 x3.2.2.1 x3.2.2.2).bind fun z=>
 match z with
 |.inl z1=>some (0,(jK z1.1 (vYe z1 (z1.2.2.1,(WQ z1.1 z1.2.1)))))
 |.inr z2=>some (z2.1,(vS z2.2.1 z2.2.2))
def GW (k:Nat)(a0:jL)(a1:zC):Option (Int×jL):=
 bif decide (a1.1 = 1) then ((O3 k a0 a1.2).bind fun x0=>
  some (x0.1,x0.2))
 else bif decide (a1.1 = 2) then ((xN k a0 a1).bind fun x1=>
  some (x1.1,x1.2))
 else bif decide (a1.1 = 3) then ((xN k a0 a1).bind fun x2=>
  some (x2.1,x2.2))
 else bif decide (a1.1 = 4) then ((xN k a0 a1).bind fun x3=>
  some (x3.1,x3.2))
 else bif decide (a1.1 = 5) then ((xO k a0 a1).bind fun x4=>
  some (x4.1,x4.2))
 else bif decide (a1.1 = 6) then ((xO k a0 a1).bind fun x5=>
  some (x5.1,x5.2))
 else bif decide (a1.1 = 7) then ((xO k a0 a1).bind fun x6=>
  some (x6.1,x6.2))
 else bif decide (a1.1 = 8) then ((O4 k a0 a1.2.1 a1.2.2.1).bind fun x7=>
  some (x7.1,x7.2))
 else bif decide (a1.1 = 10) then ((ZS k a0 a1.1 a1.2.1 a1.2.2.1).bind fun x8=>
  some (x8.1,x8.2))
 else bif decide (a1.1 = 11) then ((ZS k a0 a1.1 a1.2.1 a1.2.2.1).bind fun x9=>
  some (x9.1,x9.2))
 else bif decide (a1.1 = 12) then ((yW9 k a0 a1.2.1 a1.2.2.1).bind fun cq=>
  some (cq.1,cq.2))
 else some (0,a0)
def BD (k:Nat)(di:Int)(dO:List vX)(dP dj cf a1:Int):Option Bool:=
 some (decide (a1=dj))
def qg (k:Nat)(a0 a1:Int)(a2:AC):Option qP:=
 some (a0,a1,(bif (Nat.blt 0 a2.length) then(a2.getD 0 0) else 0),(bif (Nat.blt 1 a2.length) then(a2.getD 1 0) else 0),(bif (Nat.blt 2 a2.length) then(a2.getD 2 0) else 0),(bif (Nat.blt 3 a2.length) then(a2.getD 3 0) else 0),(bif (Nat.blt 4 a2.length) then(a2.getD 4 0) else 0),(bif (Nat.blt 5 a2.length) then(a2.getD 5 0) else 0))
abbrev Z0:Type:=Int×(List zI)×EQ×AC×EQ×AC×EQ×(List zC)×AC×Int×Bool×Int×Int×Bool×(List qP)
abbrev ZZ:Type:=List zC→Int→Int→Int→List zI→EQ→AC→EQ→AC→EQ→List zC→AC→Int→Bool→Int→Int→Bool→List qP→Option Z0
def FU (k:Nat)(rec:ZZ)(ax:List zC)(aR dh af:Int)(ai:List zI)(aj:EQ)(ah:AC)(aY:EQ)(bp:AC)(bq:EQ)(dQ:List zC)(dR:AC)(dU:Int)(bY:Bool)(aw bG:Int)(aU:Bool)(r2:List qP):Option Z0:=
 bif decide (dh < aR) then (bif zB dh ax.length then ((qg k (ax.getD dh.toNat (0,0,0,0,0,0,0)).2.1 22 [(ax.getD dh.toNat (0,0,0,0,0,0,0)).1]).bind fun x0=>
   bif zQ (r2.length+1) 64 then(rec ax aR (zA (dh+1)) af ai aj ah aY bp bq dQ dR dU bY aw bG aU (r2++[x0]))
   else none)
  else none)
 else some (af,ai,aj,ah,aY,bp,bq,dQ,dR,dU,bY,aw,bG,aU,r2)
def FT (k:Nat):Nat→ZZ
 |0,_,_,_,_,_,_,_,_,_,_,_,_,_,_,_,_,_,_=>none
 |n+1,ax,aR,dh,af,ai,aj,ah,aY,bp,bq,dQ,dR,dU,bY,aw,bG,aU,r2=>FU k (FT k n) ax aR dh af ai aj ah aY bp bq dQ dR dU bY aw bG aU r2
abbrev Z1:Type:=List zI→Int→Int→Int→List zI→EQ→AC→EQ→AC→EQ→List zC→AC→Int→Bool→Int→Int→Bool→List qP→Option Z0
def FW (k:Nat)(rec:Z1)(lI:List zI)(fx mw af:Int)(ai:List zI)(aj:EQ)(ah:AC)(aY:EQ)(bp:AC)(bq:EQ)(dQ:List zC)(dR:AC)(dU:Int)(bY:Bool)(aw bG:Int)(aU:Bool)(r2:List qP):Option Z0:=
 bif decide (mw < fx) then (bif zB mw lI.length then ((qg k mw 23 [(lI.getD mw.toNat (0,0,0)).1]).bind fun x1=>
   bif zQ (r2.length+1) 64 then(rec lI fx (zA (mw+1)) af ai aj ah aY bp bq dQ dR dU bY aw bG aU (r2++[x1]))
   else none)
  else none)
 else some (af,ai,aj,ah,aY,bp,bq,dQ,dR,dU,bY,aw,bG,aU,r2)
def Kp (k:Nat):Nat→Z1
 |0,_,_,_,_,_,_,_,_,_,_,_,_,_,_,_,_,_,_=>none
 |n+1,lI,fx,mw,af,ai,aj,ah,aY,bp,bq,dQ,dR,dU,bY,aw,bG,aU,r2=>FW k (Kp k n) lI fx mw af ai aj ah aY bp bq dQ dR dU bY aw bG aU r2
def O1 (k:Nat)(mo:Int)(qx:List zI)(qy:EQ)(qz:AC)(re:EQ)(rf:AC)(rj:EQ)(mq:List zC)(rp:AC)(rq:Int)(rr:Bool):Option Ro:=
 (FT k k mq (mq.length:Int) 0 mo qx qy qz re rf rj mq rp rq rr 0 0 false []).bind fun z=>
 (Kp k k z.2.1 (z.2.1.length:Int) 0 z.1 z.2.1 z.2.2.1 z.2.2.2.1 z.2.2.2.2.1 z.2.2.2.2.2.1 z.2.2.2.2.2.2.1 z.2.2.2.2.2.2.2.1 z.2.2.2.2.2.2.2.2.1 z.2.2.2.2.2.2.2.2.2.1 z.2.2.2.2.2.2.2.2.2.2.1 z.2.2.2.2.2.2.2.2.2.2.2.1 z.2.2.2.2.2.2.2.2.2.2.2.2.1 z.2.2.2.2.2.2.2.2.2.2.2.2.2.1 z.2.2.2.2.2.2.2.2.2.2.2.2.2.2).bind fun z1=>
 some (ke z1 ([],z1.2.2.2.2.2.2.2.2.1,z1.2.2.2.2.2.2.2.2.2.1,true,z1.2.2.2.2.2.2.2.2.2.2.2.2.2.2))
def Wd (k:Nat)(cd bg bC ct bO ca bR a1:Int):Option Bool:=
 some (decide (a1>bR))
def FZ (k:Nat)(di:Int)(dO:List vX)(dP dj cf a1:Int):Option Bool:=
 bif decide (a1 > 0) then (bif decide (a1 < dj) then (bif !(decide (cf=0)) then some (decide ((Int.tmod a1 cf)=0))
   else none)
  else some false)
 else some false
def Vq (k:Nat)(cd bg bC ct bO ca bR a1:Int):Option Bool:=
 bif decide (a1≥ca) then some (decide (a1≤bR))
 else some false
def Vp (k:Nat)(cd bg bC ct bO ca bR a1:Int):Option Bool:=
 (Vq k cd bg bC ct bO ca bR a1).bind fun x0=>
 some x0
def EU (k:Nat)(rec:Y2)(s8:List zC)(s9 ax af:Int)(r1:List zC):Option Y4:=
 bif decide (ax < s9) then (bif zB ax s8.length then ((Vp k (s8.getD ax.toNat (0,0,0,0,0,0,0)).1 (s8.getD ax.toNat (0,0,0,0,0,0,0)).2.1 (s8.getD ax.toNat (0,0,0,0,0,0,0)).2.2.1 (s8.getD ax.toNat (0,0,0,0,0,0,0)).2.2.2.1 (s8.getD ax.toNat (0,0,0,0,0,0,0)).2.2.2.2.1 (s8.getD ax.toNat (0,0,0,0,0,0,0)).2.2.2.2.2.1 (s8.getD ax.toNat (0,0,0,0,0,0,0)).2.2.2.2.2.2 af).bind fun x0=>
   bif x0 then (bif zQ (r1.length + 1) 56 then (let y0:List zC:=(r1++[(s8.getD ax.toNat (0,0,0,0,0,0,0))])
     rec s8 s9 (zA (ax+1)) af y0)
    else none)
   else rec s8 s9 (zA (ax+1)) af r1)
  else none)
 else some r1
def JN (k:Nat):Nat→Y2
 |0,_,_,_,_,_=>none
 |n+1,s8,s9,ax,af,r1=>EU k (JN k n) s8 s9 ax af r1
def Vo (k:Nat)(a0:List zC)(cW:Int):Option (List zC):=
 (JN k k a0 (a0.length:Int) 0 cW []).bind fun z=>
 some z
def ET (k:Nat)(a0:List zC)(a1:Int):Option (List zC):=
 (Vo k a0 a1).bind fun x0=>
 some x0
def Vv (k:Nat)(cd bg bC ct bO ca bR gP cw du ek dv iV iW:Int):Option Bool:=
 bif decide (bg=cw) then some (!(decide (bO=3)))
 else some false
abbrev Z9:Type:=List zC→Int→Int→Int→Int→Int→Int→Int→Int→Int→Option (Unit⊕Int)
def E1 (k:Nat)(rec:Z9)(s0:List zC)(s7 s8 af ai aj ah aY bp bq:Int):Option (Unit⊕Int):=
 bif decide (s8 < s7) then (bif zB s8 s0.length then ((Vv k (s0.getD s8.toNat (0,0,0,0,0,0,0)).1 (s0.getD s8.toNat (0,0,0,0,0,0,0)).2.1 (s0.getD s8.toNat (0,0,0,0,0,0,0)).2.2.1 (s0.getD s8.toNat (0,0,0,0,0,0,0)).2.2.2.1 (s0.getD s8.toNat (0,0,0,0,0,0,0)).2.2.2.2.1 (s0.getD s8.toNat (0,0,0,0,0,0,0)).2.2.2.2.2.1 (s0.getD s8.toNat (0,0,0,0,0,0,0)).2.2.2.2.2.2 af ai aj ah aY bp bq).bind fun x0=>
   bif x0 then some (.inr s8)
   else rec s0 s7 (zA (s8+1)) af ai aj ah aY bp bq)
  else none)
 else some (.inl ())
def JS (k:Nat):Nat→Z9
 |0,_,_,_,_,_,_,_,_,_,_=>none
 |n+1,s0,s7,s8,af,ai,aj,ah,aY,bp,bq=>E1 k (JS k n) s0 s7 s8 af ai aj ah aY bp bq
def Vw (k:Nat)(a0:List zC)(my fM mz dy eu ew fO:Int):Option Int:=
 (JS k k a0 (a0.length:Int) 0 my fM mz dy eu ew fO).bind fun z=>
 match z with
 |.inl z1=>some (-1)
 |.inr z2=>some z2
def Oo (k:Nat)(a0:List zC)(my fM mz dy eu ew fO:Int):Option Bool:=
 (Vw k a0 my fM mz dy eu ew fO).bind fun x0=>
 some (decide (x0≥0))
def Vz (k:Nat)(cd bg bC ct bO ca bR:Int)(a1:List fa)(a2:List zC):Option (Bool×(List fa)):=
 bif !(Option.getD (List.lookup bg a1) false) then some (true,((bg,true)::a1))
 else bif decide (bO = 3) then ((Oo k a2 cd bg bC ct bO ca bR).bind fun x0=>
  some ((!x0),((bg,true)::a1)))
 else some (false,((bg,true)::a1))
abbrev qSn:Type:=(List fa)×(List zC)×(List zC)
abbrev qYe:Type:=List zC→Int→Int→List fa→List zC→List zC→Option qSn
def E3 (k:Nat)(rec:qYe)(s8:List zC)(s9 ax:Int)(p1:List fa)(aZ r3:List zC):Option qSn:=
 bif decide (ax < s9) then (bif zB ax s8.length then ((Vz k (s8.getD ax.toNat (0,0,0,0,0,0,0)).1 (s8.getD ax.toNat (0,0,0,0,0,0,0)).2.1 (s8.getD ax.toNat (0,0,0,0,0,0,0)).2.2.1 (s8.getD ax.toNat (0,0,0,0,0,0,0)).2.2.2.1 (s8.getD ax.toNat (0,0,0,0,0,0,0)).2.2.2.2.1 (s8.getD ax.toNat (0,0,0,0,0,0,0)).2.2.2.2.2.1 (s8.getD ax.toNat (0,0,0,0,0,0,0)).2.2.2.2.2.2 p1 aZ).bind fun x0=>
   bif x0.1 then (bif zQ (r3.length + 1) 56 then (let y0:List zC:=(r3++[(s8.getD ax.toNat (0,0,0,0,0,0,0))])
     rec s8 s9 (zA (ax+1)) x0.2 aZ y0)
    else none)
   else rec s8 s9 (zA (ax+1)) x0.2 aZ r3)
  else none)
 else some (p1,aZ,r3)
def E2 (k:Nat):Nat→qYe
 |0,_,_,_,_,_,_=>none
 |n+1,s8,s9,ax,p1,aZ,r3=>E3 k (E2 k n) s8 s9 ax p1 aZ r3
def Vy (k:Nat)(a0:List zC)(cW:List fa)(aa9:List zC):Option ((List zC)×(List fa)):=
 (E2 k k a0 (a0.length:Int) 0 cW aa9 []).bind fun z=>
 some (z.2.2,z.1)
def JT (k:Nat)(a0:List zC)(a1:Int):Option (List zC):=
 (ET k a0 a1).bind fun x0=>
 (Vy k x0 [] x0).bind fun x1=>
 some x1.1
def Em (k:Nat)(av:List zI)(aA:EQ)(az:AC)(ay:EQ)(gP cw du ek dv iV iW:Int):Option Bool:=
 bif decide (cw ≥ 0) then (bif decide (cw < (av.length : Int)) then (bif decide (du ≥ 0) then (bif decide (du < (av.length : Int)) then (bif !(decide (cw = du)) then (bif decide (ek ≥ 1) then (bif decide (ek ≤ 1099511627776) then (bif decide (dv≥1) then some (decide (dv≤3))
        else some false)
       else some false)
      else some false)
     else some false)
    else some false)
   else some false)
  else some false)
 else some false
def Vl (k:Nat)(cd bg bC ct bO ca bR:Int)(cV:List zI)(iY:EQ)(iZ:AC)(ja:EQ):Option Bool:=
 (Em k cV iY iZ ja cd bg bC ct bO ca bR).bind fun x0=>
 some (!x0)
abbrev qSu:Type:=List zC→Int→Int→List zI→EQ→AC→EQ→Option (Unit⊕Int)
def ES (k:Nat)(rec:qSu)(s0:List zC)(s7 s8:Int)(af:List zI)(ai:EQ)(aj:AC)(ah:EQ):Option (Unit⊕Int):=
 bif decide (s8 < s7) then (bif zB s8 s0.length then ((Vl k (s0.getD s8.toNat (0,0,0,0,0,0,0)).1 (s0.getD s8.toNat (0,0,0,0,0,0,0)).2.1 (s0.getD s8.toNat (0,0,0,0,0,0,0)).2.2.1 (s0.getD s8.toNat (0,0,0,0,0,0,0)).2.2.2.1 (s0.getD s8.toNat (0,0,0,0,0,0,0)).2.2.2.2.1 (s0.getD s8.toNat (0,0,0,0,0,0,0)).2.2.2.2.2.1 (s0.getD s8.toNat (0,0,0,0,0,0,0)).2.2.2.2.2.2 af ai aj ah).bind fun x0=>
   bif x0 then some (.inr s8)
   else rec s0 s7 (zA (s8+1)) af ai aj ah)
  else none)
 else some (.inl ())
def JL (k:Nat):Nat→qSu
 |0,_,_,_,_,_,_,_=>none
 |n+1,s0,s7,s8,af,ai,aj,ah=>ES k (JL k n) s0 s7 s8 af ai aj ah
def Vm (k:Nat)(a0:List zC)(bK:List zI)(cy:EQ)(cz:AC)(cB:EQ):Option Int:=
 (JL k k a0 (a0.length:Int) 0 bK cy cz cB).bind fun z=>
 match z with
 |.inl z1=>some (-1)
 |.inr z2=>some z2
def Oj (k:Nat)(a0:List zC)(bK:List zI)(cy:EQ)(cz:AC)(cB:EQ):Option Bool:=
 (Vm k a0 bK cy cz cB).bind fun x0=>
 some (decide (x0≥0))
abbrev qV3:Type:=AC×AC×EQ
abbrev qZo:Type:=List zC→Int→Int→AC→AC→EQ→Option qV3
def EJ (k:Nat)(rec:qZo)(ba:List zC)(bX bm:Int)(r2 r3:AC)(m4:EQ):Option qV3:=
 bif decide (bm < bX) then (bif zB bm ba.length then (bif zB (ba.getD bm.toNat (0, 0, 0, 0, 0, 0, 0)).2.1 r2.length then (bif zB (ba.getD bm.toNat (0, 0, 0, 0, 0, 0, 0)).2.1 r2.length then (let y0:AC:=(r2.set (ba.getD bm.toNat (0,0,0,0,0,0,0)).2.1.toNat (zA ((r2.getD (ba.getD bm.toNat (0,0,0,0,0,0,0)).2.1.toNat 0)-(ba.getD bm.toNat (0,0,0,0,0,0,0)).2.2.2.1)))
     bif zB (ba.getD bm.toNat (0, 0, 0, 0, 0, 0, 0)).2.2.1 y0.length then (bif zB (ba.getD bm.toNat (0, 0, 0, 0, 0, 0, 0)).2.2.1 y0.length then (let y1:AC:=(y0.set (ba.getD bm.toNat (0,0,0,0,0,0,0)).2.2.1.toNat (zA ((y0.getD (ba.getD bm.toNat (0,0,0,0,0,0,0)).2.2.1.toNat 0)+(ba.getD bm.toNat (0,0,0,0,0,0,0)).2.2.2.1)))
       bif zB (ba.getD bm.toNat (0, 0, 0, 0, 0, 0, 0)).2.1 m4.length then (bif zB (ba.getD bm.toNat (0, 0, 0, 0, 0, 0, 0)).2.2.1 (m4.getD (ba.getD bm.toNat (0, 0, 0, 0, 0, 0, 0)).2.1.toNat []).length then (bif zB (ba.getD bm.toNat (0, 0, 0, 0, 0, 0, 0)).2.2.1 (m4.getD (ba.getD bm.toNat (0, 0, 0, 0, 0, 0, 0)).2.1.toNat []).length then (let y2:EQ:=(m4.set (ba.getD bm.toNat (0,0,0,0,0,0,0)).2.1.toNat ((m4.getD (ba.getD bm.toNat (0,0,0,0,0,0,0)).2.1.toNat []).set (ba.getD bm.toNat (0,0,0,0,0,0,0)).2.2.1.toNat (zA (((m4.getD (ba.getD bm.toNat (0,0,0,0,0,0,0)).2.1.toNat []).getD (ba.getD bm.toNat (0,0,0,0,0,0,0)).2.2.1.toNat 0)+(ba.getD bm.toNat (0,0,0,0,0,0,0)).2.2.2.1))))
          bif zB (ba.getD bm.toNat (0, 0, 0, 0, 0, 0, 0)).2.2.1 y2.length then (bif zB (ba.getD bm.toNat (0, 0, 0, 0, 0, 0, 0)).2.1 (y2.getD (ba.getD bm.toNat (0, 0, 0, 0, 0, 0, 0)).2.2.1.toNat []).length then (bif zB (ba.getD bm.toNat (0, 0, 0, 0, 0, 0, 0)).2.1 (y2.getD (ba.getD bm.toNat (0, 0, 0, 0, 0, 0, 0)).2.2.1.toNat []).length then (let y3:EQ:=(y2.set (ba.getD bm.toNat (0,0,0,0,0,0,0)).2.2.1.toNat ((y2.getD (ba.getD bm.toNat (0,0,0,0,0,0,0)).2.2.1.toNat []).set (ba.getD bm.toNat (0,0,0,0,0,0,0)).2.1.toNat (zA (((y2.getD (ba.getD bm.toNat (0,0,0,0,0,0,0)).2.2.1.toNat []).getD (ba.getD bm.toNat (0,0,0,0,0,0,0)).2.1.toNat 0)-(ba.getD bm.toNat (0,0,0,0,0,0,0)).2.2.2.1))))
             bif !(decide ((ba.getD bm.toNat (0, 0, 0, 0, 0, 0, 0)).2.2.2.2.1 = 3)) then (bif zB (ba.getD bm.toNat (0, 0, 0, 0, 0, 0, 0)).2.1 r3.length then (bif zB (ba.getD bm.toNat (0, 0, 0, 0, 0, 0, 0)).2.1 r3.length then (let y4:AC:=(r3.set (ba.getD bm.toNat (0,0,0,0,0,0,0)).2.1.toNat (zA ((r3.getD (ba.getD bm.toNat (0,0,0,0,0,0,0)).2.1.toNat 0)+(ba.getD bm.toNat (0,0,0,0,0,0,0)).2.2.2.1)))
                rec ba bX (zA (bm+1)) y1 y4 y3)
               else none)
              else none)
             else rec ba bX (zA (bm+1)) y1 r3 y3)
            else none)
           else none)
          else none)
         else none)
        else none)
       else none)
      else none)
     else none)
    else none)
   else none)
  else none)
 else some (r2,r3,m4)
def JH (k:Nat):Nat→qZo
 |0,_,_,_,_,_,_=>none
 |n+1,ba,bX,bm,r2,r3,m4=>EJ k (JH k n) ba bX bm r2 r3 m4
def Oe (k:Nat)(a0:Int)(a1:List zC):Option (AC×AC×EQ):=
 (Bh k a0 0).bind fun x0=>
 (Bh k a0 0).bind fun x1=>
 (EH k a0 0).bind fun x2=>
 (JH k k a1 (a1.length:Int) 0 x0 x1 x2).bind fun z=>
 some (z.1,z.2.1,z.2.2)
def Vd (k:Nat)(cd bg bC ct bO ca bR a1:Int):Option Bool:=
 some (decide (bg=a1))
def EK (k:Nat)(rec:Zf)(s0:List zC)(s7 s8 af:Int):Option (Unit⊕Int):=
 bif decide (s8 < s7) then (bif zB s8 s0.length then ((Vd k (s0.getD s8.toNat (0,0,0,0,0,0,0)).1 (s0.getD s8.toNat (0,0,0,0,0,0,0)).2.1 (s0.getD s8.toNat (0,0,0,0,0,0,0)).2.2.1 (s0.getD s8.toNat (0,0,0,0,0,0,0)).2.2.2.1 (s0.getD s8.toNat (0,0,0,0,0,0,0)).2.2.2.2.1 (s0.getD s8.toNat (0,0,0,0,0,0,0)).2.2.2.2.2.1 (s0.getD s8.toNat (0,0,0,0,0,0,0)).2.2.2.2.2.2 af).bind fun x0=>
   bif x0 then some (.inr s8)
   else rec s0 s7 (zA (s8+1)) af)
  else none)
 else some (.inl ())
def JI (k:Nat):Nat→Zf
 |0,_,_,_,_=>none
 |n+1,s0,s7,s8,af=>EK k (JI k n) s0 s7 s8 af
def Ve (k:Nat)(a0:List zC)(cW:Int):Option Int:=
 (JI k k a0 (a0.length:Int) 0 cW).bind fun z=>
 match z with
 |.inl z1=>some (-1)
 |.inr z2=>some z2
def Of (k:Nat)(a0:List zC)(cW:Int):Option Bool:=
 (Ve k a0 cW).bind fun x0=>
 some (decide (x0≥0))
def EF (k:Nat)(rec:Int→AC→Int→Int→Option Int)(s5:Int)(dh:AC)(bA bE:Int):Option Int:=
 bif decide (bE < bA) then (bif zB bE dh.length then(rec (zA (s5+(dh.getD bE.toNat 0))) dh bA (zA (bE+1)))
  else none)
 else some s5
def EE (k:Nat):Nat→Int→AC→Int→Int→Option Int
 |0,_,_,_,_=>none
 |n+1,s5,dh,bA,bE=>EF k (EE k n) s5 dh bA bE
def Ob (k:Nat)(av:List zI)(aA:EQ)(az:AC)(ay:EQ)(a1:Int):Option Int:=
 bif zB a1 ay.length then ((EE k k 0 (ay.getD a1.toNat []) ((ay.getD a1.toNat []).length:Int) 0).bind fun z=>
  some z)
 else none
def EM (k:Nat)(a0 a1:Int):Option Bool:=
 bif !(decide (a1=(-1))) then some (decide (a0>a1))
 else some false
def Vg (k:Nat)(cd bg bC ct bO ca bR a1 oh rC om:Int)(aba nr:AC)(ez:EQ)(a4:Int)(Rt:List zI)(iy:EQ)(abn:AC)(iz:EQ):Option Bool:=
 bif !(decide (bg=a1)) then some false
 else bif zB a1 nr.length then ((xr k oh rC om (nr.getD a1.toNat 0)).bind fun x0=>
  bif decide (bO = 3) then (bif decide (a4<x0) then some true
   else bif zB a1 iz.length then (bif zB bC (iz.getD a1.toNat []).length then (bif zB a1 ez.length then (bif zB bC (ez.getD a1.toNat []).length then (bif zB a1 iy.length then (bif zB bC (iy.getD a1.toNat []).length then ((EM k (zA (((iz.getD a1.toNat []).getD bC.toNat 0)+((ez.getD a1.toNat []).getD bC.toNat 0))) ((iy.getD a1.toNat []).getD bC.toNat 0)).bind fun x1=>
         some x1)
        else none)
       else none)
      else none)
     else none)
    else none)
   else none)
  else bif zB a1 iz.length then (bif zB bC (iz.getD a1.toNat []).length then (bif zB a1 ez.length then (bif zB bC (ez.getD a1.toNat []).length then (bif zB a1 iy.length then (bif zB bC (iy.getD a1.toNat []).length then ((EM k (zA (((iz.getD a1.toNat []).getD bC.toNat 0)+((ez.getD a1.toNat []).getD bC.toNat 0))) ((iy.getD a1.toNat []).getD bC.toNat 0)).bind fun x2=>
        some x2)
       else none)
      else none)
     else none)
    else none)
   else none)
  else none)
 else none
abbrev qYh:Type:=List zC→Int→Int→Int→Int→Int→Int→AC→AC→EQ→Int→List zI→EQ→AC→EQ→Option (Unit⊕Int)
def EN (k:Nat)(rec:qYh)(s0:List zC)(s7 s8 af aw aC aD:Int)(aZ bU:AC)(bV:EQ)(cg:Int)(je:List zI)(vl:EQ)(vm:AC)(vn:EQ):Option (Unit⊕Int):=
 bif decide (s8 < s7) then (bif zB s8 s0.length then ((Vg k (s0.getD s8.toNat (0,0,0,0,0,0,0)).1 (s0.getD s8.toNat (0,0,0,0,0,0,0)).2.1 (s0.getD s8.toNat (0,0,0,0,0,0,0)).2.2.1 (s0.getD s8.toNat (0,0,0,0,0,0,0)).2.2.2.1 (s0.getD s8.toNat (0,0,0,0,0,0,0)).2.2.2.2.1 (s0.getD s8.toNat (0,0,0,0,0,0,0)).2.2.2.2.2.1 (s0.getD s8.toNat (0,0,0,0,0,0,0)).2.2.2.2.2.2 af aw aC aD aZ bU bV cg je vl vm vn).bind fun x0=>
   bif x0 then some (.inr s8)
   else rec s0 s7 (zA (s8+1)) af aw aC aD aZ bU bV cg je vl vm vn)
  else none)
 else some (.inl ())
def JK (k:Nat):Nat→qYh
 |0,_,_,_,_,_,_,_,_,_,_,_,_,_,_,_=>none
 |n+1,s0,s7,s8,af,aw,aC,aD,aZ,bU,bV,cg,je,vl,vm,vn=>EN k (JK k n) s0 s7 s8 af aw aC aD aZ bU bV cg je vl vm vn
def Vh (k:Nat)(a0:List zC)(cW cX dz cY:Int)(fP eC:AC)(fQ:EQ)(Cq:Int)(eE:List zI)(jg:EQ)(jh:AC)(jk:EQ):Option Int:=
 (JK k k a0 (a0.length:Int) 0 cW cX dz cY fP eC fQ Cq eE jg jh jk).bind fun z=>
 match z with
 |.inl z1=>some (-1)
 |.inr z2=>some z2
def Og (k:Nat)(a0:List zC)(cW cX dz cY:Int)(fP eC:AC)(fQ:EQ)(Cq:Int)(eE:List zI)(jg:EQ)(jh:AC)(jk:EQ):Option Bool:=
 (Vh k a0 cW cX dz cY fP eC fQ Cq eE jg jh jk).bind fun x0=>
 some (decide (x0≥0))
abbrev qZc:Type:=(List zC)×Int×AC×AC×EQ×(List zI)×EQ×AC×EQ×Int×Int×Int×Int×Int
abbrev qR6:Type:=List zC→Int→AC→Int→Int→AC→AC→EQ→List zI→EQ→AC→EQ→Int→Int→Int→Int→Int→Option qZc
def EO (k:Nat)(rec:qR6)(s3:List zC)(aR:Int)(lH:AC)(gx jc:Int)(af ai:AC)(aj:EQ)(aw:List zI)(aC:EQ)(aD:AC)(aF:EQ)(aZ cg cZ dm je:Int):Option qZc:=
 bif decide (jc < gx) then (bif zB jc lH.length then(rec s3 (zA (aR+(lH.getD jc.toNat 0))) lH gx (zA (jc+1)) af ai aj aw aC aD aF aZ cg cZ dm je)
  else none)
 else some (s3,aR,af,ai,aj,aw,aC,aD,aF,aZ,cg,cZ,dm,je)
def Bj (k:Nat):Nat→qR6
 |0,_,_,_,_,_,_,_,_,_,_,_,_,_,_,_,_,_=>none
 |n+1,s3,aR,lH,gx,jc,af,ai,aj,aw,aC,aD,aF,aZ,cg,cZ,dm,je=>EO k (Bj k n) s3 aR lH gx jc af ai aj aw aC aD aF aZ cg cZ dm je
def Oi (k:Nat)(jl vp:AC)(jm:EQ)(cV:List zI)(iY:EQ)(iZ:AC)(ja:EQ)(a2:Int)(a3:List zC):Option Bool:=
 bif zB a2 cV.length then (bif zB a2 jl.length then (bif decide ((zA ((zA ((cV.getD a2.toNat (0,0,0)).1+(cV.getD a2.toNat (0,0,0)).2.1))+(jl.getD a2.toNat 0)))<0) then some true
   else(Ob k cV iY iZ ja a2).bind fun x0=>
   bif zB a2 jm.length then ((Bj k k a3 x0 (jm.getD a2.toNat []) ((jm.getD a2.toNat []).length:Int) 0 jl vp jm cV iY iZ ja a2 (cV.getD a2.toNat (0,0,0)).1 (cV.getD a2.toNat (0,0,0)).2.1 (cV.getD a2.toNat (0,0,0)).2.2 (zA ((zA ((cV.getD a2.toNat (0,0,0)).1+(cV.getD a2.toNat (0,0,0)).2.1))+(jl.getD a2.toNat 0)))).bind fun z=>
    bif zB z.2.2.2.2.2.2.2.2.2.1 z.2.2.2.2.2.2.2.1.length then ((EM k z.2.1 (z.2.2.2.2.2.2.2.1.getD z.2.2.2.2.2.2.2.2.2.1.toNat 0)).bind fun x1=>
     bif x1 then some true
     else(Og k z.1 z.2.2.2.2.2.2.2.2.2.1 z.2.2.2.2.2.2.2.2.2.2.1 z.2.2.2.2.2.2.2.2.2.2.2.1 z.2.2.2.2.2.2.2.2.2.2.2.2.1 z.2.2.1 z.2.2.2.1 z.2.2.2.2.1 z.2.2.2.2.2.2.2.2.2.2.2.2.2 z.2.2.2.2.2.1 z.2.2.2.2.2.2.1 z.2.2.2.2.2.2.2.1 z.2.2.2.2.2.2.2.2.1).bind fun x2=>
     some x2)
    else none)
   else none)
  else none)
 else none
abbrev qL6:Type:=List zC→Int→Int→List zI→EQ→AC→EQ→AC→AC→EQ→AC→Option AC
def ER (k:Nat)(rec:qL6)(s1:List zC)(bX bm:Int)(af:List zI)(ai:EQ)(aj:AC)(ah:EQ)(r2 r3:AC)(m4:EQ)(r5:AC):Option AC:=
 bif decide (bm < bX) then ((Of k s1 bm).bind fun x1=>
  bif x1 then ((Oi k r2 r3 m4 af ai aj ah bm s1).bind fun x2=>
   bif x2 then (bif zQ (r5.length+1) 8 then(rec s1 bX (zA (bm+1)) af ai aj ah r2 r3 m4 (r5++[bm]))
    else none)
   else rec s1 bX (zA (bm+1)) af ai aj ah r2 r3 m4 r5)
  else rec s1 bX (zA (bm+1)) af ai aj ah r2 r3 m4 r5)
 else some r5
def EP (k:Nat):Nat→qL6
 |0,_,_,_,_,_,_,_,_,_,_,_=>none
 |n+1,s1,bX,bm,af,ai,aj,ah,r2,r3,m4,r5=>ER k (EP k n) s1 bX bm af ai aj ah r2 r3 m4 r5
def Bk (k:Nat)(av:List zI)(aA:EQ)(az:AC)(ay:EQ)(a1:List zC):Option AC:=
 (Oe k (av.length:Int) a1).bind fun x0=>
 (EP k k a1 (av.length:Int) 0 av aA az ay x0.1 x0.2.1 x0.2.2 []).bind fun z=>
 some z
def Bl (k:Nat)(av:List zI)(aA:EQ)(az:AC)(ay:EQ)(a1:List zC):Option Bool:=
 bif decide ((a1.length : Int) ≤ 64) then ((Oj k a1 av aA az ay).bind fun x0=>
  bif !x0 then ((Bk k av aA az ay a1).bind fun x1=>
   some (decide ((x1.length:Int)=0)))
  else some false)
 else some false
def U2 (k:Nat)(cd bg bC ct bO ca bR:Int)(cV:List zI)(iY:EQ)(iZ:AC)(ja:EQ):Option Bool:=
 (Em k cV iY iZ ja cd bg bC ct bO ca bR).bind fun x0=>
 some (!x0)
def En (k:Nat)(rec:qSu)(s0:List zC)(s7 s8:Int)(af:List zI)(ai:EQ)(aj:AC)(ah:EQ):Option (Unit⊕Int):=
 bif decide (s8 < s7) then (bif zB s8 s0.length then ((U2 k (s0.getD s8.toNat (0,0,0,0,0,0,0)).1 (s0.getD s8.toNat (0,0,0,0,0,0,0)).2.1 (s0.getD s8.toNat (0,0,0,0,0,0,0)).2.2.1 (s0.getD s8.toNat (0,0,0,0,0,0,0)).2.2.2.1 (s0.getD s8.toNat (0,0,0,0,0,0,0)).2.2.2.2.1 (s0.getD s8.toNat (0,0,0,0,0,0,0)).2.2.2.2.2.1 (s0.getD s8.toNat (0,0,0,0,0,0,0)).2.2.2.2.2.2 af ai aj ah).bind fun x0=>
   bif x0 then some (.inr s8)
   else rec s0 s7 (zA (s8+1)) af ai aj ah)
  else none)
 else some (.inl ())
def Jt (k:Nat):Nat→qSu
 |0,_,_,_,_,_,_,_=>none
 |n+1,s0,s7,s8,af,ai,aj,ah=>En k (Jt k n) s0 s7 s8 af ai aj ah
def U3 (k:Nat)(a0:List zC)(bK:List zI)(cy:EQ)(cz:AC)(cB:EQ):Option Int:=
 (Jt k k a0 (a0.length:Int) 0 bK cy cz cB).bind fun z=>
 match z with
 |.inl z1=>some (-1)
 |.inr z2=>some z2
def NW (k:Nat)(a0:List zC)(bK:List zI)(cy:EQ)(cz:AC)(cB:EQ):Option Bool:=
 (U3 k a0 bK cy cz cB).bind fun x0=>
 some (decide (x0≥0))
def UM (k:Nat)(bx bF aT:Int):Option Bool:=
 (NJ k bx bF aT).bind fun x0=>
 some (!x0)
abbrev qHz:Type:=List zI→Int→Int→Option (Unit⊕Int)
def D9 (k:Nat)(rec:qHz)(s0:List zI)(s7 s8:Int):Option (Unit⊕Int):=
 bif decide (s8 < s7) then (bif zB s8 s0.length then ((UM k (s0.getD s8.toNat (0,0,0)).1 (s0.getD s8.toNat (0,0,0)).2.1 (s0.getD s8.toNat (0,0,0)).2.2).bind fun x0=>
   bif x0 then some (.inr s8)
   else rec s0 s7 (zA (s8+1)))
  else none)
 else some (.inl ())
def Ja (k:Nat):Nat→qHz
 |0,_,_,_=>none
 |n+1,s0,s7,s8=>D9 k (Ja k n) s0 s7 s8
def UN (k:Nat)(a0:List zI):Option Int:=
 (Ja k k a0 (a0.length:Int) 0).bind fun z=>
 match z with
 |.inl z1=>some (-1)
 |.inr z2=>some z2
def NM (k:Nat)(a0:List zI):Option Bool:=
 (UN k a0).bind fun x0=>
 some (decide (x0≥0))
def UK (k:Nat)(a0:Int):Option Bool:=
 bif decide (a0≥(-1)) then some (decide (a0≤2305843009213693952))
 else some false
def UO (k:Nat)(a0:Int):Option Bool:=
 (UK k a0).bind fun x0=>
 some (!x0)
abbrev qPo:Type:=AC→Int→Int→Option (Unit⊕Int)
def Ea (k:Nat)(rec:qPo)(s0:AC)(s7 s8:Int):Option (Unit⊕Int):=
 bif decide (s8 < s7) then (bif zB s8 s0.length then ((UO k (s0.getD s8.toNat 0)).bind fun x0=>
   bif x0 then some (.inr s8)
   else rec s0 s7 (zA (s8+1)))
  else none)
 else some (.inl ())
def Jb (k:Nat):Nat→qPo
 |0,_,_,_=>none
 |n+1,s0,s7,s8=>Ea k (Jb k n) s0 s7 s8
def UP (k:Nat)(a0:AC):Option Int:=
 (Jb k k a0 (a0.length:Int) 0).bind fun z=>
 match z with
 |.inl z1=>some (-1)
 |.inr z2=>some z2
def NN (k:Nat)(a0:AC):Option Bool:=
 (UP k a0).bind fun x0=>
 some (decide (x0≥0))
def Jd (k:Nat)(a0:AC)(a1:Int):Option Bool:=
 bif decide ((a0.length : Int) = a1) then ((NN k a0).bind fun x0=>
  some (!x0))
 else some false
abbrev qKh:Type:=Int→EQ→Int→Int→Option (Unit⊕Bool)
def Ec (k:Nat)(rec:qKh)(s1:Int)(bA:EQ)(bE ba:Int):Option (Unit⊕Bool):=
 bif decide (ba < bE) then (bif zB ba bA.length then ((Jd k (bA.getD ba.toNat []) s1).bind fun x0=>
   bif !x0 then some (.inr false)
   else rec s1 bA bE (zA (ba+1)))
  else none)
 else some (.inl ())
def Je (k:Nat):Nat→qKh
 |0,_,_,_,_=>none
 |n+1,s1,bA,bE,ba=>Ec k (Je k n) s1 bA bE ba
def NQ (k:Nat)(a0:EQ)(a1:Int):Option Bool:=
 bif !(decide ((a0.length:Int)=a1)) then some false
 else(Je k k a1 a0 (a0.length:Int) 0).bind fun z=>
 match z with
 |.inl z1=>some true
 |.inr z2=>some z2
def NK (k:Nat)(a0:Int):Option Bool:=
 bif decide (a0>(-72057594037927936)) then some (decide (a0<72057594037927936))
 else some false
def UQ (k:Nat)(a0:Int):Option Bool:=
 (NK k a0).bind fun x0=>
 some (!x0)
def Eb (k:Nat)(rec:qPo)(s0:AC)(s7 s8:Int):Option (Unit⊕Int):=
 bif decide (s8 < s7) then (bif zB s8 s0.length then ((UQ k (s0.getD s8.toNat 0)).bind fun x0=>
   bif x0 then some (.inr s8)
   else rec s0 s7 (zA (s8+1)))
  else none)
 else some (.inl ())
def Jc (k:Nat):Nat→qPo
 |0,_,_,_=>none
 |n+1,s0,s7,s8=>Eb k (Jc k n) s0 s7 s8
def UR (k:Nat)(a0:AC):Option Int:=
 (Jc k k a0 (a0.length:Int) 0).bind fun z=>
 match z with
 |.inl z1=>some (-1)
 |.inr z2=>some z2
def NO (k:Nat)(a0:AC):Option Bool:=
 (UR k a0).bind fun x0=>
 some (decide (x0≥0))
def NP (k:Nat)(a0:AC)(a1:Int):Option Bool:=
 bif decide ((a0.length : Int) = a1) then ((NO k a0).bind fun x0=>
  some (!x0))
 else some false
def Ed (k:Nat)(rec:qKh)(s1:Int)(bA:EQ)(bE ba:Int):Option (Unit⊕Bool):=
 bif decide (ba < bE) then (bif zB ba bA.length then ((NP k (bA.getD ba.toNat []) s1).bind fun x0=>
   bif !x0 then some (.inr false)
   else rec s1 bA bE (zA (ba+1)))
  else none)
 else some (.inl ())
def Jf (k:Nat):Nat→qKh
 |0,_,_,_,_=>none
 |n+1,s1,bA,bE,ba=>Ed k (Jf k n) s1 bA bE ba
def NR (k:Nat)(a0:EQ)(a1:Int):Option Bool:=
 bif !(decide ((a0.length:Int)=a1)) then some false
 else(Jf k k a1 a0 (a0.length:Int) 0).bind fun z=>
 match z with
 |.inl z1=>some true
 |.inr z2=>some z2
abbrev qJ0:Type:=(EQ×EQ×Int×Int)⊕Bool
abbrev qXm:Type:=EQ→Int→EQ→Int→Int→AC→Int→Int→Option qJ0
def Ef (k:Nat)(rec:qXm)(s0:EQ)(s3:Int)(s7:EQ)(s8 s9:Int)(bE:AC)(ba bX:Int):Option qJ0:=
 bif decide (bX < ba) then (bif zB bX bE.length then (bif zB bX s0.length then (bif zB s3 (s0.getD bX.toNat []).length then (bif !(decide (((s0.getD bX.toNat []).getD s3.toNat 0)=(zA (0-(bE.getD bX.toNat 0))))) then some (.inr false)
     else rec s0 s3 s7 s8 s9 bE ba (zA (bX+1)))
    else none)
   else none)
  else none)
 else some (.inl (s0,s7,s8,s9))
def Ee (k:Nat):Nat→qXm
 |0,_,_,_,_,_,_,_,_=>none
 |n+1,s0,s3,s7,s8,s9,bE,ba,bX=>Ef k (Ee k n) s0 s3 s7 s8 s9 bE ba bX
abbrev qKc:Type:=EQ→EQ→Int→Int→Option (Unit⊕Bool)
def Eg (k:Nat)(rec:qKc)(s0 s7:EQ)(s8 s9:Int):Option (Unit⊕Bool):=
 bif decide (s9 < s8) then (bif zB s9 s7.length then ((Ee k k s0 s9 s7 s8 s9 (s7.getD s9.toNat []) ((s7.getD s9.toNat []).length:Int) 0).bind fun z=>
   match z with
   |.inl z1=>rec z1.1 z1.2.1 z1.2.2.1 (zA (z1.2.2.2+1))
   |.inr z2=>some (.inr z2))
  else none)
 else some (.inl ())
def Jg (k:Nat):Nat→qKc
 |0,_,_,_,_=>none
 |n+1,s0,s7,s8,s9=>Eg k (Jg k n) s0 s7 s8 s9
def NS (k:Nat)(a0:EQ):Option Bool:=
 (Jg k k a0 a0 (a0.length:Int) 0).bind fun z3=>
 match z3 with
 |.inl z4=>some true
 |.inr z5=>some z5
def Bb (k:Nat)(av:List zI)(aA:EQ)(az:AC)(ay:EQ):Option Bool:=
 bif decide ((av.length:Int)<1) then some false
 else bif decide ((av.length:Int)>6) then some false
 else(NM k av).bind fun x0=>
 bif x0 then some false
 else(NQ k aA (av.length:Int)).bind fun x1=>
 bif x1 then ((Jd k az (av.length:Int)).bind fun x2=>
  bif x2 then ((NR k ay (av.length:Int)).bind fun x3=>
   bif x3 then ((NS k ay).bind fun x4=>
    some x4)
   else some false)
  else some false)
 else some false
abbrev qP5:Type:=(List zI)×EQ×AC×EQ×(List zI)×EQ×AC×EQ
abbrev qZ6:Type:=List zC→Int→Int→List zI→EQ→AC→EQ→List zI→EQ→AC→EQ→Option qP5
def Es (k:Nat)(rec:qZ6)(bz:List zC)(ko aV:Int)(af:List zI)(ai:EQ)(aj:AC)(ah:EQ)(r3:List zI)(m4:EQ)(r5:AC)(m6:EQ):Option qP5:=
 bif decide (aV < ko) then (bif zB aV bz.length then (bif zB (bz.getD aV.toNat (0, 0, 0, 0, 0, 0, 0)).2.1 r3.length then (bif zB (bz.getD aV.toNat (0, 0, 0, 0, 0, 0, 0)).2.2.1 r3.length then (let y0:List zI:=(r3.set (bz.getD aV.toNat (0,0,0,0,0,0,0)).2.1.toNat ((zA ((r3.getD (bz.getD aV.toNat (0,0,0,0,0,0,0)).2.1.toNat (0,0,0)).1-(bz.getD aV.toNat (0,0,0,0,0,0,0)).2.2.2.1)),(r3.getD (bz.getD aV.toNat (0,0,0,0,0,0,0)).2.1.toNat (0,0,0)).2))
     let y1:List zI:=(y0.set (bz.getD aV.toNat (0,0,0,0,0,0,0)).2.2.1.toNat ((zA ((y0.getD (bz.getD aV.toNat (0,0,0,0,0,0,0)).2.2.1.toNat (0,0,0)).1+(bz.getD aV.toNat (0,0,0,0,0,0,0)).2.2.2.1)),(y0.getD (bz.getD aV.toNat (0,0,0,0,0,0,0)).2.2.1.toNat (0,0,0)).2))
     bif !(decide ((bz.getD aV.toNat (0, 0, 0, 0, 0, 0, 0)).2.2.2.2.1 = 3)) then ((xr k (y1.getD (bz.getD aV.toNat (0,0,0,0,0,0,0)).2.1.toNat (0,0,0)).1 (y1.getD (bz.getD aV.toNat (0,0,0,0,0,0,0)).2.1.toNat (0,0,0)).2.1 (y1.getD (bz.getD aV.toNat (0,0,0,0,0,0,0)).2.1.toNat (0,0,0)).2.2 (bz.getD aV.toNat (0,0,0,0,0,0,0)).2.2.2.1).bind fun x2=>
      let y2:List zI:=(y1.set (bz.getD aV.toNat (0,0,0,0,0,0,0)).2.1.toNat ((y1.getD (bz.getD aV.toNat (0,0,0,0,0,0,0)).2.1.toNat (0,0,0)).1,(y1.getD (bz.getD aV.toNat (0,0,0,0,0,0,0)).2.1.toNat (0,0,0)).2.1,x2))
      bif zB (bz.getD aV.toNat (0, 0, 0, 0, 0, 0, 0)).2.1 m6.length then (bif zB (bz.getD aV.toNat (0, 0, 0, 0, 0, 0, 0)).2.2.1 (m6.getD (bz.getD aV.toNat (0, 0, 0, 0, 0, 0, 0)).2.1.toNat []).length then (bif zB (bz.getD aV.toNat (0, 0, 0, 0, 0, 0, 0)).2.2.1 (m6.getD (bz.getD aV.toNat (0, 0, 0, 0, 0, 0, 0)).2.1.toNat []).length then (let y3:EQ:=(m6.set (bz.getD aV.toNat (0,0,0,0,0,0,0)).2.1.toNat ((m6.getD (bz.getD aV.toNat (0,0,0,0,0,0,0)).2.1.toNat []).set (bz.getD aV.toNat (0,0,0,0,0,0,0)).2.2.1.toNat (zA (((m6.getD (bz.getD aV.toNat (0,0,0,0,0,0,0)).2.1.toNat []).getD (bz.getD aV.toNat (0,0,0,0,0,0,0)).2.2.1.toNat 0)+(bz.getD aV.toNat (0,0,0,0,0,0,0)).2.2.2.1))))
         bif zB (bz.getD aV.toNat (0, 0, 0, 0, 0, 0, 0)).2.2.1 y3.length then (bif zB (bz.getD aV.toNat (0, 0, 0, 0, 0, 0, 0)).2.1 (y3.getD (bz.getD aV.toNat (0, 0, 0, 0, 0, 0, 0)).2.2.1.toNat []).length then (bif zB (bz.getD aV.toNat (0, 0, 0, 0, 0, 0, 0)).2.1 (y3.getD (bz.getD aV.toNat (0, 0, 0, 0, 0, 0, 0)).2.2.1.toNat []).length then (let y4:EQ:=(y3.set (bz.getD aV.toNat (0,0,0,0,0,0,0)).2.2.1.toNat ((y3.getD (bz.getD aV.toNat (0,0,0,0,0,0,0)).2.2.1.toNat []).set (bz.getD aV.toNat (0,0,0,0,0,0,0)).2.1.toNat (zA (((y3.getD (bz.getD aV.toNat (0,0,0,0,0,0,0)).2.2.1.toNat []).getD (bz.getD aV.toNat (0,0,0,0,0,0,0)).2.1.toNat 0)-(bz.getD aV.toNat (0,0,0,0,0,0,0)).2.2.2.1))))
            rec bz ko (zA (aV+1)) af ai aj ah y2 m4 r5 y4)
           else none)
          else none)
         else none)
        else none)
       else none)
      else none)
     else bif zB (bz.getD aV.toNat (0, 0, 0, 0, 0, 0, 0)).2.1 m6.length then (bif zB (bz.getD aV.toNat (0, 0, 0, 0, 0, 0, 0)).2.2.1 (m6.getD (bz.getD aV.toNat (0, 0, 0, 0, 0, 0, 0)).2.1.toNat []).length then (bif zB (bz.getD aV.toNat (0, 0, 0, 0, 0, 0, 0)).2.2.1 (m6.getD (bz.getD aV.toNat (0, 0, 0, 0, 0, 0, 0)).2.1.toNat []).length then (let y5:EQ:=(m6.set (bz.getD aV.toNat (0,0,0,0,0,0,0)).2.1.toNat ((m6.getD (bz.getD aV.toNat (0,0,0,0,0,0,0)).2.1.toNat []).set (bz.getD aV.toNat (0,0,0,0,0,0,0)).2.2.1.toNat (zA (((m6.getD (bz.getD aV.toNat (0,0,0,0,0,0,0)).2.1.toNat []).getD (bz.getD aV.toNat (0,0,0,0,0,0,0)).2.2.1.toNat 0)+(bz.getD aV.toNat (0,0,0,0,0,0,0)).2.2.2.1))))
        bif zB (bz.getD aV.toNat (0, 0, 0, 0, 0, 0, 0)).2.2.1 y5.length then (bif zB (bz.getD aV.toNat (0, 0, 0, 0, 0, 0, 0)).2.1 (y5.getD (bz.getD aV.toNat (0, 0, 0, 0, 0, 0, 0)).2.2.1.toNat []).length then (bif zB (bz.getD aV.toNat (0, 0, 0, 0, 0, 0, 0)).2.1 (y5.getD (bz.getD aV.toNat (0, 0, 0, 0, 0, 0, 0)).2.2.1.toNat []).length then (let y6:EQ:=(y5.set (bz.getD aV.toNat (0,0,0,0,0,0,0)).2.2.1.toNat ((y5.getD (bz.getD aV.toNat (0,0,0,0,0,0,0)).2.2.1.toNat []).set (bz.getD aV.toNat (0,0,0,0,0,0,0)).2.1.toNat (zA (((y5.getD (bz.getD aV.toNat (0,0,0,0,0,0,0)).2.2.1.toNat []).getD (bz.getD aV.toNat (0,0,0,0,0,0,0)).2.1.toNat 0)-(bz.getD aV.toNat (0,0,0,0,0,0,0)).2.2.2.1))))
           rec bz ko (zA (aV+1)) af ai aj ah y1 m4 r5 y6)
          else none)
         else none)
        else none)
       else none)
      else none)
     else none)
    else none)
   else none)
  else none)
 else some (af,ai,aj,ah,r3,m4,r5,m6)
def Er (k:Nat):Nat→qZ6
 |0,_,_,_,_,_,_,_,_,_,_,_=>none
 |n+1,bz,ko,aV,af,ai,aj,ah,r3,m4,r5,m6=>Es k (Er k n) bz ko aV af ai aj ah r3 m4 r5 m6
def pZ (k:Nat)(av:List zI)(aA:EQ)(az:AC)(ay:EQ)(a1:List zC):Option ((List zI)×EQ×AC×EQ×Int):=
 bif decide ((a1.length:Int)>64) then some (av,aA,az,ay,1)
 else(NW k a1 av aA az ay).bind fun x0=>
 bif x0 then some (av,aA,az,ay,1)
 else(gk k av aA az ay).bind fun x1=>
 (Er k k a1 (a1.length:Int) 0 av aA az ay x1.1 x1.2.1 x1.2.2.1 x1.2.2.2).bind fun z=>
 (Bb k z.2.2.2.2.1 z.2.2.2.2.2.1 z.2.2.2.2.2.2.1 z.2.2.2.2.2.2.2).bind fun x3=>
 bif !x3 then some (vL z 8)
 else some (yD5 z 0)
abbrev qQn:Type:=((List zI)×EQ×AC×EQ×Int×Int×Int×Int×Int×Int×Int)⊕(Bool×Int×Int×Int×Int×Int×Int×Int×(List zI)×EQ×AC×EQ)
abbrev qSo:Type:=Int→Int→List zI→EQ→AC→EQ→Int→Int→Int→Int→Int→Int→Int→List zC→Option qQn
def Fv (k:Nat)(rec:qSo)(bX bm:Int)(af:List zI)(ai:EQ)(aj:AC)(ah:EQ)(aw aC aD aF aH aI aJ:Int)(r3:List zC):Option qQn:=
 bif decide (bm < bX) then (bif zB bm r3.length then ((Bl k af ai aj ah [(r3.getD bm.toNat (0,0,0,0,0,0,0))]).bind fun x1=>
   bif !x1 then(rec bX (zA (bm+1)) af ai aj ah aw aC aD aF aH aI aJ r3)
   else(pZ k af ai aj ah [(r3.getD bm.toNat (0,0,0,0,0,0,0))]).bind fun x2=>
   bif decide (x2.2.2.2.2=0) then some (.inr (true,(ir (r3.getD bm.toNat (0,0,0,0,0,0,0)) (fu x2))))
   else rec bX (zA (bm+1)) af ai aj ah aw aC aD aF aH aI aJ r3)
  else none)
 else some (.inl (af,ai,aj,ah,aw,aC,aD,aF,aH,aI,aJ))
def J7 (k:Nat):Nat→qSo
 |0,_,_,_,_,_,_,_,_,_,_,_,_,_,_=>none
 |n+1,bX,bm,af,ai,aj,ah,aw,aC,aD,aF,aH,aI,aJ,r3=>Fv k (J7 k n) bX bm af ai aj ah aw aC aD aF aH aI aJ r3
def OK (k:Nat)(av:List zI)(aA:EQ)(az:AC)(ay:EQ)(a1:List zC)(a2:Int):Option (Int×Int×Int×Int×Int×Int×Int×(List zI)×EQ×AC×EQ×Bool):=
 (JT k a1 a2).bind fun x0=>
 (J7 k k (x0.length:Int) 0 av aA az ay 0 0 0 0 0 0 0 x0).bind fun z=>
 match z with
 |.inl z1=>some (0,0,0,0,0,0,0,(vL z1 false))
 |.inr z2=>some (vLd z2 z2.1)
abbrev qJd:Type:=(List zC)×(List zI)×EQ×AC×EQ×(List zC)
abbrev qNh:Type:=Int→List zC→List zI→EQ→AC→EQ→List zC→Option qJd
def Fx (k:Nat)(rec:qNh)(s2:Int)(s7:List zC)(af:List zI)(ai:EQ)(aj:AC)(ah:EQ)(r1:List zC):Option qJd:=
 (OK k af ai aj ah s7 s2).bind fun x0=>
 bif !x0.2.2.2.2.2.2.2.2.2.2.2 then some (s7,af,ai,aj,ah,r1)
 else(qa k s7 x0.1).bind fun x1=>
 bif zQ (r1.length + 1) 56 then (let y0:List zC:=(r1++[(wG x0)])
  rec s2 x1.1 x0.2.2.2.2.2.2.2.1 x0.2.2.2.2.2.2.2.2.1 x0.2.2.2.2.2.2.2.2.2.1 x0.2.2.2.2.2.2.2.2.2.2.1 y0)
 else none
def J8 (k:Nat):Nat→qNh
 |0,_,_,_,_,_,_,_=>none
 |n+1,s2,s7,af,ai,aj,ah,r1=>Fx k (J8 k n) s2 s7 af ai aj ah r1
def OM (k:Nat)(av:List zI)(aA:EQ)(az:AC)(ay:EQ)(a1:List zC)(a2:Int):Option tn:=
 (J8 k k a2 a1 av aA az ay []).bind fun z=>
 some (iw z (z.1,z.2.2.2.2.2))
abbrev qN0:Type:=(Int×Int×(List zI)×EQ×AC×EQ×Int×Int×Int×Int×Int×Int×Int×Int×Int×Int×Int×Int×Int×Int×(List zC))⊕yQn
abbrev qUu:Type:=Int→Int→Int→Int→List zI→EQ→AC→EQ→Int→Int→Int→Int→Int→Int→Int→Int→Int→Int→Int→Int→Int→Int→List zC→Int→Int→Int→Int→Int→Int→Int→Option qN0
def FA (k:Nat)(rec:qUu)(dI cL ko aV:Int)(af:List zI)(ai:EQ)(aj:AC)(ah:EQ)(aw aC aD aF aH aI aJ cC cD bG aU cj cm cn:Int)(r2:List zC)(cg cZ dm gQ gT gU gV:Int):Option qN0:=
 bif decide (aV < ko) then (bif zB aV r2.length then (bif !(decide ((r2.getD aV.toNat (0,0,0,0,0,0,0)).2.1=dm)) then(rec dI cL ko (zA (aV+1)) af ai aj ah aw aC aD aF aH aI aJ cC cD bG aU cj cm cn r2 cg cZ dm gQ gT gU gV)
   else bif !(decide ((r2.getD aV.toNat (0,0,0,0,0,0,0)).2.2.1=cZ)) then(rec dI cL ko (zA (aV+1)) af ai aj ah aw aC aD aF aH aI aJ cC cD bG aU cj cm cn r2 cg cZ dm gQ gT gU gV)
   else bif decide (cZ≥(r2.getD aV.toNat (0,0,0,0,0,0,0)).2.1) then(rec dI cL ko (zA (aV+1)) af ai aj ah aw aC aD aF aH aI aJ cC cD bG aU cj cm cn r2 cg cZ dm gQ gT gU gV)
   else(Bl k af ai aj ah [(cg,cZ,dm,gQ,gT,gU,gV),(r2.getD aV.toNat (0,0,0,0,0,0,0))]).bind fun x1=>
   bif !x1 then(rec dI cL ko (zA (aV+1)) af ai aj ah aw aC aD aF aH aI aJ cC cD bG aU cj cm cn r2 cg cZ dm gQ gT gU gV)
   else(pZ k af ai aj ah [(cg,cZ,dm,gQ,gT,gU,gV),(r2.getD aV.toNat (0,0,0,0,0,0,0))]).bind fun x2=>
   bif decide (x2.2.2.2.2=0) then some (.inr (true,cg,cZ,dm,gQ,gT,gU,gV,(ir (r2.getD aV.toNat (0,0,0,0,0,0,0)) (fu x2))))
   else rec dI cL ko (zA (aV+1)) af ai aj ah aw aC aD aF aH aI aJ cC cD bG aU cj cm cn r2 cg cZ dm gQ gT gU gV)
  else none)
 else some (.inl (dI,cL,af,ai,aj,ah,aw,aC,aD,aF,aH,aI,aJ,cC,cD,bG,aU,cj,cm,cn,r2))
def J9 (k:Nat):Nat→qUu
 |0,_,_,_,_,_,_,_,_,_,_,_,_,_,_,_,_,_,_,_,_,_,_,_,_,_,_,_,_,_,_=>none
 |n+1,dI,cL,ko,aV,af,ai,aj,ah,aw,aC,aD,aF,aH,aI,aJ,cC,cD,bG,aU,cj,cm,cn,r2,cg,cZ,dm,gQ,gT,gU,gV=>FA k (J9 k n) dI cL ko aV af ai aj ah aw aC aD aF aH aI aJ cC cD bG aU cj cm cn r2 cg cZ dm gQ gT gU gV
abbrev qJq:Type:=(Int×Int×Int×Int×Int×Int×Int×Int×Int×Int×Int×Int×Int×Int)⊕yQn
abbrev qTz:Type:=Int→Int→List zI→EQ→AC→EQ→Int→Int→Int→Int→Int→Int→Int→Int→Int→Int→Int→Int→Int→Int→List zC→Option qJq
def FB (k:Nat)(rec:qTz)(dI cL:Int)(af:List zI)(ai:EQ)(aj:AC)(ah:EQ)(aw aC aD aF aH aI aJ cC cD bG aU cj cm cn:Int)(r2:List zC):Option qJq:=
 bif decide (cL < dI) then (bif zB cL r2.length then ((J9 k k dI cL (r2.length:Int) 0 af ai aj ah aw aC aD aF aH aI aJ cC cD bG aU cj cm cn r2 (r2.getD cL.toNat (0,0,0,0,0,0,0)).1 (r2.getD cL.toNat (0,0,0,0,0,0,0)).2.1 (r2.getD cL.toNat (0,0,0,0,0,0,0)).2.2.1 (r2.getD cL.toNat (0,0,0,0,0,0,0)).2.2.2.1 (r2.getD cL.toNat (0,0,0,0,0,0,0)).2.2.2.2.1 (r2.getD cL.toNat (0,0,0,0,0,0,0)).2.2.2.2.2.1 (r2.getD cL.toNat (0,0,0,0,0,0,0)).2.2.2.2.2.2).bind fun z=>
   match z with
   |.inl z1=>rec z1.1 (zA (z1.2.1+1)) z1.2.2.1 z1.2.2.2.1 z1.2.2.2.2.1 z1.2.2.2.2.2.1 z1.2.2.2.2.2.2.1 z1.2.2.2.2.2.2.2.1 z1.2.2.2.2.2.2.2.2.1 z1.2.2.2.2.2.2.2.2.2.1 z1.2.2.2.2.2.2.2.2.2.2.1 z1.2.2.2.2.2.2.2.2.2.2.2.1 z1.2.2.2.2.2.2.2.2.2.2.2.2.1 z1.2.2.2.2.2.2.2.2.2.2.2.2.2.1 z1.2.2.2.2.2.2.2.2.2.2.2.2.2.2.1 z1.2.2.2.2.2.2.2.2.2.2.2.2.2.2.2.1 z1.2.2.2.2.2.2.2.2.2.2.2.2.2.2.2.2.1 z1.2.2.2.2.2.2.2.2.2.2.2.2.2.2.2.2.2.1 z1.2.2.2.2.2.2.2.2.2.2.2.2.2.2.2.2.2.2.1 z1.2.2.2.2.2.2.2.2.2.2.2.2.2.2.2.2.2.2.2.1 z1.2.2.2.2.2.2.2.2.2.2.2.2.2.2.2.2.2.2.2.2
   |.inr z2=>some (.inr (z2.1,z2.2.1,z2.2.2.1,z2.2.2.2.1,z2.2.2.2.2.1,z2.2.2.2.2.2.1,z2.2.2.2.2.2.2.1,z2.2.2.2.2.2.2.2.1,z2.2.2.2.2.2.2.2.2.1,z2.2.2.2.2.2.2.2.2.2.1,z2.2.2.2.2.2.2.2.2.2.2.1,z2.2.2.2.2.2.2.2.2.2.2.2.1,z2.2.2.2.2.2.2.2.2.2.2.2.2.1,z2.2.2.2.2.2.2.2.2.2.2.2.2.2.1,z2.2.2.2.2.2.2.2.2.2.2.2.2.2.2.1,z2.2.2.2.2.2.2.2.2.2.2.2.2.2.2.2.1,z2.2.2.2.2.2.2.2.2.2.2.2.2.2.2.2.2.1,z2.2.2.2.2.2.2.2.2.2.2.2.2.2.2.2.2.2.1,z2.2.2.2.2.2.2.2.2.2.2.2.2.2.2.2.2.2.2)))
  else none)
 else some (.inl (aw,aC,aD,aF,aH,aI,aJ,cC,cD,bG,aU,cj,cm,cn))
def Kb (k:Nat):Nat→qTz
 |0,_,_,_,_,_,_,_,_,_,_,_,_,_,_,_,_,_,_,_,_,_=>none
 |n+1,dI,cL,af,ai,aj,ah,aw,aC,aD,aF,aH,aI,aJ,cC,cD,bG,aU,cj,cm,cn,r2=>FB k (Kb k n) dI cL af ai aj ah aw aC aD aF aH aI aJ cC cD bG aU cj cm cn r2
def OO (k:Nat)(av:List zI)(aA:EQ)(az:AC)(ay:EQ)(a1:List zC)(a2:Int):Option (Int×Int×Int×Int×Int×Int×Int×Int×Int×Int×Int×Int×Int×Int×(List zI)×EQ×AC×EQ×Bool):=
 (JT k a1 a2).bind fun x0=>
 (Kb k k (x0.length:Int) 0 av aA az ay 0 0 0 0 0 0 0 0 0 0 0 0 0 0 x0).bind fun z3=>
 match z3 with
 |.inl z4=>some (0,0,0,0,0,0,0,0,0,0,0,0,0,0,[],[],[],[],false)
 |.inr z5=>some (qQh z5 z5.1)
abbrev qZw:Type:=Int×(List zC)×(List zI)×EQ×AC×EQ×(List zC)
abbrev qWe:Type:=Int→List zC→Int→Int→List zI→EQ→AC→EQ→List zC→List zC→Option qZw
def xE (k:Nat)(rec:qWe)(s2:Int)(s7:List zC)(Cp tp:Int)(af:List zI)(ai:EQ)(aj:AC)(ah:EQ)(r1 r2:List zC):Option qZw:=
 bif decide (tp < Cp) then (bif zB tp r2.length then ((qa k s7 (r2.getD tp.toNat (0,0,0,0,0,0,0)).1).bind fun x1=>
   bif zQ (r1.length + 1) 56 then (let y0:List zC:=(r1++[(r2.getD tp.toNat (0,0,0,0,0,0,0))])
    rec s2 x1.1 Cp (zA (tp+1)) af ai aj ah y0 r2)
   else none)
  else none)
 else some (s2,s7,af,ai,aj,ah,r1)
def xD (k:Nat):Nat→qWe
 |0,_,_,_,_,_,_,_,_,_,_=>none
 |n+1,s2,s7,Cp,tp,af,ai,aj,ah,r1,r2=>xE k (xD k n) s2 s7 Cp tp af ai aj ah r1 r2
def FC (k:Nat)(rec:qNh)(s2:Int)(s7:List zC)(af:List zI)(ai:EQ)(aj:AC)(ah:EQ)(r1:List zC):Option qJd:=
 (OO k af ai aj ah s7 s2).bind fun x0=>
 bif !x0.2.2.2.2.2.2.2.2.2.2.2.2.2.2.2.2.2.2 then some (s7,af,ai,aj,ah,r1)
 else(xD k k s2 s7 2 0 x0.2.2.2.2.2.2.2.2.2.2.2.2.2.2.1 x0.2.2.2.2.2.2.2.2.2.2.2.2.2.2.2.1 x0.2.2.2.2.2.2.2.2.2.2.2.2.2.2.2.2.1 x0.2.2.2.2.2.2.2.2.2.2.2.2.2.2.2.2.2.1 r1 [(wG x0),(qKu x0)]).bind fun z=>
 rec z.1 z.2.1 z.2.2.1 z.2.2.2.1 z.2.2.2.2.1 z.2.2.2.2.2.1 z.2.2.2.2.2.2
def Kc (k:Nat):Nat→qNh
 |0,_,_,_,_,_,_,_=>none
 |n+1,s2,s7,af,ai,aj,ah,r1=>FC k (Kc k n) s2 s7 af ai aj ah r1
def OP (k:Nat)(av:List zI)(aA:EQ)(az:AC)(ay:EQ)(a1:List zC)(a2:Int):Option tn:=
 (Kc k k a2 a1 av aA az ay []).bind fun z1=>
 some (iw z1 (z1.1,z1.2.2.2.2.2))
def OX (k:Nat)(rec:qNh)(s2:Int)(s7:List zC)(af:List zI)(ai:EQ)(aj:AC)(ah:EQ)(r1:List zC):Option qJd:=
 (OM k af ai aj ah s7 s2).bind fun x0=>
 (OP k x0.1 x0.2.1 x0.2.2.1 x0.2.2.2.1 x0.2.2.2.2.1 s2).bind fun x1=>
 bif zQ (r1.length + x0.2.2.2.2.2.length) 56 then (bif zQ ((r1 ++ x0.2.2.2.2.2).length + x1.2.2.2.2.2.length) 56 then (let y0:List zC:=((r1++x0.2.2.2.2.2)++x1.2.2.2.2.2)
   bif decide ((x1.2.2.2.2.2.length:Int)=0) then some (x1.2.2.2.2.1,(vL x1 y0))
   else rec s2 x1.2.2.2.2.1 x1.1 x1.2.1 x1.2.2.1 x1.2.2.2.1 y0)
  else none)
 else none
def Kk (k:Nat):Nat→qNh
 |0,_,_,_,_,_,_,_=>none
 |n+1,s2,s7,af,ai,aj,ah,r1=>OX k (Kk k n) s2 s7 af ai aj ah r1
def Kl (k:Nat)(av:List zI)(aA:EQ)(az:AC)(ay:EQ)(a1:List zC)(a2:Int):Option tn:=
 (Kk k k a2 a1 av aA az ay []).bind fun z=>
 some (iw z (z.1,z.2.2.2.2.2))
def V0 (k:Nat)(a0:AC):Option AC:=
 bif zQ (0+a0.length) 8 then some a0
 else none
def V2 (k:Nat)(cd bg bC ct bO ca bR:Int)(a1:AC):Option (Bool×AC):=
 bif decide (bg<0) then some (false,a1)
 else bif decide (bg≥(a1.length:Int)) then some (false,a1)
 else bif zB bg a1.length then (bif decide ((a1.getD bg.toNat 0)<1) then some (false,a1)
  else bif zB bg a1.length then (bif zB bg a1.length then some (true,(a1.set bg.toNat (zA ((a1.getD bg.toNat 0)-1))))
   else none)
  else none)
 else none
abbrev qWf:Type:=AC×(List zC)
abbrev qRm:Type:=List zC→Int→Int→AC→List zC→Option qWf
def FG (k:Nat)(rec:qRm)(s8:List zC)(s9 ax:Int)(r1:AC)(r2:List zC):Option qWf:=
 bif decide (ax < s9) then (bif zB ax s8.length then ((V2 k (s8.getD ax.toNat (0,0,0,0,0,0,0)).1 (s8.getD ax.toNat (0,0,0,0,0,0,0)).2.1 (s8.getD ax.toNat (0,0,0,0,0,0,0)).2.2.1 (s8.getD ax.toNat (0,0,0,0,0,0,0)).2.2.2.1 (s8.getD ax.toNat (0,0,0,0,0,0,0)).2.2.2.2.1 (s8.getD ax.toNat (0,0,0,0,0,0,0)).2.2.2.2.2.1 (s8.getD ax.toNat (0,0,0,0,0,0,0)).2.2.2.2.2.2 r1).bind fun x0=>
   bif x0.1 then (bif zQ (r2.length + 1) 56 then (let y0:List zC:=(r2++[(s8.getD ax.toNat (0,0,0,0,0,0,0))])
     rec s8 s9 (zA (ax+1)) x0.2 y0)
    else none)
   else rec s8 s9 (zA (ax+1)) x0.2 r2)
  else none)
 else some (r1,r2)
def FF (k:Nat):Nat→qRm
 |0,_,_,_,_,_=>none
 |n+1,s8,s9,ax,r1,r2=>FG k (FF k n) s8 s9 ax r1 r2
def V1 (k:Nat)(a0:List zC)(cW:AC):Option ((List zC)×AC):=
 (FF k k a0 (a0.length:Int) 0 cW []).bind fun z=>
 some (z.2,z.1)
def FE (k:Nat)(a0:List zC)(a1:AC):Option (List zC):=
 (V0 k a1).bind fun x0=>
 (V1 k a0 x0).bind fun x1=>
 some x1.1
abbrev qW5:Type:=Int×(List zI)×EQ×AC×EQ×AC×(List zC)
abbrev qH2:Type:=Int→Int→Int→List zI→EQ→AC→EQ→AC→List zC→Option qW5
def FI (k:Nat)(rec:qH2)(s7 la dI:Int)(af:List zI)(ai:EQ)(aj:AC)(ah:EQ)(r1:AC)(r2:List zC):Option qW5:=
 bif decide (dI < la) then ((Kh k r2 dI).bind fun x1=>
  bif zQ (r1.length+1) 8 then(rec s7 la (zA (dI+1)) af ai aj ah (r1++[(x1.length:Int)]) r2)
  else none)
 else some (s7,af,ai,aj,ah,r1,r2)
def Bx (k:Nat):Nat→qH2
 |0,_,_,_,_,_,_,_,_,_=>none
 |n+1,s7,la,dI,af,ai,aj,ah,r1,r2=>FI k (Bx k n) s7 la dI af ai aj ah r1 r2
abbrev qPr:Type:=Int→Int→Int→List zI→EQ→AC→EQ→AC→List zC→AC→Option qW5
def FK (k:Nat)(rec:qPr)(s7 Ru oq:Int)(af:List zI)(ai:EQ)(aj:AC)(ah:EQ)(r1:AC)(r2:List zC)(r3:AC):Option qW5:=
 bif decide (oq < Ru) then (bif zB oq r3.length then (bif zB (r3.getD oq.toNat 0) r1.length then (bif zB (r3.getD oq.toNat 0) r1.length then (let y0:AC:=(r1.set (r3.getD oq.toNat 0).toNat (zA ((r1.getD (r3.getD oq.toNat 0).toNat 0)-1)))
     rec s7 Ru (zA (oq+1)) af ai aj ah y0 r2 r3)
    else none)
   else none)
  else none)
 else some (s7,af,ai,aj,ah,r1,r2)
def FJ (k:Nat):Nat→qPr
 |0,_,_,_,_,_,_,_,_,_,_=>none
 |n+1,s7,Ru,oq,af,ai,aj,ah,r1,r2,r3=>FK k (FJ k n) s7 Ru oq af ai aj ah r1 r2 r3
abbrev qKi:Type:=Int→List zI→EQ→AC→EQ→AC→List zC→Option (Int×AC)
def FL (k:Nat)(rec:qKi)(s7:Int)(af:List zI)(ai:EQ)(aj:AC)(ah:EQ)(r1:AC)(r2:List zC):Option (Int×AC):=
 (FE k r2 r1).bind fun x2=>
 (Bk k af ai aj ah x2).bind fun x3=>
 bif decide ((x3.length:Int)=0) then some ((zA (s7+1)),r1)
 else(FJ k k (zA (s7+1)) (x3.length:Int) 0 af ai aj ah r1 r2 x3).bind fun z1=>
 rec z1.1 z1.2.1 z1.2.2.1 z1.2.2.2.1 z1.2.2.2.2.1 z1.2.2.2.2.2.1 z1.2.2.2.2.2.2
def Kj (k:Nat):Nat→qKi
 |0,_,_,_,_,_,_,_=>none
 |n+1,s7,af,ai,aj,ah,r1,r2=>FL k (Kj k n) s7 af ai aj ah r1 r2
def OU (k:Nat)(av:List zI)(aA:EQ)(az:AC)(ay:EQ)(a1:List zC)(a2:Int):Option (AC×Int):=
 (ET k a1 a2).bind fun x0=>
 (Bx k k 0 (av.length:Int) 0 av aA az ay [] x0).bind fun z=>
 (Kj k k z.1 z.2.1 z.2.2.1 z.2.2.2.1 z.2.2.2.2.1 z.2.2.2.2.2.1 z.2.2.2.2.2.2).bind fun z2=>
 some (z2.2,z2.1)
abbrev qT3:Type:=List zC→Int→Int→List zI→EQ→AC→EQ→List zC→Option qJd
def FM (k:Nat)(rec:qT3)(s7:List zC)(lH gx:Int)(af:List zI)(ai:EQ)(aj:AC)(ah:EQ)(r1:List zC):Option qJd:=
 bif decide (gx < lH) then (bif zB gx r1.length then ((qa k s7 (r1.getD gx.toNat (0,0,0,0,0,0,0)).1).bind fun x4=>
   rec x4.1 lH (zA (gx+1)) af ai aj ah r1)
  else none)
 else some (s7,af,ai,aj,ah,r1)
def By (k:Nat):Nat→qT3
 |0,_,_,_,_,_,_,_,_=>none
 |n+1,s7,lH,gx,af,ai,aj,ah,r1=>FM k (By k n) s7 lH gx af ai aj ah r1
def Bz (k:Nat)(av:List zI)(aA:EQ)(az:AC)(ay:EQ)(a1:List zC)(a2:Int):Option tn:=
 (OU k av aA az ay a1 a2).bind fun x0=>
 (ET k a1 a2).bind fun x1=>
 (FE k x1 x0.1).bind fun x2=>
 (pZ k av aA az ay x2).bind fun x3=>
 bif !(decide (x3.2.2.2.2=0)) then some (av,aA,az,ay,a1,[])
 else(By k k a1 (x2.length:Int) 0 x3.1 x3.2.1 x3.2.2.1 x3.2.2.2.1 x2).bind fun z=>
 some (iw z (z.1,z.2.2.2.2.2))
def uJ (k:Nat)(av:List zI)(aA:EQ)(az:AC)(ay:EQ)(a1:List zC)(a2:Int)(a3:Bool):Option tn:=
 (Kl k av aA az ay a1 a2).bind fun x0=>
 bif !a3 then some (x0.1,x0.2.1,x0.2.2.1,x0.2.2.2.1,x0.2.2.2.2.1,x0.2.2.2.2.2)
 else(Bz k x0.1 x0.2.1 x0.2.2.1 x0.2.2.2.1 x0.2.2.2.2.1 a2).bind fun x1=>
 bif decide ((x1.2.2.2.2.2.length:Int)=0) then some (tl x1 x0.2.2.2.2.2)
 else(Kl k x1.1 x1.2.1 x1.2.2.1 x1.2.2.2.1 x1.2.2.2.2.1 a2).bind fun x2=>
 bif zQ (x0.2.2.2.2.2.length + x1.2.2.2.2.2.length) 56 then (bif zQ ((x0.2.2.2.2.2 ++ x1.2.2.2.2.2).length + x2.2.2.2.2.2.length) 56 then (let y0:List zC:=((x0.2.2.2.2.2++x1.2.2.2.2.2)++x2.2.2.2.2.2)
   some (tl x2 y0))
  else none)
 else none
abbrev qJc:Type:=(List zC)×Int×Int×(List qP)
abbrev qTl:Type:=List zC→Int→Int→Int→Int→List qP→Int→Int→Int→Int→Int→Int→Int→AC→Option qJc
def xK (k:Nat)(rec:qTl)(s8:List zC)(s9 ax dI cL:Int)(r0:List qP)(aw aC aD aF aH aI aJ:Int)(r2:AC):Option qJc:=
 bif decide (cL < dI) then (bif zB cL r2.length then ((qg k (r2.getD cL.toNat 0) 18 [aw,aC,aD,aF]).bind fun x0=>
   bif zQ (r0.length+1) 64 then(rec s8 s9 ax dI (zA (cL+1)) (r0++[x0]) aw aC aD aF aH aI aJ r2)
   else none)
  else none)
 else some (s8,s9,ax,r0)
def xJ (k:Nat):Nat→qTl
 |0,_,_,_,_,_,_,_,_,_,_,_,_,_,_=>none
 |n+1,s8,s9,ax,dI,cL,r0,aw,aC,aD,aF,aH,aI,aJ,r2=>xK k (xJ k n) s8 s9 ax dI cL r0 aw aC aD aF aH aI aJ r2
abbrev qMa:Type:=List qP
abbrev qZg:Type:=List zC→Int→Int→List qP→Option qMa
def FO (k:Nat)(rec:qZg)(s8:List zC)(s9 ax:Int)(r0:List qP):Option qMa:=
 bif decide (ax < s9) then (bif zB ax s8.length then ((xJ k k s8 s9 ax 2 0 r0 (s8.getD ax.toNat (0,0,0,0,0,0,0)).1 (s8.getD ax.toNat (0,0,0,0,0,0,0)).2.1 (s8.getD ax.toNat (0,0,0,0,0,0,0)).2.2.1 (s8.getD ax.toNat (0,0,0,0,0,0,0)).2.2.2.1 (s8.getD ax.toNat (0,0,0,0,0,0,0)).2.2.2.2.1 (s8.getD ax.toNat (0,0,0,0,0,0,0)).2.2.2.2.2.1 (s8.getD ax.toNat (0,0,0,0,0,0,0)).2.2.2.2.2.2 [(s8.getD ax.toNat (0,0,0,0,0,0,0)).2.1,(s8.getD ax.toNat (0,0,0,0,0,0,0)).2.2.1]).bind fun z=>
   rec z.1 z.2.1 (zA (z.2.2.1+1)) z.2.2.2)
  else none)
 else some r0
def Km (k:Nat):Nat→qZg
 |0,_,_,_,_=>none
 |n+1,s8,s9,ax,r0=>FO k (Km k n) s8 s9 ax r0
def OY (k:Nat)(a0:List zC):Option (List qP):=
 (Km k k a0 (a0.length:Int) 0 []).bind fun z1=>
 some z1
def pg (k:Nat)(mo:Int)(qx:List zI)(qy:EQ)(qz:AC)(re:EQ)(rf:AC)(rj:EQ)(mq:List zC)(rp:AC)(rq:Int)(rr a1:Bool):Option Ro:=
 (uJ k qx qy qz re mq mo a1).bind fun x0=>
 (OY k x0.2.2.2.2.2).bind fun x1=>
 some (mo,(vL x0 (rf,rj,x0.2.2.2.2.1,rp,rq,rr,x1)))
abbrev qZr:Type:=Int×(List vX)×Int×Int×Int×Int×(List zI)×EQ×AC×EQ×AC×EQ×(List zC)×AC×Int×Bool×Int×Int×Bool×(List qP)×(List zC)
abbrev qVl:Type:=List zC→Int→Int→Int→List vX→Int→Int→Int→Int→List zI→EQ→AC→EQ→AC→EQ→List zC→AC→Int→Bool→Int→Int→Bool→List qP→List zC→Option qZr
def FY (k:Nat)(rec:qVl)(fw:List zC)(lI fx af:Int)(ai:List vX)(aj ah aY aw:Int)(aC:List zI)(aD:EQ)(aF:AC)(aH:EQ)(aI:AC)(aJ:EQ)(cC:List zC)(cD:AC)(bG:Int)(aU:Bool)(aZ rD:Int)(lf:Bool)(r3:List qP)(r4:List zC):Option qZr:=
 bif decide (fx < lI) then (bif zB fx fw.length then ((Wd k (fw.getD fx.toNat (0,0,0,0,0,0,0)).1 (fw.getD fx.toNat (0,0,0,0,0,0,0)).2.1 (fw.getD fx.toNat (0,0,0,0,0,0,0)).2.2.1 (fw.getD fx.toNat (0,0,0,0,0,0,0)).2.2.2.1 (fw.getD fx.toNat (0,0,0,0,0,0,0)).2.2.2.2.1 (fw.getD fx.toNat (0,0,0,0,0,0,0)).2.2.2.2.2.1 (fw.getD fx.toNat (0,0,0,0,0,0,0)).2.2.2.2.2.2 aw).bind fun x2=>
   bif x2 then ((qg k (fw.getD fx.toNat (0,0,0,0,0,0,0)).2.1 21 [(fw.getD fx.toNat (0,0,0,0,0,0,0)).1]).bind fun x3=>
    bif zQ (r3.length+1) 64 then(rec fw lI (zA (fx+1)) af ai aj ah aY aw aC aD aF aH aI aJ cC cD bG aU aZ rD lf (r3++[x3]) r4)
    else none)
   else bif zQ (r4.length + 1) 56 then (let y0:List zC:=(r4++[(fw.getD fx.toNat (0,0,0,0,0,0,0))])
    rec fw lI (zA (fx+1)) af ai aj ah aY aw aC aD aF aH aI aJ cC cD bG aU aZ rD lf r3 y0)
   else none)
  else none)
 else some (af,ai,aj,ah,aY,aw,aC,aD,aF,aH,aI,aJ,cC,cD,bG,aU,aZ,rD,lf,r3,r4)
def FX (k:Nat):Nat→qVl
 |0,_,_,_,_,_,_,_,_,_,_,_,_,_,_,_,_,_,_,_,_,_,_,_,_=>none
 |n+1,fw,lI,fx,af,ai,aj,ah,aY,aw,aC,aD,aF,aH,aI,aJ,cC,cD,bG,aU,aZ,rD,lf,r3,r4=>FY k (FX k n) fw lI fx af ai aj ah aY aw aC aD aF aH aI aJ cC cD bG aU aZ rD lf r3 r4
def uK (k:Nat)(di:Int)(dO:List vX)(dP dj cf jn:Int)(cE:List zI)(dA:EQ)(dB:AC)(dC:EQ)(fR:AC)(jo:EQ)(fS:List zC)(rE:AC)(jq:Int)(jt:Bool):Option Ro:=
 bif jt then some (jn,cE,dA,dB,dC,fR,jo,fS,rE,jq,jt,[])
 else(BD k di dO dP dj cf (zA (jn+1))).bind fun x0=>
 bif x0 then ((O1 k (zA (jn+1)) cE dA dB dC fR jo fS rE jq jt).bind fun x1=>
  some (x1.1,x1.2.1,x1.2.2.1,x1.2.2.2.1,x1.2.2.2.2.1,x1.2.2.2.2.2.1,x1.2.2.2.2.2.2.1,x1.2.2.2.2.2.2.2.1,x1.2.2.2.2.2.2.2.2.1,x1.2.2.2.2.2.2.2.2.2.1,x1.2.2.2.2.2.2.2.2.2.2.1,x1.2.2.2.2.2.2.2.2.2.2.2))
 else(FX k k fS (fS.length:Int) 0 di dO dP dj cf (zA (jn+1)) cE dA dB dC fR jo fS rE jq jt 0 0 false [] []).bind fun z=>
 (FZ k z.1 z.2.1 z.2.2.1 z.2.2.2.1 z.2.2.2.2.1 z.2.2.2.2.2.1).bind fun x4=>
 (pg k z.2.2.2.2.2.1 z.2.2.2.2.2.2.1 z.2.2.2.2.2.2.2.1 z.2.2.2.2.2.2.2.2.1 z.2.2.2.2.2.2.2.2.2.1 z.2.2.2.2.2.2.2.2.2.2.1 z.2.2.2.2.2.2.2.2.2.2.2.1 z.2.2.2.2.2.2.2.2.2.2.2.2.2.2.2.2.2.2.2.2 z.2.2.2.2.2.2.2.2.2.2.2.2.2.1 z.2.2.2.2.2.2.2.2.2.2.2.2.2.2.1 z.2.2.2.2.2.2.2.2.2.2.2.2.2.2.2.1 x4).bind fun x5=>
 bif zQ (z.2.2.2.2.2.2.2.2.2.2.2.2.2.2.2.2.2.2.2.1.length + x5.2.2.2.2.2.2.2.2.2.2.2.length) 64 then (let y1:List qP:=(z.2.2.2.2.2.2.2.2.2.2.2.2.2.2.2.2.2.2.2.1++x5.2.2.2.2.2.2.2.2.2.2.2)
  some (yw x5 y1))
 else none
def yHg (k:Nat)(a0:lG)(a1:LW):Option (Int×jL):=
 (vF k a1.2.1 0 (zA (a0.1-1))).bind fun x0=>
 bif !x0 then some (1,(vS a0 []))
 else(vF k a1.2.2.2.1 1 3).bind fun x1=>
 bif !x1 then some (1,(vS a0 []))
 else(F0 k (yV a0) a0.2.2.2.2.2.1 (a1.1,a0.2.2.2.2.2.2.2.2.2.2.2.2.2.2.2.2,a1.2)).bind fun x2=>
 bif !(decide (x2=0)) then some (x2,(vS a0 []))
 else(Fj k a0.2.2.2.2.2.2.2.2.2.2.2.2.2.1 a1.1).bind fun x3=>
 bif !(decide (x3.2=0)) then some (x3.2,(vS a0 []))
 else(xz k a0.2.2.2.2.2.2.2.2.2.2.2.2.1 (a1.1,a0.2.2.2.2.2.2.2.2.2.2.2.2.2.2.2.2,a1.2)).bind fun x4=>
 bif !(decide (x4.2=0)) then some (x4.2,(vS a0 []))
 else some (0,(kl a0 (x4.1,x3.1,a0.2.2.2.2.2.2.2.2.2.2.2.2.2.2.1,a0.2.2.2.2.2.2.2.2.2.2.2.2.2.2.2.1,a0.2.2.2.2.2.2.2.2.2.2.2.2.2.2.2.2,[])))
def QN (k:Nat)(a0:lG)(a1:zC):Option (Int×jL):=
 (Zo k (vS a0 []) a1.2.1).bind fun x0=>
 bif !(decide (x0.2=0)) then some (x0.2,(vS a0 []))
 else bif decide (a1.1 = 2) then ((qa k a0.2.2.2.2.2.2.2.2.2.2.2.2.1 a1.2.1).bind fun x1=>
  (K4 k (kl a0 (x1.1,a0.2.2.2.2.2.2.2.2.2.2.2.2.2)) 20 [a1.2.1]).bind fun x2=>
  some (x1.2.2.2.2.2.2.2.2,x2))
 else bif decide (a1.1 = 4) then ((vF k a1.2.2.1 1 3).bind fun x3=>
  bif !x3 then some (1,(vS a0 []))
  else(BE k (yV a0) a0.2.2.2.2.2.1 a1.2.2.1).bind fun x4=>
  bif !(decide (x4=0)) then some (x4,(vS a0 []))
  else(Fe k a0.2.2.2.2.2.2.2.2.2.2.2.2.1 a1.2.1 a1.2.2.1).bind fun x5=>
  some (x5.2,(kl a0 (x5.1,(qXs a0 [])))))
 else bif decide (a1.2.2.1 = 0) then ((Fh k a0.2.2.2.2.2.2.2.2.2.2.2.2.1 a1.2.1).bind fun x6=>
  some (x6.2,(kl a0 (x6.1,(qXs a0 [])))))
 else bif decide (a1.2.2.1 = 1) then ((Ff k a0.2.2.2.2.2.2.2.2.2.2.2.2.1 a1.2.1).bind fun x7=>
  some (x7.2,(kl a0 (x7.1,(qXs a0 [])))))
 else some (1,(vS a0 []))
def QO (k:Nat)(a0:lG)(a1:zC):Option (Int×jL):=
 (gk k a0.2.2.2.2.2.2.1 a0.2.2.2.2.2.2.2.1 a0.2.2.2.2.2.2.2.2.1 a0.2.2.2.2.2.2.2.2.2.1).bind fun x0=>
 bif decide (a1.1 = 5) then ((Zw k (vS a0 []) a1.2.1).bind fun x1=>
  bif !x1 then some (1,(vS a0 []))
  else(vF k a1.2.2.1 (-1) 1152921504606846976).bind fun x2=>
  bif !x2 then some (1,(vS a0 []))
  else bif zB a0.2.2.2.2.2.2.2.2.2.2.2.2.2.2.2.2 x0.2.1.length then (bif zB a1.2.1 (x0.2.1.getD a0.2.2.2.2.2.2.2.2.2.2.2.2.2.2.2.2.toNat []).length then (let y0:EQ:=(x0.2.1.set a0.2.2.2.2.2.2.2.2.2.2.2.2.2.2.2.2.toNat ((x0.2.1.getD a0.2.2.2.2.2.2.2.2.2.2.2.2.2.2.2.2.toNat []).set a1.2.1.toNat a1.2.2.1))
    some (0,(jK a0 (x0.1,y0,x0.2.2.1,x0.2.2.2,(qJy a0 [])))))
   else none)
  else none)
 else bif decide (a1.1 = 6) then ((vF k a1.2.1 (-1) 1152921504606846976).bind fun x3=>
  bif !x3 then some (1,(vS a0 []))
  else bif zB a0.2.2.2.2.2.2.2.2.2.2.2.2.2.2.2.2 x0.2.2.1.length then (let y1:AC:=(x0.2.2.1.set a0.2.2.2.2.2.2.2.2.2.2.2.2.2.2.2.2.toNat a1.2.1)
   some (0,(jK a0 (x0.1,x0.2.1,y1,x0.2.2.2,(qJy a0 [])))))
  else none)
 else(vF k a1.2.1 0 1152921504606846976).bind fun x4=>
 bif !x4 then some (1,(vS a0 []))
 else bif zB a0.2.2.2.2.2.2.2.2.2.2.2.2.2.2.2.2 x0.1.length then (let y2:List zI:=(x0.1.set a0.2.2.2.2.2.2.2.2.2.2.2.2.2.2.2.2.toNat ((x0.1.getD a0.2.2.2.2.2.2.2.2.2.2.2.2.2.2.2.2.toNat (0,0,0)).1,(x0.1.getD a0.2.2.2.2.2.2.2.2.2.2.2.2.2.2.2.2.toNat (0,0,0)).2.1,a1.2.1))
  some (0,(jK a0 (y2,x0.2.1,x0.2.2.1,x0.2.2.2,(qJy a0 [])))))
 else none
def yXj (k:Nat)(a0:lG)(a1 a2:Int):Option (Int×jL):=
 (LG k (vS a0 []) a1).bind fun x0=>
 bif !x0 then some (1,(vS a0 []))
 else(vF k a2 0 1099511627776).bind fun x1=>
 bif !x1 then some (1,(vS a0 []))
 else(F1 k a0.2.2.2.2.2.2.2.2.2.2.2.1).bind fun x2=>
 bif zB a0.2.2.2.2.2.2.2.2.2.2.2.2.2.2.2.2 x2.length then ((qd k (x2.getD a0.2.2.2.2.2.2.2.2.2.2.2.2.2.2.2.2.toNat []) a1 a2).bind fun x3=>
  bif zB a0.2.2.2.2.2.2.2.2.2.2.2.2.2.2.2.2 x2.length then (let y0:EQ:=(x2.set a0.2.2.2.2.2.2.2.2.2.2.2.2.2.2.2.2.toNat x3)
   bif zB a0.2.2.2.2.2.2.2.2.2.2.2.2.2.2.2.2 y0.length then ((sM k a0.2.1 a0.2.2.2.2.2.2.2.2.2.2.1 (y0.getD a0.2.2.2.2.2.2.2.2.2.2.2.2.2.2.2.2.toNat [])).bind fun x4=>
    bif zB a0.2.2.2.2.2.2.2.2.2.2.2.2.2.2.2.2 a0.2.2.2.2.2.2.1.length then (bif !x4.2 then some (8,(vS a0 []))
     else bif decide (x4.1>1152921504606846976) then some (8,(vS a0 []))
     else bif decide (x4.1 < (a0.2.2.2.2.2.2.1.getD a0.2.2.2.2.2.2.2.2.2.2.2.2.2.2.2.2.toNat (0, 0, 0)).2.1) then (bif decide ((zA ((a0.2.2.2.2.2.2.1.getD a0.2.2.2.2.2.2.2.2.2.2.2.2.2.2.2.2.toNat (0,0,0)).1+x4.1))<0) then some (9,(vS a0 []))
      else(gk k a0.2.2.2.2.2.2.1 a0.2.2.2.2.2.2.2.1 a0.2.2.2.2.2.2.2.2.1 a0.2.2.2.2.2.2.2.2.2.1).bind fun x5=>
      bif zB a0.2.2.2.2.2.2.2.2.2.2.2.2.2.2.2.2 x5.1.length then (let y1:List zI:=(x5.1.set a0.2.2.2.2.2.2.2.2.2.2.2.2.2.2.2.2.toNat ((x5.1.getD a0.2.2.2.2.2.2.2.2.2.2.2.2.2.2.2.2.toNat (0,0,0)).1,x4.1,(x5.1.getD a0.2.2.2.2.2.2.2.2.2.2.2.2.2.2.2.2.toNat (0,0,0)).2.2))
       some (0,(jK a0 (y1,x5.2.1,x5.2.2.1,x5.2.2.2,a0.2.2.2.2.2.2.2.2.2.2.1,y0,(yXf a0 [])))))
      else none)
     else(gk k a0.2.2.2.2.2.2.1 a0.2.2.2.2.2.2.2.1 a0.2.2.2.2.2.2.2.2.1 a0.2.2.2.2.2.2.2.2.2.1).bind fun x6=>
     bif zB a0.2.2.2.2.2.2.2.2.2.2.2.2.2.2.2.2 x6.1.length then (let y2:List zI:=(x6.1.set a0.2.2.2.2.2.2.2.2.2.2.2.2.2.2.2.2.toNat ((x6.1.getD a0.2.2.2.2.2.2.2.2.2.2.2.2.2.2.2.2.toNat (0,0,0)).1,x4.1,(x6.1.getD a0.2.2.2.2.2.2.2.2.2.2.2.2.2.2.2.2.toNat (0,0,0)).2.2))
      some (0,(jK a0 (y2,x6.2.1,x6.2.2.1,x6.2.2.2,a0.2.2.2.2.2.2.2.2.2.2.1,y0,(yXf a0 [])))))
     else none)
    else none)
   else none)
  else none)
 else none
def BL (k:Nat)(a0:lG)(a1 a2 a3:Int):Option (Int×jL):=
 (vF k a2 0 (zA (a0.1-1))).bind fun x0=>
 bif !x0 then some (1,(vS a0 []))
 else(vF k a3 1 1099511627776).bind fun x1=>
 bif !x1 then some (1,(vS a0 []))
 else bif zB a2 a0.2.2.2.2.2.2.1.length then ((Gp k (a0.2.2.2.2.2.2.1.getD a2.toNat (0,0,0)) a3).bind fun x2=>
  bif decide (a1 = 11) then ((Gq k (a0.2.2.2.2.2.2.1.getD a2.toNat (0,0,0)) a3 3).bind fun x3=>
   (Gr k (a0.2.2.2.2.2.2.1.getD a2.toNat (0,0,0)) 3).bind fun x4=>
   bif decide (x4<a3) then some (9,(vS a0 []))
   else bif decide ((zA (a0.2.2.2.2.2.2.2.2.2.2.2.2.2.2.1-a3))<0) then some (9,(vS a0 []))
   else bif !(decide (x3.2=0)) then some (x3.2,(vS a0 []))
   else bif decide ((zA (a0.2.2.2.2.2.2.2.2.2.2.2.2.2.2.1-a3))>1152921504606846976) then some (8,(vS a0 []))
   else(gk k a0.2.2.2.2.2.2.1 a0.2.2.2.2.2.2.2.1 a0.2.2.2.2.2.2.2.2.1 a0.2.2.2.2.2.2.2.2.2.1).bind fun x5=>
   bif zB a2 x5.1.length then some (0,(jK a0 ((x5.1.set a2.toNat x3.1),x5.2.1,x5.2.2.1,x5.2.2.2,(Ht a0 ((zA (a0.2.2.2.2.2.2.2.2.2.2.2.2.2.2.1-a3)),a0.2.2.2.2.2.2.2.2.2.2.2.2.2.2.2.1,a0.2.2.2.2.2.2.2.2.2.2.2.2.2.2.2.2,[])))))
   else none)
  else bif !(decide (x2.2=0)) then some (x2.2,(vS a0 []))
  else bif decide ((zA (a0.2.2.2.2.2.2.2.2.2.2.2.2.2.2.1+a3))>1152921504606846976) then some (8,(vS a0 []))
  else(gk k a0.2.2.2.2.2.2.1 a0.2.2.2.2.2.2.2.1 a0.2.2.2.2.2.2.2.2.1 a0.2.2.2.2.2.2.2.2.2.1).bind fun x6=>
  bif zB a2 x6.1.length then some (0,(jK a0 ((x6.1.set a2.toNat x2.1),x6.2.1,x6.2.2.1,x6.2.2.2,(Ht a0 ((zA (a0.2.2.2.2.2.2.2.2.2.2.2.2.2.2.1+a3)),a0.2.2.2.2.2.2.2.2.2.2.2.2.2.2.2.1,a0.2.2.2.2.2.2.2.2.2.2.2.2.2.2.2.2,[])))))
  else none)
 else none
abbrev qWa:Type:=(lG×AC×(List zI)×EQ×AC×EQ)⊕(Int×lG)
abbrev qOj:Type:=EQ→Int→Int→lG→AC→List zI→EQ→AC→EQ→Option qWa
def Gs (k:Nat)(rec:qOj)(gx:EQ)(jc ld:Int)(b0:lG)(r1:AC)(r3:List zI)(m4:EQ)(r5:AC)(m6:EQ):Option qWa:=
 bif decide (ld < jc) then (bif zB ld gx.length then ((sM k b0.2.1 r1 (gx.getD ld.toNat [])).bind fun x4=>
   bif !x4.2 then some (.inr (8,b0))
   else bif decide (x4.1>1152921504606846976) then some (.inr (8,b0))
   else bif zB ld r3.length then (let y0:List zI:=(r3.set ld.toNat ((r3.getD ld.toNat (0,0,0)).1,x4.1,(r3.getD ld.toNat (0,0,0)).2.2))
    rec gx jc (zA (ld+1)) b0 r1 y0 m4 r5 m6)
   else none)
  else none)
 else some (.inl (b0,r1,r3,m4,r5,m6))
def uS (k:Nat):Nat→qOj:=yR (fun _ _ _ _ _ _ _ _ _=>none) (Gs k)
def Py (k:Nat)(a0:lG)(a1 a2:Int):Option (Int×jL):=
 (LG k (vS a0 []) a1).bind fun x0=>
 bif !x0 then some (1,(vS a0 []))
 else(vF k a2 0 1048576).bind fun x1=>
 bif !x1 then some (1,(vS a0 []))
 else(qd k a0.2.2.2.2.2.2.2.2.2.2.1 a1 a2).bind fun x2=>
 (gk k a0.2.2.2.2.2.2.1 a0.2.2.2.2.2.2.2.1 a0.2.2.2.2.2.2.2.2.1 a0.2.2.2.2.2.2.2.2.2.1).bind fun x3=>
 (uS k k a0.2.2.2.2.2.2.2.2.2.2.2.1 (a0.2.2.2.2.2.2.2.2.2.2.2.1.length:Int) 0 a0 x2 x3.1 x3.2.1 x3.2.2.1 x3.2.2.2).bind fun z=>
 match z with
 |.inl z1=>some (0,(jK z1.1 (BN z1 (z1.2.1,(WQ z1.1 [])))))
 |.inr z2=>some (jH z2 [])
def yg (k:Nat)(a0:lG)(a1:zC):Option (Int×jL):=
 bif decide (a1.1 = 1) then ((yHg k a0 a1.2).bind fun x0=>
  some (x0.1,x0.2))
 else bif decide (a1.1 = 2) then ((QN k a0 a1).bind fun x1=>
  some (x1.1,x1.2))
 else bif decide (a1.1 = 3) then ((QN k a0 a1).bind fun x2=>
  some (x2.1,x2.2))
 else bif decide (a1.1 = 4) then ((QN k a0 a1).bind fun x3=>
  some (x3.1,x3.2))
 else bif decide (a1.1 = 5) then ((QO k a0 a1).bind fun x4=>
  some (x4.1,x4.2))
 else bif decide (a1.1 = 6) then ((QO k a0 a1).bind fun x5=>
  some (x5.1,x5.2))
 else bif decide (a1.1 = 7) then ((QO k a0 a1).bind fun x6=>
  some (x6.1,x6.2))
 else bif decide (a1.1 = 8) then ((yXj k a0 a1.2.1 a1.2.2.1).bind fun x7=>
  some (x7.1,x7.2))
 else bif decide (a1.1 = 10) then ((BL k a0 a1.1 a1.2.1 a1.2.2.1).bind fun x8=>
  some (x8.1,x8.2))
 else bif decide (a1.1 = 11) then ((BL k a0 a1.1 a1.2.1 a1.2.2.1).bind fun x9=>
  some (x9.1,x9.2))
 else bif decide (a1.1 = 12) then ((Py k a0 a1.2.1 a1.2.2.1).bind fun cq=>
  some (cq.1,cq.2))
 else some (0,(vS a0 []))
def im (k:Nat)(a0:vQ)(a1:vH)(a2:qP):Option (vH×(List qP)×Int):=
 (uO k a0 a1 a2).bind fun x0=>
 bif !(decide (x0=0)) then some (a1,[],x0)
 else bif decide (a2.2.1 = 9) then ((BZ k a1 a2.1).bind fun x1=>
  some (a1,x1,0))
 else bif !(decide (a2.1 = (-1))) then ((K4 k (jI a0 (wZ a1 a2.1)) 15 []).bind fun x2=>
  (GW k x2 a2.2).bind fun x3=>
  bif !(decide (x3.1=0)) then some (a1,[],x3.1)
  else bif decide (a2.2.1 = 14) then ((uK k a0.1 a0.2.1 a0.2.2.1 a0.2.2.2.1 a0.2.2.2.2 a1.1 a1.2.1 a1.2.2.1 a1.2.2.2.1 a1.2.2.2.2.1 a1.2.2.2.2.2.1 a1.2.2.2.2.2.2.1 a1.2.2.2.2.2.2.2.1 a1.2.2.2.2.2.2.2.2.1 a1.2.2.2.2.2.2.2.2.2.1 a1.2.2.2.2.2.2.2.2.2.2).bind fun x4=>
   some ((qV x4),x4.2.2.2.2.2.2.2.2.2.2.2,0))
  else(pg k x3.2.2.2.2.2.2.1 x3.2.2.2.2.2.2.2.1 x3.2.2.2.2.2.2.2.2.1 x3.2.2.2.2.2.2.2.2.2.1 x3.2.2.2.2.2.2.2.2.2.2.1 x3.2.2.2.2.2.2.2.2.2.2.2.1 x3.2.2.2.2.2.2.2.2.2.2.2.2.1 x3.2.2.2.2.2.2.2.2.2.2.2.2.2.1 x3.2.2.2.2.2.2.2.2.2.2.2.2.2.2.1 x3.2.2.2.2.2.2.2.2.2.2.2.2.2.2.2.1 x3.2.2.2.2.2.2.2.2.2.2.2.2.2.2.2.2.1 (decide (a2.2.1=13))).bind fun x5=>
  bif zQ (x3.2.2.2.2.2.2.2.2.2.2.2.2.2.2.2.2.2.2.length + x5.2.2.2.2.2.2.2.2.2.2.2.length) 64 then (let y0:List qP:=(x3.2.2.2.2.2.2.2.2.2.2.2.2.2.2.2.2.2.2++x5.2.2.2.2.2.2.2.2.2.2.2)
   bif decide (a2.2.1 = 1) then ((nS k x5.2.2.2.2.2.2.2.1 a2.2.2.1).bind fun x6=>
    bif decide (x6 ≥ 0) then ((uN k (GX x3 y0) 19 [a2.2.2.1]).bind fun x7=>
     some ((qV x5),x7.2.2.2.2.2.2.2.2.2.2.2.2.2.2.2.2.2,0))
    else some ((qV x5),y0,0))
   else some ((qV x5),y0,0))
  else none)
 else(yg k (jI a0 (wZ a1 a2.1)) a2.2).bind fun x8=>
 bif !(decide (x8.1=0)) then some (a1,[],x8.1)
 else bif decide (a2.2.1 = 14) then ((uK k a0.1 a0.2.1 a0.2.2.1 a0.2.2.2.1 a0.2.2.2.2 a1.1 a1.2.1 a1.2.2.1 a1.2.2.2.1 a1.2.2.2.2.1 a1.2.2.2.2.2.1 a1.2.2.2.2.2.2.1 a1.2.2.2.2.2.2.2.1 a1.2.2.2.2.2.2.2.2.1 a1.2.2.2.2.2.2.2.2.2.1 a1.2.2.2.2.2.2.2.2.2.2).bind fun x9=>
  some ((qV x9),x9.2.2.2.2.2.2.2.2.2.2.2,0))
 else(pg k x8.2.2.2.2.2.2.1 x8.2.2.2.2.2.2.2.1 x8.2.2.2.2.2.2.2.2.1 x8.2.2.2.2.2.2.2.2.2.1 x8.2.2.2.2.2.2.2.2.2.2.1 x8.2.2.2.2.2.2.2.2.2.2.2.1 x8.2.2.2.2.2.2.2.2.2.2.2.2.1 x8.2.2.2.2.2.2.2.2.2.2.2.2.2.1 x8.2.2.2.2.2.2.2.2.2.2.2.2.2.2.1 x8.2.2.2.2.2.2.2.2.2.2.2.2.2.2.2.1 x8.2.2.2.2.2.2.2.2.2.2.2.2.2.2.2.2.1 (decide (a2.2.1=13))).bind fun cq=>
 bif zQ (x8.2.2.2.2.2.2.2.2.2.2.2.2.2.2.2.2.2.2.length + cq.2.2.2.2.2.2.2.2.2.2.2.length) 64 then (let y1:List qP:=(x8.2.2.2.2.2.2.2.2.2.2.2.2.2.2.2.2.2.2++cq.2.2.2.2.2.2.2.2.2.2.2)
  bif decide (a2.2.1 = 1) then ((nS k cq.2.2.2.2.2.2.2.1 a2.2.2.1).bind fun gn=>
   bif decide (gn ≥ 0) then ((uN k (GX x8 y1) 19 [a2.2.2.1]).bind fun lD=>
    some ((qV cq),lD.2.2.2.2.2.2.2.2.2.2.2.2.2.2.2.2.2,0))
   else some ((qV cq),y1,0))
  else some ((qV cq),y1,0))
 else none
def vd (k:Nat)(bh:gv)(dw:wE)(a1:AC):Option (Int×gv×wE):=
 (Lj k dw (zA (1-bh.1)) (zA (bh.2.1+1)) a1).bind fun x0=>
 bif decide (x0.1=0) then some (x0.1,((zA (1-bh.1)),(zA (bh.2.1+1)),0,false),x0.2)
 else some (x0.1,bh,x0.2)
def Xi (k:Nat)(a0:Int):Option Bool:=
 (vF k a0 0 1048576).bind fun x0=>
 some (!x0)
def G2 (k:Nat)(rec:qPo)(s0:AC)(s7 s8:Int):Option (Unit⊕Int):=
 bif decide (s8 < s7) then (bif zB s8 s0.length then ((Xi k (s0.getD s8.toNat 0)).bind fun x0=>
   bif x0 then some (.inr s8)
   else rec s0 s7 (zA (s8+1)))
  else none)
 else some (.inl ())
def B4 (k:Nat):Nat→qPo
 |0,_,_,_=>none
 |n+1,s0,s7,s8=>G2 k (B4 k n) s0 s7 s8
def Xj (k:Nat)(a0:AC):Option Int:=
 (B4 k k a0 (a0.length:Int) 0).bind fun z=>
 match z with
 |.inl z1=>some (-1)
 |.inr z2=>some z2
def Lb (k:Nat)(a0:AC):Option Bool:=
 (Xj k a0).bind fun x0=>
 some (decide (x0≥0))
def Xk (k:Nat)(a0:Int):Option Bool:=
 some (decide (a0>1099511627776))
def G3 (k:Nat)(rec:qPo)(s0:AC)(s7 s8:Int):Option (Unit⊕Int):=
 bif decide (s8 < s7) then (bif zB s8 s0.length then ((Xk k (s0.getD s8.toNat 0)).bind fun x0=>
   bif x0 then some (.inr s8)
   else rec s0 s7 (zA (s8+1)))
  else none)
 else some (.inl ())
def B5 (k:Nat):Nat→qPo
 |0,_,_,_=>none
 |n+1,s0,s7,s8=>G3 k (B5 k n) s0 s7 s8
def Xl (k:Nat)(a0:AC):Option Int:=
 (B5 k k a0 (a0.length:Int) 0).bind fun z=>
 match z with
 |.inl z1=>some (-1)
 |.inr z2=>some z2
def PY (k:Nat)(a0:AC):Option Bool:=
 (Xl k a0).bind fun x0=>
 some (decide (x0≥0))
abbrev qIw:Type:=EQ→Int→Int→vQ→vH→Option (Unit⊕Bool)
def G4 (k:Nat)(rec:qIw)(lI:EQ)(fx mw:Int)(b0:vQ)(b1:vH):Option (Unit⊕Bool):=
 bif decide (mw < fx) then (bif zB mw lI.length then ((sM k b0.2.1 b1.2.2.2.2.2.1 (lI.getD mw.toNat [])).bind fun x1=>
   bif !x1.2 then some (.inr false)
   else bif decide (x1.1>1152921504606846976) then some (.inr false)
   else bif zB mw b1.2.1.length then (bif !(decide (x1.1=(b1.2.1.getD mw.toNat (0,0,0)).2.1)) then some (.inr false)
    else(PY k (lI.getD mw.toNat [])).bind fun x2=>
    bif x2 then some (.inr false)
    else rec lI fx (zA (mw+1)) b0 b1)
   else none)
  else none)
 else some (.inl ())
def yi (k:Nat):Nat→qIw:=yR (fun _ _ _ _ _=>none) (G4 k)
def Lc (k:Nat)(a0:vQ)(a1:vH):Option Bool:=
 bif !(decide ((a1.2.2.2.2.2.1.length:Int)=(a0.2.1.length:Int))) then some false
 else bif !(decide ((a1.2.2.2.2.2.2.1.length:Int)=a0.1)) then some false
 else(Lb k a1.2.2.2.2.2.1).bind fun x0=>
 bif x0 then some false
 else(yi k k a1.2.2.2.2.2.2.1 (a1.2.2.2.2.2.2.1.length:Int) 0 a0 a1).bind fun z=>
 match z with
 |.inl z1=>some true
 |.inr z2=>some z2
abbrev qVh:Type:=List zC→Int→Option (Unit⊕Bool)
def PV (k:Nat)(rec:qVh)(s0:List zC)(s5:Int):Option (Unit⊕Bool):=
 bif decide (s5 > 0) then (bif zB s5 s0.length then (bif zB (zA (s5 - 1)) s0.length then ((E8 k (s0.getD s5.toNat (0,0,0,0,0,0,0)).1 (s0.getD s5.toNat (0,0,0,0,0,0,0)).2.1 (s0.getD s5.toNat (0,0,0,0,0,0,0)).2.2.1 (s0.getD s5.toNat (0,0,0,0,0,0,0)).2.2.2.1 (s0.getD s5.toNat (0,0,0,0,0,0,0)).2.2.2.2.1 (s0.getD s5.toNat (0,0,0,0,0,0,0)).2.2.2.2.2.1 (s0.getD s5.toNat (0,0,0,0,0,0,0)).2.2.2.2.2.2 (s0.getD (zA (s5-1)).toNat (0,0,0,0,0,0,0)).1 (s0.getD (zA (s5-1)).toNat (0,0,0,0,0,0,0)).2.1 (s0.getD (zA (s5-1)).toNat (0,0,0,0,0,0,0)).2.2.1 (s0.getD (zA (s5-1)).toNat (0,0,0,0,0,0,0)).2.2.2.1 (s0.getD (zA (s5-1)).toNat (0,0,0,0,0,0,0)).2.2.2.2.1 (s0.getD (zA (s5-1)).toNat (0,0,0,0,0,0,0)).2.2.2.2.2.1 (s0.getD (zA (s5-1)).toNat (0,0,0,0,0,0,0)).2.2.2.2.2.2).bind fun x0=>
    bif decide (x0<0) then some (.inr false)
    else rec s0 (zA (s5-1)))
   else none)
  else none)
 else some (.inl ())
def K6 (k:Nat):Nat→qVh:=yR (fun _ _=>none) (PV k)
def PU (k:Nat)(a0:List zC):Option Bool:=
 (K6 k k a0 (zA ((a0.length:Int)-1))).bind fun z=>
 match z with
 |.inl z1=>some true
 |.inr z2=>some z2
abbrev qOd:Type:=(List zC)⊕Bool
abbrev qIm:Type:=List zC→List zC→Int→Int→Option qOd
def GZ (k:Nat)(rec:qIm)(s0 s5:List zC)(s6 s7:Int):Option qOd:=
 bif decide (s7 < s6) then (bif zB s7 s5.length then ((nS k s0 (s5.getD s7.toNat (0,0,0,0,0,0,0)).1).bind fun x0=>
   bif !(decide (x0=s7)) then some (.inr false)
   else rec s0 s5 s6 (zA (s7+1)))
  else none)
 else some (.inl s0)
def B2 (k:Nat):Nat→qIm
 |0,_,_,_,_=>none
 |n+1,s0,s5,s6,s7=>GZ k (B2 k n) s0 s5 s6 s7
def K5 (k:Nat)(a0:List zC):Option Bool:=
 (B2 k k a0 a0 (a0.length:Int) 0).bind fun z=>
 match z with
 | .inl z1 => bif decide ((z1.length : Int) ≤ 40) then ((PU k z1).bind fun x1=>
   some x1)
  else some false
 |.inr z2=>some z2
abbrev qNi:Type:=AC→Int→AC→Int→Int→Option (AC⊕Bool)
def G0 (k:Nat)(rec:qNi)(s0:AC)(s3:Int)(s6:AC)(s7 s8:Int):Option (AC⊕Bool):=
 bif decide (s8 < s7) then (bif zB s8 s6.length then (bif decide ((s6.getD s8.toNat 0)≤s3) then some (.inr false)
   else rec s0 (s6.getD s8.toNat 0) s6 s7 (zA (s8+1)))
  else none)
 else some (.inl s0)
def K8 (k:Nat):Nat→qNi:=yR (fun _ _ _ _ _=>none) (G0 k)
def K7 (k:Nat)(a0:AC):Option Bool:=
 (K8 k k a0 0 a0 (a0.length:Int) 0).bind fun z=>
 match z with
 |.inl z1=>some (decide ((z1.length:Int)≤200))
 |.inr z2=>some z2
def OD (k:Nat)(a0:AC)(a1:Int):Option Bool:=
 (Fi k a0 a1).bind fun x0=>
 some x0.2
def PX (k:Nat)(a0:zC)(a1:vH):Option Bool:=
 (Em k a1.2.1 a1.2.2.1 a1.2.2.2.1 a1.2.2.2.2.1 a0.1 a0.2.1 a0.2.2.1 a0.2.2.2.1 a0.2.2.2.2.1 a0.2.2.2.2.2.1 a0.2.2.2.2.2.2).bind fun x0=>
 bif !x0 then some true
 else bif decide (a0.2.2.2.2.2.1<0) then some true
 else(vF k a0.2.2.2.2.2.2 a0.2.2.2.2.2.1 1048576).bind fun x1=>
 bif !x1 then some true
 else(OD k a1.2.2.2.2.2.2.2.2.1 a0.1).bind fun x2=>
 some (!x2)
abbrev qVg:Type:=List zC→Int→Int→Int→List zI→EQ→AC→EQ→AC→EQ→List zC→AC→Int→Bool→Option (Unit⊕Int)
def G1 (k:Nat)(rec:qVg)(s0:List zC)(s7 s8 af:Int)(ai:List zI)(aj:EQ)(ah:AC)(aY:EQ)(bp:AC)(bq:EQ)(dQ:List zC)(dR:AC)(dU:Int)(bY:Bool):Option (Unit⊕Int):=
 bif decide (s8 < s7) then (bif zB s8 s0.length then ((PX k (s0.getD s8.toNat (0,0,0,0,0,0,0)) (af,ai,aj,ah,aY,bp,bq,dQ,dR,dU,bY)).bind fun x0=>
   bif x0 then some (.inr s8)
   else rec s0 s7 (zA (s8+1)) af ai aj ah aY bp bq dQ dR dU bY)
  else none)
 else some (.inl ())
def B3 (k:Nat):Nat→qVg
 |0,_,_,_,_,_,_,_,_,_,_,_,_,_,_=>none
 |n+1,s0,s7,s8,af,ai,aj,ah,aY,bp,bq,dQ,dR,dU,bY=>G1 k (B3 k n) s0 s7 s8 af ai aj ah aY bp bq dQ dR dU bY
def Xh (k:Nat)(a0:List zC)(fT:Int)(bS:List zI)(cF:EQ)(cG:AC)(cH:EQ)(dD:AC)(eF:EQ)(fU:List zC)(ju:AC)(eG:Int)(fV:Bool):Option Int:=
 (B3 k k a0 (a0.length:Int) 0 fT bS cF cG cH dD eF fU ju eG fV).bind fun z=>
 match z with
 |.inl z1=>some (-1)
 |.inr z2=>some z2
def PW (k:Nat)(a0:List zC)(fT:Int)(bS:List zI)(cF:EQ)(cG:AC)(cH:EQ)(dD:AC)(eF:EQ)(fU:List zC)(ju:AC)(eG:Int)(fV:Bool):Option Bool:=
 (Xh k a0 fT bS cF cG cH dD eF fU ju eG fV).bind fun x0=>
 some (decide (x0≥0))
def K9 (k:Nat)(a0:vH):Option Bool:=
 (K5 k a0.2.2.2.2.2.2.2.1).bind fun x0=>
 bif x0 then ((K7 k a0.2.2.2.2.2.2.2.2.1).bind fun x1=>
  bif x1 then ((PW k a0.2.2.2.2.2.2.2.1 a0.1 a0.2.1 a0.2.2.1 a0.2.2.2.1 a0.2.2.2.2.1 a0.2.2.2.2.2.1 a0.2.2.2.2.2.2.1 a0.2.2.2.2.2.2.2.1 a0.2.2.2.2.2.2.2.2.1 a0.2.2.2.2.2.2.2.2.2.1 a0.2.2.2.2.2.2.2.2.2.2).bind fun x2=>
   some (!x2))
  else some false)
 else some false
abbrev qO7:Type:=vQ×vH×AC
abbrev qSe:Type:=List zI→Int→Int→vQ→vH→AC→Option qO7
def G6 (k:Nat)(rec:qSe)(oq:List zI)(s45 Rv:Int)(b0:vQ)(b1:vH)(r2:AC):Option qO7:=
 bif decide (Rv < s45) then (bif zB Rv oq.length then (bif zQ (r2.length+1) 8 then(rec oq s45 (zA (Rv+1)) b0 b1 (r2++[(oq.getD Rv.toNat (0,0,0)).1]))
   else none)
  else none)
 else some (b0,b1,r2)
def G5 (k:Nat):Nat→qSe:=yR (fun _ _ _ _ _ _=>none) (G6 k)
def Ld (k:Nat)(a0:vQ)(a1:vH):Option Bool:=
 (vF k a1.1 0 a0.2.2.2.1).bind fun x0=>
 bif !x0 then some false
 else(Bb k a1.2.1 a1.2.2.1 a1.2.2.2.1 a1.2.2.2.2.1).bind fun x1=>
 bif !x1 then some false
 else bif !(decide ((a1.2.1.length:Int)=a0.1)) then some false
 else(Lc k a0 a1).bind fun x2=>
 bif !x2 then some false
 else(K9 k a1).bind fun x3=>
 bif !x3 then some false
 else(G5 k k a1.2.1 (a1.2.1.length:Int) 0 a0 a1 []).bind fun z=>
 (Fk k z.2.2).bind fun x4=>
 bif !x4.2 then some false
 else bif !(decide (x4.1=z.2.1.2.2.2.2.2.2.2.2.2.1)) then some false
 else(vF k x4.1 0 1152921504606846976).bind fun x5=>
 bif !x5 then some false
 else(BD k z.1.1 z.1.2.1 z.1.2.2.1 z.1.2.2.2.1 z.1.2.2.2.2 z.2.1.1).bind fun x6=>
 bif nu z.2.1.2.2.2.2.2.2.2.2.2.2 x6 then (bif !z.2.1.2.2.2.2.2.2.2.2.2.2 then some true
  else some (decide ((z.2.1.2.2.2.2.2.2.2.1.length:Int)=0)))
 else some false
abbrev qT8:Type:=Int×Bool×y8×AC×AC×vQ×gv×vH
abbrev qLl:Type:=Int→Bool→EQ→Int→Int→y8→AC→AC→vQ→gv→vH→Option qT8
def ym (k:Nat)(rec:qLl)(s2:Int)(dh:Bool)(Rw:EQ)(s73 LZ:Int)(b0:y8)(r1 r2:AC)(b3:vQ)(b4:gv)(b5:vH):Option qT8:=
 bif decide (LZ < s73) then (bif zB LZ Rw.length then ((sU k (Rw.getD LZ.toNat [])).bind fun x8=>
   bif decide (x8.2 = 0) then ((im k b3 b5 x8.1).bind fun x9=>
    rec s2 dh Rw s73 (zA (LZ+1)) b0 r1 r2 b3 b4 x9.1)
   else rec s2 dh Rw s73 (zA (LZ+1)) b0 r1 r2 b3 b4 b5)
  else none)
 else some (s2,dh,b0,r1,r2,b3,b4,b5)
def yl (k:Nat):Nat→qLl:=yR (fun _ _ _ _ _ _ _ _ _ _ _=>none) (ym k)
def jO (k:Nat)(a0:vQ)(a1:wE)(a2:Int):Option ((Int×wE×pw×gv)⊕(Int×wE)):=
 (qp k a0).bind fun x0=>
 bif !x0 then some (.inr (1,a1))
 else bif decide (a2<1) then some (.inr (1,a1))
 else bif decide (a2>1000) then some (.inr (1,a1))
 else(Ln k a1).bind fun x1=>
 (qn k a0).bind fun x2=>
 (mb k x2).bind fun x3=>
 (P2 k a1 x3).bind fun x4=>
 match x4 with
 |.inl x5=>bif !(decide (x5.2.2.1=0)) then some (.inr (x5.2.2.1,x5.2.2.2.1))
  else(Ky k x5.1).bind fun x6=>
  bif !x6.2 then ((qn k a0).bind fun x7=>
   (yl k k a2 x1.2.2.2.2 x5.2.1 (x5.2.1.length:Int) 0 (x5.2.2.2.1.1,x5.2.2.2.1.2.2.1,x5.2.2.2.1.2.2.2.2) x5.2.2.2.1.2.1 x5.2.2.2.1.2.2.2.1 a0 x5.2.2.2.2 x7).bind fun z=>
   bif z.2.1 then ((mb k z.2.2.2.2.2.2.2).bind fun cq=>
    (vd k z.2.2.2.2.2.2.1 (z.2.2.1.1,z.2.2.2.1,z.2.2.1.2.1,z.2.2.2.2.1,z.2.2.1.2.2) cq).bind fun gn=>
    bif !(decide (gn.1=0)) then some (.inr (gn.1,gn.2.2))
    else some (.inl (0,gn.2.2,(jI z.2.2.2.2.2.1 (Hz z (z.1,false))),gn.2.1)))
   else some (.inl (0,(z.2.2.1.1,z.2.2.2.1,z.2.2.1.2.1,z.2.2.2.2.1,z.2.2.1.2.2),(jI z.2.2.2.2.2.1 (Hz z (z.1,false))),z.2.2.2.2.2.2.1)))
  else(Ld k a0 x6.1).bind fun lD=>
  bif !lD then ((qn k a0).bind fun og=>
   (yl k k a2 x1.2.2.2.2 x5.2.1 (x5.2.1.length:Int) 0 (x5.2.2.2.1.1,x5.2.2.2.1.2.2.1,x5.2.2.2.1.2.2.2.2) x5.2.2.2.1.2.1 x5.2.2.2.1.2.2.2.1 a0 x5.2.2.2.2 og).bind fun z1=>
   bif z1.2.1 then ((mb k z1.2.2.2.2.2.2.2).bind fun vh=>
    (vd k z1.2.2.2.2.2.2.1 (z1.2.2.1.1,z1.2.2.2.1,z1.2.2.1.2.1,z1.2.2.2.2.1,z1.2.2.1.2.2) vh).bind fun bW=>
    bif !(decide (bW.1=0)) then some (.inr (bW.1,bW.2.2))
    else some (.inl (0,bW.2.2,(jI z1.2.2.2.2.2.1 (Hz z1 (z1.1,false))),bW.2.1)))
   else some (.inl (0,(z1.2.2.1.1,z1.2.2.2.1,z1.2.2.1.2.1,z1.2.2.2.2.1,z1.2.2.1.2.2),(jI z1.2.2.2.2.2.1 (Hz z1 (z1.1,false))),z1.2.2.2.2.2.2.1)))
  else(yl k k a2 x1.2.2.2.2 x5.2.1 (x5.2.1.length:Int) 0 (x5.2.2.2.1.1,x5.2.2.2.1.2.2.1,x5.2.2.2.1.2.2.2.2) x5.2.2.2.1.2.1 x5.2.2.2.1.2.2.2.1 a0 x5.2.2.2.2 x6.1).bind fun z2=>
  bif z2.2.1 then ((mb k z2.2.2.2.2.2.2.2).bind fun mr=>
   (vd k z2.2.2.2.2.2.2.1 (z2.2.2.1.1,z2.2.2.2.1,z2.2.2.1.2.1,z2.2.2.2.2.1,z2.2.2.1.2.2) mr).bind fun iX=>
   bif !(decide (iX.1=0)) then some (.inr (iX.1,iX.2.2))
   else some (.inl (0,iX.2.2,(jI z2.2.2.2.2.2.1 (Hz z2 (z2.1,false))),iX.2.1)))
  else some (.inl (0,(z2.2.2.1.1,z2.2.2.2.1,z2.2.2.1.2.1,z2.2.2.2.2.1,z2.2.2.1.2.2),(jI z2.2.2.2.2.2.1 (Hz z2 (z2.1,false))),z2.2.2.2.2.2.2.1))
 |.inr pv=>bif !(decide (pv.2.2.1=0)) then some (.inr (pv.2.2.1,pv.2.2.2))
  else(Ky k pv.1).bind fun ix=>
  bif !ix.2 then ((qn k a0).bind fun nq=>
   none)
  else(Ld k a0 ix.1).bind fun Hu=>
  bif !Hu then ((qn k a0).bind fun Cm=>
   none)
  else none
def yX1 (k:Nat)(rec:X9)(s0 s1 s6:Int)(r0:AC):Option AC:=
 bif decide (s6 < s0) then (bif zB s6 r0.length then(rec s0 s1 (zA (s6+1)) (r0.set s6.toNat s1))
  else none)
 else some r0
def QV (k:Nat):Nat→X9
 |0,_,_,_,_=>none
 |n+1,s0,s1,s6,r0=>yX1 k (QV k n) s0 s1 s6 r0
def qTy (k:Nat)(a0 a1:Int):Option AC:=
 bif decide (a0<0) then some []
 else bif decide (a0>6) then some []
 else bif sj a0 a0 8 then ((QV k k a0 a1 0 (List.replicate a0.toNat (0:Int))).bind fun z=>
  some z)
 else none
abbrev qXy:Type:=Int→Int→Int→EQ→Option EQ
def yN5 (k:Nat)(rec:qXy)(s0 s1 s6:Int)(m0:EQ):Option EQ:=
 bif decide (s6 < s0) then ((qTy k s0 s1).bind fun x0=>
  bif zQ (m0.length+1) 24 then(rec s0 s1 (zA (s6+1)) (m0++[x0]))
  else none)
 else some m0
def QW (k:Nat):Nat→qXy
 |0,_,_,_,_=>none
 |n+1,s0,s1,s6,m0=>yN5 k (QW k n) s0 s1 s6 m0
def qT9 (k:Nat)(a0 a1:Int):Option EQ:=
 bif decide (a0<0) then some []
 else bif decide (a0>6) then some []
 else(QW k k a0 a1 0 []).bind fun z=>
 some z
abbrev qOv:Type:=Int→Int→vQ→vM→vM→List zI→EQ→AC→EQ→AC→Option Ye
def yUu (k:Nat)(rec:qOv)(s3 s5:Int)(b0:vQ)(b1 b2:vM)(r3:List zI)(m4:EQ)(r5:AC)(m6:EQ)(r7:AC):Option Ye:=
 bif decide (s5 < (b0.2.1.length : Int)) then (bif zB s5 b0.2.1.length then (bif zQ (r7.length+1) 8 then(rec s3 (zA (s5+1)) b0 b1 b2 r3 m4 r5 m6 (r7++[(b0.2.1.getD s5.toNat (0,0)).1]))
   else none)
  else none)
 else some (s3,b0,b1,b2,r3,m4,r5,m6,r7)
def qX6 (k:Nat):Nat→qOv:=yR (fun _ _ _ _ _ _ _ _ _ _=>none) (yUu k)
def yAj (k:Nat)(rec:Yg)(s3 s6:Int)(b0:vQ)(b1 b2:vM)(r3:List zI)(m4:EQ)(r5:AC)(m6:EQ)(r7:AC)(m8:EQ):Option Yh:=
 bif decide (s6 < s3) then (bif sj (b0.2.1.length : Int) (b0.2.1.length : Int) 8 then (bif zQ (m8.length+1) 24 then(rec s3 (zA (s6+1)) b0 b1 b2 r3 m4 r5 m6 r7 (m8++[(List.replicate b0.2.1.length (0:Int))]))
   else none)
  else none)
 else some (b1,b2,r3,m4,r5,m6,r7,m8)
def qJa (k:Nat):Nat→Yg:=yR (fun _ _ _ _ _ _ _ _ _ _ _=>none) (yAj k)
def P9 (k:Nat)(a0:vQ):Option vH:=
 bif sj a0.1 a0.1 24 then ((qT9 k a0.1 (-1)).bind fun x0=>
  (qTy k a0.1 (-1)).bind fun x1=>
  (qT9 k a0.1 0).bind fun x2=>
  (qX6 k k a0.1 0 a0 (0,0,false) (0,0,false) (List.replicate a0.1.toNat ((0,0,0):Int×Int×Int)) x0 x1 x2 []).bind fun z=>
  (qJa k k z.1 0 z.2.1 z.2.2.1 z.2.2.2.1 z.2.2.2.2.1 z.2.2.2.2.2.1 z.2.2.2.2.2.2.1 z.2.2.2.2.2.2.2.1 z.2.2.2.2.2.2.2.2 []).bind fun z1=>
  some (z1.2.1.1,(yUa z1 ([],[],z1.2.1.2))))
 else none
def qs (k:Nat)(bh:pw)(dw:gv)(mv:wE):Option (Bool×pw×gv×wE):=
 some (bh.2.2.2.2.2.2.2.2.2.2.2.2.2.2.2.2.2,bh,dw,mv)
def LM (k:Nat)(a0 a1:Int):Option (List qP):=
 some [(a0,16,a1,0,0,0,0,0)]
def Wn (k:Nat)(a0:zC):Option AC:=
 (kb k a0).bind fun x0=>
 bif !x0 then some []
 else(uo k a0.1).bind fun x1=>
 bif (decide (0 ≤ x1)) && (decide (x1 ≤ 6)) then ((xn k (qS [a0.2.1,a0.2.2.1,a0.2.2.2.1,a0.2.2.2.2.1,a0.2.2.2.2.2.1,a0.2.2.2.2.2.2] 0 (x1.toNat-0))).bind fun x2=>
  bif zQ (1+x2.length) 1 then some ([(IntKind.wrap .u8 (a0.1))]++x2)
  else none)
 else none
def O9 (k:Nat)(a0:qP):Option AC:=
 (Wn k a0.2).bind fun x0=>
 bif decide ((x0.length:Int)=0) then some []
 else(xn k [a0.1]).bind fun x1=>
 bif zQ (x1.length+x0.length) 1 then some (x1++x0)
 else none
def Ll (k:Nat)(bh:gv)(dw:wE)(a1:AC):Option (Int×gv×wE):=
 (I3 k a1).bind fun x0=>
 bif !x0.2 then some (10,bh,dw)
 else bif bh.2.2.2 then some (10,bh,dw)
 else(yj k dw bh.1 x0.1).bind fun x1=>
 bif decide (x1.1=3) then some (10,bh,x1.2)
 else bif decide (x1.1 = 0) then ((u9 k x1.2).bind fun x2=>
  bif decide (x2.1=0) then some (x2.1,(bh.1,bh.2.1,(zA (bh.2.2.1+1)),bh.2.2.2),x2.2)
  else some (x2.1,bh,x2.2))
 else bif decide (x1.1=0) then some (x1.1,(bh.1,bh.2.1,(zA (bh.2.2.1+1)),bh.2.2.2),x1.2)
 else some (x1.1,bh,x1.2)
def P4 (k:Nat)(bh:pw)(dw:gv)(mv:wE)(a1:AC):Option (Int×pw×gv×wE):=
 (Ll k dw mv a1).bind fun x0=>
 bif !(decide (x0.1=10)) then some (x0.1,bh,x0.2.1,x0.2.2)
 else(mb k (qq bh)).bind fun x1=>
 (vd k x0.2.1 x0.2.2 x1).bind fun x2=>
 bif !(decide (x2.1=0)) then some (x2.1,bh,x2.2.1,x2.2.2)
 else(Ll k x2.2.1 x2.2.2 a1).bind fun x3=>
 some (x3.1,bh,x3.2.1,x3.2.2)
def P5 (k:Nat)(bh:gv)(dw:wE):Option (Int×gv×wE):=
 some (bh.2.2.1,bh,dw)
def nY (k:Nat)(bh:pw)(dw:gv)(mv:wE)(a1:Int)(a2:AC):Option ((List qP)×pw×gv×wE):=
 (qs k bh dw mv).bind fun x0=>
 bif x0.1 then some ([],x0.2.1,x0.2.2.1,x0.2.2.2)
 else(A4 k a2).bind fun x1=>
 bif !(decide (x1.2 = 0)) then ((LM k a1 x1.2).bind fun x2=>
  some (x2,x0.2.1,x0.2.2.1,x0.2.2.2))
 else(im k (yV x0.2.1) (qq x0.2.1) (a1,x1.1)).bind fun x3=>
 bif !(decide (x3.2.2 = 0)) then ((LM k a1 x3.2.2).bind fun x4=>
  some (x4,x0.2.1,x0.2.2.1,x0.2.2.2))
 else bif decide (x1.1.1=9) then some (x3.2.1,x0.2.1,x0.2.2.1,x0.2.2.2)
 else(O9 k (a1,x1.1)).bind fun x5=>
 (P4 k x0.2.1 x0.2.2.1 x0.2.2.2 x5).bind fun x6=>
 bif decide (x6.1 = 0) then ((P5 k x6.2.2.1 x6.2.2.2).bind fun x7=>
  bif decide (x7.1 ≥ x6.2.1.2.2.2.2.2.2.2.2.2.2.2.2.2.2.2.2.1) then ((mb k x3.1).bind fun x8=>
   (vd k x7.2.1 x7.2.2 x8).bind fun x9=>
   bif decide (x9.1=11) then some (x3.2.1,(tl x6.2.1 (wZ x3.1 (x6.2.1.2.2.2.2.2.2.2.2.2.2.2.2.2.2.2.2.1,true))),x9.2.1,x9.2.2)
   else some (x3.2.1,(tl x6.2.1 (wZ x3.1 x6.2.1.2.2.2.2.2.2.2.2.2.2.2.2.2.2.2.2)),x9.2.1,x9.2.2))
  else some (x3.2.1,(tl x6.2.1 (wZ x3.1 x6.2.1.2.2.2.2.2.2.2.2.2.2.2.2.2.2.2.2)),x7.2.1,x7.2.2))
 else bif decide (x6.1 = 10) then ((LM k a1 10).bind fun cq=>
  some (cq,x6.2.1,x6.2.2.1,x6.2.2.2))
 else some ([],(yE x6.2.1 true),x6.2.2.1,x6.2.2.2)
def DP (k:Nat)(a0:Int):Option Int:=
 bif decide (a0<0) then some (-1)
 else bif decide (a0≥24) then some (-1)
 else bif zB a0 24 then some (List.getD [(-1),6,1,2,2,2,1,1,2,0,2,2,2,0,0,0,1,5,4,1,1,1,1,1] a0.toNat 0)
 else none
def PQ (k:Nat)(a0:Int):Option Bool:=
 bif decide (a0≥1) then some (decide (a0≤14))
 else some false
abbrev qRt:Type:=Int→Int→zC→Option (Int⊕Bool)
def Xc (k:Nat)(rec:qRt)(s3 s4:Int)(b0:zC):Option (Int⊕Bool):=
 bif decide (s4 < 6) then (bif decide (s4 = 0) then (bif !(decide (b0.2.1=0)) then some (.inr false)
   else rec s3 (zA (s4+1)) b0)
  else bif decide (s4 = 1) then (bif !(decide (b0.2.2.1=0)) then some (.inr false)
   else rec s3 (zA (s4+1)) b0)
  else bif decide (s4 = 2) then (bif !(decide (b0.2.2.2.1=0)) then some (.inr false)
   else rec s3 (zA (s4+1)) b0)
  else bif decide (s4 = 3) then (bif !(decide (b0.2.2.2.2.1=0)) then some (.inr false)
   else rec s3 (zA (s4+1)) b0)
  else bif decide (s4 = 4) then (bif !(decide (b0.2.2.2.2.2.1=0)) then some (.inr false)
   else rec s3 (zA (s4+1)) b0)
  else bif decide (s4 = 5) then (bif !(decide (b0.2.2.2.2.2.2=0)) then some (.inr false)
   else rec s3 (zA (s4+1)) b0)
  else none)
 else some (.inl s3)
def xQ (k:Nat):Nat→qRt:=yR (fun _ _ _=>none) (Xc k)
def sV (k:Nat)(a0:zC):Option Bool:=
 (DP k a0.1).bind fun x0=>
 (xQ k k x0 (vZ false x0 0) a0).bind fun z=>
 match z with
 |.inl z1=>some (decide (z1≥0))
 |.inr z2=>some z2
def PR (k:Nat)(a0:Int):Option Bool:=
 bif decide (a0≥10) then some (decide (a0≤14))
 else some false
def BW (k:Nat)(a0:vQ)(a1:qP):Option Bool:=
 (PQ k a1.2.1).bind fun x0=>
 bif !x0 then some false
 else(sV k a1.2).bind fun x1=>
 bif !x1 then some false
 else(PR k a1.2.1).bind fun x2=>
 bif x2 then some (decide (a1.1=(-1)))
 else bif decide (a1.1≥0) then some (decide (a1.1<a0.1))
 else some false
abbrev qNl:Type:=List zC→Int→Int→List zC→Option Y4
def EX (k:Nat)(rec:qNl)(s0:List zC)(s1 s6:Int)(r0:List zC):Option Y4:=
 bif decide (s6 < (s0.length : Int)) then (bif zB s6 s0.length then (bif decide ((s0.getD s6.toNat (0, 0, 0, 0, 0, 0, 0)).2.1 = s1) then (bif zB s6 s0.length then (bif zQ (r0.length + 1) 56 then (let y0:List zC:=(r0++[(s0.getD s6.toNat (0,0,0,0,0,0,0))])
      rec s0 s1 (zA (s6+1)) y0)
     else none)
    else none)
   else rec s0 s1 (zA (s6+1)) r0)
  else none)
 else some r0
def JP (k:Nat):Nat→qNl
 |0,_,_,_,_=>none
 |n+1,s0,s1,s6,r0=>EX k (JP k n) s0 s1 s6 r0
def uA (k:Nat)(a0:List zC)(a1:Int):Option (List zC):=
 (JP k k a0 a1 0 []).bind fun z=>
 some z
abbrev qPc:Type:=Int×Int×Int×Int×Int×Int×Int×Int×Int×Int×Int×Int×Int×Int
abbrev qSf:Type:=AC→Int→Int→Int→Int→Int→Int→Int→Int→Int→Int→Int→Int→Int→Int→Int→Option qPc
def yNw (k:Nat)(rec:qSf)(s1:AC)(s6 af ai aj ah aY bp bq aw aC aD aF aH aI aJ:Int):Option qPc:=
 bif decide (s6 < (s1.length : Int)) then (bif decide (s6 < 6) then (bif zB s6 s1.length then (bif decide (s6=0) then(rec s1 (zA (s6+1)) af ai aj ah aY bp bq aw (s1.getD s6.toNat 0) aD aF aH aI aJ)
    else bif decide (s6=1) then(rec s1 (zA (s6+1)) af ai aj ah aY bp bq aw aC (s1.getD s6.toNat 0) aF aH aI aJ)
    else bif decide (s6=2) then(rec s1 (zA (s6+1)) af ai aj ah aY bp bq aw aC aD (s1.getD s6.toNat 0) aH aI aJ)
    else bif decide (s6=3) then(rec s1 (zA (s6+1)) af ai aj ah aY bp bq aw aC aD aF (s1.getD s6.toNat 0) aI aJ)
    else bif decide (s6=4) then(rec s1 (zA (s6+1)) af ai aj ah aY bp bq aw aC aD aF aH (s1.getD s6.toNat 0) aJ)
    else bif decide (s6=5) then(rec s1 (zA (s6+1)) af ai aj ah aY bp bq aw aC aD aF aH aI (s1.getD s6.toNat 0))
    else none)
   else none)
  else some (af,ai,aj,ah,aY,bp,bq,aw,aC,aD,aF,aH,aI,aJ))
 else some (af,ai,aj,ah,aY,bp,bq,aw,aC,aD,aF,aH,aI,aJ)
def Q5 (k:Nat):Nat→qSf
 |0,_,_,_,_,_,_,_,_,_,_,_,_,_,_,_,_=>none
 |n+1,s1,s6,af,ai,aj,ah,aY,bp,bq,aw,aC,aD,aF,aH,aI,aJ=>yNw k (Q5 k n) s1 s6 af ai aj ah aY bp bq aw aC aD aF aH aI aJ
def wU (k:Nat)(a0:Int)(a1:AC):Option zC:=
 (Q5 k k a1 0 0 0 0 0 0 0 0 a0 0 0 0 0 0 0).bind fun z=>
 some (z.2.2.2.2.2.2.2.1,z.2.2.2.2.2.2.2.2.1,z.2.2.2.2.2.2.2.2.2.1,z.2.2.2.2.2.2.2.2.2.2.1,z.2.2.2.2.2.2.2.2.2.2.2.1,z.2.2.2.2.2.2.2.2.2.2.2.2.1,z.2.2.2.2.2.2.2.2.2.2.2.2.2)
def PN (k:Nat)(a0:vQ)(a1:Int):Option Bool:=
 some (decide (a1=a0.2.2.2.1))
def W8 (k:Nat)(cd bg bC ct bO ca bR a1:Int):Option Bool:=
 some (decide (a1>bR))
abbrev qMk:Type:=List zC→Int→Int→Option (Unit⊕Int)
def E5 (k:Nat)(rec:qMk)(s0:List zC)(s1 s5:Int):Option (Unit⊕Int):=
 bif decide (s5 < (s0.length : Int)) then (bif zB s5 s0.length then (bif decide ((s0.getD s5.toNat (0,0,0,0,0,0,0)).1=s1) then some (.inr s5)
   else rec s0 s1 (zA (s5+1)))
  else none)
 else some (.inl ())
def E4 (k:Nat):Nat→qMk
 |0,_,_,_=>none
 |n+1,s0,s1,s5=>E5 k (E4 k n) s0 s1 s5
def mW (k:Nat)(a0:List zC)(a1:Int):Option Int:=
 (E4 k k a0 a1 0).bind fun z=>
 match z with
 |.inl z1=>some (-1)
 |.inr z2=>some z2
def nW (k:Nat)(a0:List zC)(a1:Int):Option qPg:=
 (mW k a0 a1).bind fun x0=>
 bif decide (x0<0) then some (a0,0,0,0,0,0,0,0,4)
 else bif (decide (0 ≤ x0)) && (decide (x0 ≤ (a0.length : Int))) then (bif zQ (0 + (List.take x0.toNat a0).length) 56 then (bif (decide (0 ≤ (zA (x0 + 1)))) && (decide ((zA (x0 + 1)) ≤ (a0.length : Int))) then (bif zQ ((List.take x0.toNat a0).length + (List.drop (zA (x0 + 1)).toNat a0).length) 56 then (bif zB x0 a0.length then some (((List.take x0.toNat a0)++(List.drop (zA (x0+1)).toNat a0)),(ir (a0.getD x0.toNat (0,0,0,0,0,0,0)) 0))
     else none)
    else none)
   else none)
  else none)
 else none
def K2 (k:Nat)(a0:vQ)(a1:Int):Option Bool:=
 bif decide (a1 > 0) then (bif decide (a1 < a0.2.2.2.1) then (bif !(decide (a0.2.2.2.2=0)) then some (decide ((Int.tmod a1 a0.2.2.2.2)=0))
   else none)
  else some false)
 else some false
def Vs (k:Nat)(cd bg bC ct bO ca bR a1:Int):Option Bool:=
 bif decide (a1≥ca) then some (decide (a1≤bR))
 else some false
def EW (k:Nat)(rec:qNl)(s0:List zC)(s1 s6:Int)(r0:List zC):Option Y4:=
 bif decide (s6 < (s0.length : Int)) then (bif zB s6 s0.length then ((Vs k (s0.getD s6.toNat (0,0,0,0,0,0,0)).1 (s0.getD s6.toNat (0,0,0,0,0,0,0)).2.1 (s0.getD s6.toNat (0,0,0,0,0,0,0)).2.2.1 (s0.getD s6.toNat (0,0,0,0,0,0,0)).2.2.2.1 (s0.getD s6.toNat (0,0,0,0,0,0,0)).2.2.2.2.1 (s0.getD s6.toNat (0,0,0,0,0,0,0)).2.2.2.2.2.1 (s0.getD s6.toNat (0,0,0,0,0,0,0)).2.2.2.2.2.2 s1).bind fun x0=>
   bif x0 then (bif zB s6 s0.length then (bif zQ (r0.length + 1) 56 then (let y0:List zC:=(r0++[(s0.getD s6.toNat (0,0,0,0,0,0,0))])
      rec s0 s1 (zA (s6+1)) y0)
     else none)
    else none)
   else rec s0 s1 (zA (s6+1)) r0)
  else none)
 else some r0
def JO (k:Nat):Nat→qNl
 |0,_,_,_,_=>none
 |n+1,s0,s1,s6,r0=>EW k (JO k n) s0 s1 s6 r0
def EV (k:Nat)(a0:List zC)(a1:Int):Option (List zC):=
 (JO k k a0 a1 0 []).bind fun z=>
 some z
abbrev qPf:Type:=Int×Bool×(List zC)×(List zC)×(List zC)
abbrev qRf:Type:=Int→Bool→Int→List zC→List zC→List zC→Option qPf
def EZ (k:Nat)(rec:qRf)(s7:Int)(s9:Bool)(ax:Int)(r0 r1 r2:List zC):Option qPf:=
 bif decide (ax < (r2.length : Int)) then (bif s9 then (bif zB ax r2.length then(rec s7 (decide ((r2.getD ax.toNat (0,0,0,0,0,0,0)).2.2.2.2.1=3)) (zA (ax+1)) r0 r1 r2)
   else none)
  else rec s7 false (zA (ax+1)) r0 r1 r2)
 else some (s7,s9,r0,r1,r2)
def EY (k:Nat):Nat→qRf
 |0,_,_,_,_,_,_=>none
 |n+1,s7,s9,ax,r0,r1,r2=>EZ k (EY k n) s7 s9 ax r0 r1 r2
abbrev qI4:Type:=Int→List zC→List zC→Option Y4
def E0 (k:Nat)(rec:qI4)(s7:Int)(r0 r1:List zC):Option Y4:=
 bif decide (s7 < (r0.length : Int)) then (bif zB s7 r0.length then ((uA k r0 (r0.getD s7.toNat (0,0,0,0,0,0,0)).2.1).bind fun x1=>
   (EY k k s7 true 0 r0 r1 x1).bind fun z=>
   bif zB 0 z.2.2.2.2.length then (bif zB z.1 z.2.2.1.length then (bif (decide ((z.2.2.2.2.getD 0 (0, 0, 0, 0, 0, 0, 0)).1 = (z.2.2.1.getD z.1.toNat (0, 0, 0, 0, 0, 0, 0)).1)) && ((decide ((z.2.2.2.2.getD 0 (0, 0, 0, 0, 0, 0, 0)).2.1 = (z.2.2.1.getD z.1.toNat (0, 0, 0, 0, 0, 0, 0)).2.1)) && ((decide ((z.2.2.2.2.getD 0 (0, 0, 0, 0, 0, 0, 0)).2.2.1 = (z.2.2.1.getD z.1.toNat (0, 0, 0, 0, 0, 0, 0)).2.2.1)) && ((decide ((z.2.2.2.2.getD 0 (0, 0, 0, 0, 0, 0, 0)).2.2.2.1 = (z.2.2.1.getD z.1.toNat (0, 0, 0, 0, 0, 0, 0)).2.2.2.1)) && ((decide ((z.2.2.2.2.getD 0 (0, 0, 0, 0, 0, 0, 0)).2.2.2.2.1 = (z.2.2.1.getD z.1.toNat (0, 0, 0, 0, 0, 0, 0)).2.2.2.2.1)) && ((decide ((z.2.2.2.2.getD 0 (0, 0, 0, 0, 0, 0, 0)).2.2.2.2.2.1 = (z.2.2.1.getD z.1.toNat (0, 0, 0, 0, 0, 0, 0)).2.2.2.2.2.1)) && (decide ((z.2.2.2.2.getD 0 (0, 0, 0, 0, 0, 0, 0)).2.2.2.2.2.2 = (z.2.2.1.getD z.1.toNat (0, 0, 0, 0, 0, 0, 0)).2.2.2.2.2.2))))))) then (bif zB z.1 z.2.2.1.length then (bif zQ (z.2.2.2.1.length + 1) 56 then (let y0:List zC:=(z.2.2.2.1++[(z.2.2.1.getD z.1.toNat (0,0,0,0,0,0,0))])
        rec (zA (z.1+1)) z.2.2.1 y0)
       else none)
      else none)
     else bif z.2.1 then (bif zB z.1 z.2.2.1.length then (bif zQ (z.2.2.2.1.length + 1) 56 then (let y1:List zC:=(z.2.2.2.1++[(z.2.2.1.getD z.1.toNat (0,0,0,0,0,0,0))])
        rec (zA (z.1+1)) z.2.2.1 y1)
       else none)
      else none)
     else rec (zA (z.1+1)) z.2.2.1 z.2.2.2.1)
    else none)
   else none)
  else none)
 else some r1
def JR (k:Nat):Nat→qI4
 |0,_,_,_=>none
 |n+1,s7,r0,r1=>E0 k (JR k n) s7 r0 r1
def JQ (k:Nat)(a0:List zC)(a1:Int):Option (List zC):=
 (EV k a0 a1).bind fun x0=>
 (JR k k 0 x0 []).bind fun z1=>
 some z1
def U0 (k:Nat)(av:List zI)(aA:EQ)(az:AC)(ay:EQ)(gP cw du ek dv iV iW:Int):Option Bool:=
 bif decide (cw ≥ 0) then (bif decide (cw < (av.length : Int)) then (bif decide (du ≥ 0) then (bif decide (du < (av.length : Int)) then (bif !(decide (cw = du)) then (bif decide (ek ≥ 1) then (bif decide (ek ≤ 1099511627776) then (bif decide (dv≥1) then some (decide (dv≤3))
        else some false)
       else some false)
      else some false)
     else some false)
    else some false)
   else some false)
  else some false)
 else some false
abbrev qJ2:Type:=List zC→Int→List zI→EQ→AC→EQ→Option qOd
def Eo (k:Nat)(rec:qJ2)(s1:List zC)(s5:Int)(af:List zI)(ai:EQ)(aj:AC)(ah:EQ):Option qOd:=
 bif decide (s5 < (s1.length : Int)) then (bif zB s5 s1.length then ((U0 k af ai aj ah (s1.getD s5.toNat (0,0,0,0,0,0,0)).1 (s1.getD s5.toNat (0,0,0,0,0,0,0)).2.1 (s1.getD s5.toNat (0,0,0,0,0,0,0)).2.2.1 (s1.getD s5.toNat (0,0,0,0,0,0,0)).2.2.2.1 (s1.getD s5.toNat (0,0,0,0,0,0,0)).2.2.2.2.1 (s1.getD s5.toNat (0,0,0,0,0,0,0)).2.2.2.2.2.1 (s1.getD s5.toNat (0,0,0,0,0,0,0)).2.2.2.2.2.2).bind fun x0=>
   bif !x0 then some (.inr false)
   else rec s1 (zA (s5+1)) af ai aj ah)
  else none)
 else some (.inl s1)
def Jv (k:Nat):Nat→qJ2
 |0,_,_,_,_,_,_=>none
 |n+1,s1,s5,af,ai,aj,ah=>Eo k (Jv k n) s1 s5 af ai aj ah
def Ju (k:Nat)(av:List zI)(aA:EQ)(az:AC)(ay:EQ)(a1:List zC):Option Bool:=
 (Jv k k a1 0 av aA az ay).bind fun z=>
 match z with
 |.inl z1=>some (decide ((z1.length:Int)≤64))
 |.inr z2=>some z2
abbrev qPn:Type:=EQ→Int→EQ→Option EQ
def Eh (k:Nat)(rec:qPn)(s0:EQ)(s4:Int)(m0:EQ):Option EQ:=
 bif decide (s4 < (s0.length : Int)) then (bif zB s4 s0.length then (bif zQ (0 + (s0.getD s4.toNat []).length) 8 then (bif zQ (m0.length+1) 24 then(rec s0 (zA (s4+1)) (m0++[(s0.getD s4.toNat [])]))
    else none)
   else none)
  else none)
 else some m0
def Jh (k:Nat):Nat→qPn
 |0,_,_,_=>none
 |n+1,s0,s4,m0=>Eh k (Jh k n) s0 s4 m0
def Ji (k:Nat)(a0:EQ):Option EQ:=
 (Jh k k a0 0 []).bind fun z=>
 some z
def oW (k:Nat)(av:List zI)(aA:EQ)(az:AC)(ay:EQ):Option LY:=
 bif zQ (0 + av.length) 24 then ((Ji k aA).bind fun x0=>
  bif zQ (0 + az.length) 8 then ((Ji k ay).bind fun x1=>
   some (av,x0,az,x1))
  else none)
 else none
abbrev qIb:Type:=List zC→Int→Int→Int→Int→Option vX
def Eu (k:Nat)(rec:qIb)(s0:List zC)(s1 s6 s7 s8:Int):Option vX:=
 bif decide (s8 < (s0.length : Int)) then (bif zB s8 s0.length then (bif !(decide ((s0.getD s8.toNat (0,0,0,0,0,0,0)).2.1=s1)) then(rec s0 s1 s6 s7 (zA (s8+1)))
   else bif zB s8 s0.length then (bif decide ((s0.getD s8.toNat (0, 0, 0, 0, 0, 0, 0)).2.2.2.2.1 = 3) then (bif zB s8 s0.length then(rec s0 s1 (zA (s6+(s0.getD s8.toNat (0,0,0,0,0,0,0)).2.2.2.1)) s7 (zA (s8+1)))
     else none)
    else bif zB s8 s0.length then(rec s0 s1 s6 (zA (s7+(s0.getD s8.toNat (0,0,0,0,0,0,0)).2.2.2.1)) (zA (s8+1)))
    else none)
   else none)
  else none)
 else some (s6,s7)
def Jy (k:Nat):Nat→qIb
 |0,_,_,_,_,_=>none
 |n+1,s0,s1,s6,s7,s8=>Eu k (Jy k n) s0 s1 s6 s7 s8
def Jx (k:Nat)(a0:List zC)(a1:Int):Option vX:=
 (Jy k k a0 a1 0 0 0).bind fun z=>
 some (z.1,z.2)
def N3 (k:Nat)(a0:List zC)(a1:Int):Option Int:=
 (Jx k a0 a1).bind fun x0=>
 some x0.2
def Jz (k:Nat)(bx bF aT a1:Int):Option Int:=
 bif decide (a1≥aT) then some 0
 else some (zA (aT-a1))
abbrev qU2:Type:=List zC→Int→Int→Int→Int→Option Int
def Et (k:Nat)(rec:qU2)(s0:List zC)(s1 s2 s7 s8:Int):Option Int:=
 bif decide (s8 < (s0.length : Int)) then (bif zB s8 s0.length then (bif decide ((s0.getD s8.toNat (0, 0, 0, 0, 0, 0, 0)).2.1 = s1) then (bif zB s8 s0.length then (bif decide ((s0.getD s8.toNat (0, 0, 0, 0, 0, 0, 0)).2.2.1 = s2) then (bif zB s8 s0.length then(rec s0 s1 s2 (zA (s7+(s0.getD s8.toNat (0,0,0,0,0,0,0)).2.2.2.1)) (zA (s8+1)))
      else none)
     else rec s0 s1 s2 s7 (zA (s8+1)))
    else none)
   else rec s0 s1 s2 s7 (zA (s8+1)))
  else none)
 else some s7
def Jw (k:Nat):Nat→qU2
 |0,_,_,_,_,_=>none
 |n+1,s0,s1,s2,s7,s8=>Et k (Jw k n) s0 s1 s2 s7 s8
def xu (k:Nat)(a0:List zC)(a1 a2:Int):Option Int:=
 (Jw k k a0 a1 a2 0 0).bind fun z=>
 some z
def N1 (k:Nat)(a0:List zC)(a1 a2:Int):Option Int:=
 (xu k a0 a1 a2).bind fun x0=>
 (xu k a0 a2 a1).bind fun x1=>
 some (zA (x0-x1))
abbrev qIh:Type:=EQ→Int→Int→Option (Unit⊕Bool)
def D4 (k:Nat)(rec:qIh)(s0:EQ)(s1 s5:Int):Option (Unit⊕Bool):=
 bif decide (s5 < s1) then (bif zB s5 s0.length then (bif !(decide (((s0.getD s5.toNat []).length:Int)=s1)) then some (.inr false)
   else rec s0 s1 (zA (s5+1)))
  else none)
 else some (.inl ())
def I9 (k:Nat):Nat→qIh
 |0,_,_,_=>none
 |n+1,s0,s1,s5=>D4 k (I9 k n) s0 s1 s5
def I8 (k:Nat)(a0:EQ)(a1:Int):Option Bool:=
 bif !(decide ((a0.length:Int)=a1)) then some false
 else(I9 k k a0 a1 0).bind fun z=>
 match z with
 |.inl z1=>some true
 |.inr z2=>some z2
def I6 (k:Nat)(bx bF aT:Int):Option Bool:=
 bif decide (bx > (-4611686018427387904)) then (bif decide (bx < 4611686018427387904) then (bif decide (bF ≥ 0) then (bif decide (bF ≤ 2305843009213693952) then (bif decide (aT≥0) then some (decide (aT≤2305843009213693952))
     else some false)
    else some false)
   else some false)
  else some false)
 else some false
def I7 (k:Nat)(a0:Int):Option Bool:=
 bif decide (a0≥(-1)) then some (decide (a0≤2305843009213693952))
 else some false
abbrev qH1:Type:=(Int×Int×(List zI)×EQ×AC×EQ)⊕Bool
abbrev qXb:Type:=Int→Int→Int→List zI→EQ→AC→EQ→Option qH1
def D6 (k:Nat)(rec:qXb)(s3 s4 s5:Int)(af:List zI)(ai:EQ)(aj:AC)(ah:EQ):Option qH1:=
 bif decide (s5 < s3) then (bif zB s4 ai.length then (bif zB s5 (ai.getD s4.toNat []).length then ((I7 k ((ai.getD s4.toNat []).getD s5.toNat 0)).bind fun x4=>
    bif !x4 then some (.inr false)
    else bif zB s4 ah.length then (bif zB s5 (ah.getD s4.toNat []).length then (bif decide (((ah.getD s4.toNat []).getD s5.toNat 0)≤(-72057594037927936)) then some (.inr false)
      else bif zB s4 ah.length then (bif zB s5 (ah.getD s4.toNat []).length then (bif decide (((ah.getD s4.toNat []).getD s5.toNat 0)≥72057594037927936) then some (.inr false)
        else bif zB s4 ah.length then (bif zB s5 (ah.getD s4.toNat []).length then (bif zB s5 ah.length then (bif zB s4 (ah.getD s5.toNat []).length then (bif !(decide (((ah.getD s4.toNat []).getD s5.toNat 0)=(zA (0-((ah.getD s5.toNat []).getD s4.toNat 0))))) then some (.inr false)
            else rec s3 s4 (zA (s5+1)) af ai aj ah)
           else none)
          else none)
         else none)
        else none)
       else none)
      else none)
     else none)
    else none)
   else none)
  else none)
 else some (.inl (s3,s4,af,ai,aj,ah))
def D5 (k:Nat):Nat→qXb
 |0,_,_,_,_,_,_,_=>none
 |n+1,s3,s4,s5,af,ai,aj,ah=>D6 k (D5 k n) s3 s4 s5 af ai aj ah
abbrev qXd:Type:=Int→Int→List zI→EQ→AC→EQ→Option (Unit⊕Bool)
def D8 (k:Nat)(rec:qXd)(s3 s4:Int)(af:List zI)(ai:EQ)(aj:AC)(ah:EQ):Option (Unit⊕Bool):=
 bif decide (s4 < s3) then (bif zB s4 af.length then ((I6 k (af.getD s4.toNat (0,0,0)).1 (af.getD s4.toNat (0,0,0)).2.1 (af.getD s4.toNat (0,0,0)).2.2).bind fun x2=>
   bif !x2 then some (.inr false)
   else bif zB s4 aj.length then ((I7 k (aj.getD s4.toNat 0)).bind fun x3=>
    bif !x3 then some (.inr false)
    else(D5 k k s3 s4 0 af ai aj ah).bind fun z=>
    match z with
    |.inl z1=>rec z1.1 (zA (z1.2.1+1)) z1.2.2.1 z1.2.2.2.1 z1.2.2.2.2.1 z1.2.2.2.2.2
    |.inr z2=>some (.inr z2))
   else none)
  else none)
 else some (.inl ())
def D7 (k:Nat):Nat→qXd
 |0,_,_,_,_,_,_=>none
 |n+1,s3,s4,af,ai,aj,ah=>D8 k (D7 k n) s3 s4 af ai aj ah
def NL (k:Nat)(av:List zI)(aA:EQ)(az:AC)(ay:EQ):Option Bool:=
 bif decide ((av.length:Int)<1) then some false
 else bif decide ((av.length:Int)>6) then some false
 else(I8 k aA (av.length:Int)).bind fun x0=>
 bif !x0 then some false
 else(I8 k ay (av.length:Int)).bind fun x1=>
 bif !x1 then some false
 else bif !(decide ((az.length:Int)=(av.length:Int))) then some false
 else(D7 k k (av.length:Int) 0 av aA az ay).bind fun z3=>
 match z3 with
 |.inl z4=>some true
 |.inr z5=>some z5
abbrev qS6:Type:=(List zC)×Int×(List zI)×EQ×AC×EQ×(List zI)×EQ×AC×EQ
abbrev qK0:Type:=List zC→Int→Int→List zI→EQ→AC→EQ→List zI→EQ→AC→EQ→Option qS6
def Ew (k:Nat)(rec:qK0)(s1:List zC)(s7 s8:Int)(af:List zI)(ai:EQ)(aj:AC)(ah:EQ)(r3:List zI)(m4:EQ)(r5:AC)(m6:EQ):Option qS6:=
 bif decide (s8 < (r3.length : Int)) then ((N1 k s1 s7 s8).bind fun x4=>
  bif zB s7 r3.length then (bif zB s7 r3.length then (let y1:List zI:=(r3.set s7.toNat ((zA ((r3.getD s7.toNat (0,0,0)).1-x4)),(r3.getD s7.toNat (0,0,0)).2))
    bif zB s7 m6.length then (bif zB s7 m6.length then (bif zB s8 (m6.getD s7.toNat []).length then (bif zB s8 (m6.getD s7.toNat []).length then (let y2:EQ:=(m6.set s7.toNat ((m6.getD s7.toNat []).set s8.toNat (zA (((m6.getD s7.toNat []).getD s8.toNat 0)+x4))))
        rec s1 s7 (zA (s8+1)) af ai aj ah y1 m4 r5 y2)
       else none)
      else none)
     else none)
    else none)
   else none)
  else none)
 else some (s1,s7,af,ai,aj,ah,r3,m4,r5,m6)
def Ev (k:Nat):Nat→qK0
 |0,_,_,_,_,_,_,_,_,_,_,_=>none
 |n+1,s1,s7,s8,af,ai,aj,ah,r3,m4,r5,m6=>Ew k (Ev k n) s1 s7 s8 af ai aj ah r3 m4 r5 m6
abbrev qX0:Type:=List zC→Int→List zI→EQ→AC→EQ→List zI→EQ→AC→EQ→Option qP5
def Ez (k:Nat)(rec:qX0)(s1:List zC)(s7:Int)(af:List zI)(ai:EQ)(aj:AC)(ah:EQ)(r3:List zI)(m4:EQ)(r5:AC)(m6:EQ):Option qP5:=
 bif decide (s7 < (r3.length : Int)) then (bif zB s7 r3.length then ((N3 k s1 s7).bind fun x2=>
   (Jz k (r3.getD s7.toNat (0,0,0)).1 (r3.getD s7.toNat (0,0,0)).2.1 (r3.getD s7.toNat (0,0,0)).2.2 x2).bind fun x3=>
   bif zB s7 r3.length then (let y0:List zI:=(r3.set s7.toNat ((r3.getD s7.toNat (0,0,0)).1,(r3.getD s7.toNat (0,0,0)).2.1,x3))
    (Ev k k s1 s7 0 af ai aj ah y0 m4 r5 m6).bind fun z=>
    rec z.1 (zA (z.2.1+1)) z.2.2.1 z.2.2.2.1 z.2.2.2.2.1 z.2.2.2.2.2.1 z.2.2.2.2.2.2.1 z.2.2.2.2.2.2.2.1 z.2.2.2.2.2.2.2.2.1 z.2.2.2.2.2.2.2.2.2)
   else none)
  else none)
 else some (af,ai,aj,ah,r3,m4,r5,m6)
def Ey (k:Nat):Nat→qX0
 |0,_,_,_,_,_,_,_,_,_,_=>none
 |n+1,s1,s7,af,ai,aj,ah,r3,m4,r5,m6=>Ez k (Ey k n) s1 s7 af ai aj ah r3 m4 r5 m6
def Bf (k:Nat)(av:List zI)(aA:EQ)(az:AC)(ay:EQ)(a1:List zC):Option ((List zI)×EQ×AC×EQ×Int):=
 (Ju k av aA az ay a1).bind fun x0=>
 bif !x0 then some (av,aA,az,ay,1)
 else(oW k av aA az ay).bind fun x1=>
 (Ey k k a1 0 av aA az ay x1.1 x1.2.1 x1.2.2.1 x1.2.2.2).bind fun z1=>
 (NL k z1.2.2.2.2.1 z1.2.2.2.2.2.1 z1.2.2.2.2.2.2.1 z1.2.2.2.2.2.2.2).bind fun x5=>
 bif !x5 then some (vL z1 8)
 else some (yD5 z1 0)
abbrev qPh:Type:=Int→Int→Int→List zI→EQ→AC→EQ→Option Int
def EB (k:Nat)(rec:qPh)(s1 s5 s6:Int)(af:List zI)(ai:EQ)(aj:AC)(ah:EQ):Option Int:=
 bif zB s1 ah.length then (bif decide (s6 < ((ah.getD s1.toNat []).length : Int)) then (bif zB s1 ah.length then (bif zB s6 (ah.getD s1.toNat []).length then(rec s1 (zA (s5+((ah.getD s1.toNat []).getD s6.toNat 0))) (zA (s6+1)) af ai aj ah)
    else none)
   else none)
  else some s5)
 else none
def EA (k:Nat):Nat→qPh
 |0,_,_,_,_,_,_,_=>none
 |n+1,s1,s5,s6,af,ai,aj,ah=>EB k (EA k n) s1 s5 s6 af ai aj ah
def N6 (k:Nat)(av:List zI)(aA:EQ)(az:AC)(ay:EQ)(a1:Int):Option Int:=
 (EA k k a1 0 0 av aA az ay).bind fun z=>
 some z
abbrev qU7:Type:=(Int×Int×Int×Int×Int×(List zI)×EQ×AC×EQ)⊕Bool
abbrev qMq:Type:=List zC→Int→Int→Int→Int→Int→Int→List zI→EQ→AC→EQ→Option qU7
def ED (k:Nat)(rec:qMq)(s1:List zC)(s2 s7 s8 s9 ax aR:Int)(af:List zI)(ai:EQ)(aj:AC)(ah:EQ):Option qU7:=
 bif decide (aR < (af.length : Int)) then ((xu k s1 s2 aR).bind fun x2=>
  (xu k s1 aR s2).bind fun x3=>
  (xu k s1 s2 aR).bind fun x4=>
  bif decide (x4 > 0) then (bif zB s2 ai.length then (bif zB aR (ai.getD s2.toNat []).length then (bif !(decide (((ai.getD s2.toNat []).getD aR.toNat 0) = (-1))) then (bif zB s2 ah.length then (bif zB aR (ah.getD s2.toNat []).length then (bif zB s2 ai.length then (bif zB aR (ai.getD s2.toNat []).length then (bif decide ((zA (((ah.getD s2.toNat []).getD aR.toNat 0)+(zA (x2-x3))))>((ai.getD s2.toNat []).getD aR.toNat 0)) then some (.inr true)
          else rec s1 s2 s7 s8 (zA (s9-(zA (x2-x3)))) (zA (ax+(zA (x2-x3)))) (zA (aR+1)) af ai aj ah)
         else none)
        else none)
       else none)
      else none)
     else rec s1 s2 s7 s8 (zA (s9-(zA (x2-x3)))) (zA (ax+(zA (x2-x3)))) (zA (aR+1)) af ai aj ah)
    else none)
   else none)
  else rec s1 s2 s7 s8 (zA (s9-(zA (x2-x3)))) (zA (ax+(zA (x2-x3)))) (zA (aR+1)) af ai aj ah)
 else some (.inl (s2,s7,s8,s9,ax,af,ai,aj,ah))
def sJ (k:Nat):Nat→qMq
 |0,_,_,_,_,_,_,_,_,_,_,_=>none
 |n+1,s1,s2,s7,s8,s9,ax,aR,af,ai,aj,ah=>ED k (sJ k n) s1 s2 s7 s8 s9 ax aR af ai aj ah
def Oa (k:Nat)(av:List zI)(aA:EQ)(az:AC)(ay:EQ)(a1:List zC)(a2:Int):Option Bool:=
 (Jx k a1 a2).bind fun x0=>
 bif decide ((zA (x0.1+x0.2))=0) then some false
 else bif zB a2 av.length then (bif zB a2 av.length then ((N6 k av aA az ay a2).bind fun x1=>
   (sJ k k a1 a2 x0.1 x0.2 (zA ((av.getD a2.toNat (0,0,0)).1+(av.getD a2.toNat (0,0,0)).2.1)) x1 0 av aA az ay).bind fun z=>
   match z with
   |.inl z1=>bif decide (z1.2.2.2.1<0) then some true
    else bif decide (z1.2.1 > 0) then (bif zB z1.1 z1.2.2.2.2.2.1.length then ((Jz k (z1.2.2.2.2.2.1.getD z1.1.toNat (0,0,0)).1 (z1.2.2.2.2.2.1.getD z1.1.toNat (0,0,0)).2.1 (z1.2.2.2.2.2.1.getD z1.1.toNat (0,0,0)).2.2 z1.2.2.1).bind fun x5=>
      bif decide (z1.2.2.2.1<x5) then some true
      else bif zB z1.1 z1.2.2.2.2.2.2.2.1.length then (bif !(decide ((z1.2.2.2.2.2.2.2.1.getD z1.1.toNat 0) = (-1))) then (bif zB z1.1 z1.2.2.2.2.2.2.2.1.length then some (decide (z1.2.2.2.2.1>(z1.2.2.2.2.2.2.2.1.getD z1.1.toNat 0)))
        else none)
       else some false)
      else none)
     else none)
    else bif zB z1.1 z1.2.2.2.2.2.2.2.1.length then (bif !(decide ((z1.2.2.2.2.2.2.2.1.getD z1.1.toNat 0) = (-1))) then (bif zB z1.1 z1.2.2.2.2.2.2.2.1.length then some (decide (z1.2.2.2.2.1>(z1.2.2.2.2.2.2.2.1.getD z1.1.toNat 0)))
      else none)
     else some false)
    else none
   |.inr z2=>some z2)
  else none)
 else none
abbrev qMg:Type:=List zC→Int→List zI→EQ→AC→EQ→AC→Option AC
def sK (k:Nat)(rec:qMg)(s1:List zC)(s6:Int)(af:List zI)(ai:EQ)(aj:AC)(ah:EQ)(r1:AC):Option AC:=
 bif decide (s6 < (af.length : Int)) then ((Oa k af ai aj ah s1 s6).bind fun x0=>
  bif x0 then (bif zQ (r1.length+1) 8 then(rec s1 (zA (s6+1)) af ai aj ah (r1++[s6]))
   else none)
  else rec s1 (zA (s6+1)) af ai aj ah r1)
 else some r1
def uy (k:Nat):Nat→qMg
 |0,_,_,_,_,_,_,_=>none
 |n+1,s1,s6,af,ai,aj,ah,r1=>sK k (uy k n) s1 s6 af ai aj ah r1
def ux (k:Nat)(av:List zI)(aA:EQ)(az:AC)(ay:EQ)(a1:List zC):Option AC:=
 (uy k k a1 0 av aA az ay []).bind fun z=>
 some z
def JB (k:Nat)(av:List zI)(aA:EQ)(az:AC)(ay:EQ)(a1:List zC):Option Bool:=
 (Ju k av aA az ay a1).bind fun x0=>
 bif x0 then ((ux k av aA az ay a1).bind fun x1=>
  some (decide ((x1.length:Int)=0)))
 else some false
def uW (k:Nat)(av:List zI)(aA:EQ)(az:AC)(ay:EQ)(a1:List zC):Option ((List zI)×EQ×AC×EQ×Bool):=
 (Bf k av aA az ay a1).bind fun x0=>
 bif decide (x0.2.2.2.2 = 0) then ((JB k av aA az ay a1).bind fun x1=>
  some (vL x0 x1))
 else some (vL x0 false)
abbrev qVk:Type:=zC⊕(Bool×Int×Int×Int×Int×Int×Int×Int)
abbrev qLe:Type:=Int→List zI→EQ→AC→EQ→Int→Int→Int→Int→Int→Int→Int→List zC→Option qVk
def Gy (k:Nat)(rec:qLe)(s9:Int)(af:List zI)(ai:EQ)(aj:AC)(ah:EQ)(aw aC aD aF aH aI aJ:Int)(r2:List zC):Option qVk:=
 bif decide (s9 < (r2.length : Int)) then (bif ((decide (0 ≤ s9)) && (decide (s9 ≤ (zA (s9 + 1))))) && (decide ((zA (s9 + 1)) ≤ (r2.length : Int))) then ((uW k af ai aj ah (qS r2 (0+s9.toNat) ((zA (s9+1)).toNat-s9.toNat))).bind fun x1=>
   bif x1.2.2.2.2 then (bif zB s9 r2.length then some (.inr (true,(r2.getD s9.toNat (0,0,0,0,0,0,0)).1,(r2.getD s9.toNat (0,0,0,0,0,0,0)).2.1,(r2.getD s9.toNat (0,0,0,0,0,0,0)).2.2.1,(r2.getD s9.toNat (0,0,0,0,0,0,0)).2.2.2.1,(r2.getD s9.toNat (0,0,0,0,0,0,0)).2.2.2.2.1,(r2.getD s9.toNat (0,0,0,0,0,0,0)).2.2.2.2.2.1,(r2.getD s9.toNat (0,0,0,0,0,0,0)).2.2.2.2.2.2))
    else none)
   else rec (zA (s9+1)) af ai aj ah aw aC aD aF aH aI aJ r2)
  else none)
 else some (.inl (aw,aC,aD,aF,aH,aI,aJ))
def KS (k:Nat):Nat→qLe
 |0,_,_,_,_,_,_,_,_,_,_,_,_,_=>none
 |n+1,s9,af,ai,aj,ah,aw,aC,aD,aF,aH,aI,aJ,r2=>Gy k (KS k n) s9 af ai aj ah aw aC aD aF aH aI aJ r2
def PG (k:Nat)(av:List zI)(aA:EQ)(az:AC)(ay:EQ)(a1:List zC)(a2:Int):Option (Int×Int×Int×Int×Int×Int×Int×Bool):=
 (JQ k a1 a2).bind fun x0=>
 (KS k k 0 av aA az ay 0 0 0 0 0 0 0 x0).bind fun z=>
 match z with
 |.inl z1=>some (0,0,0,0,0,0,0,false)
 |.inr z2=>some (yIo z2 z2.1)
end Go.Ab.Gi
