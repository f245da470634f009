/- part 6 -/
import Derived.Test.YthpehdcmpldloaaGreatGiAbD
set_option linter.unusedVariables false
set_option maxRecDepth 100000
abbrev Go.Ab.Ty.i:Go.Ab.Ty:=.int .i64
abbrev Go.Ab.CS.i:Go.Ab.CS:=.int .i64
abbrev Go.Ab.PC.i:Go.Ab.PC:=.int .i64
abbrev Go.Ab.RC.i:Go.Ab.RC:=.int .i64
namespace Go.Ab.Gi
abbrev AC:=List Int
abbrev EQ:=List AC
abbrev lr:Type:=AC×Bool
abbrev wX:Go.Ab.Ty:=.pair .i .i
abbrev vQ:Type:=Int×AC×Int×AC×Int×Int×Int×Bool×Bool×Int
abbrev eY:Type:=Int×Bool
abbrev vN:Type:=Int×Int×Bool
abbrev gT:Type:=Int×Int×Int×Bool
abbrev Hd:Type:=Int×Int×Int×Int×Int×Bool×Bool×Int
abbrev qS:Type:=Int×Int×Int×Int×Int×Int×Int×Int
abbrev zC:Type:=Int×Int×Int×Int×Int×Int×Int
abbrev Lr:Type:=Int×Int×Int×Int×Int×Int
abbrev zI:Type:=Int×Int×Int
abbrev vU:Type:=Int×Int
abbrev sM:Type:=(List zI)×EQ×AC×EQ×(List zC)×(List zC)
abbrev Lv:Type:=(List zI)×EQ×AC×EQ
abbrev qUt:Type:=(List zC)×Int×Int×Int×Int×Int×Int×Int×Int
abbrev qW:Go.Ab.Ty:=.pair .i wX
abbrev yQu:Type:=Bool×Int×Int×Int×Int×Int×Int×Int×Int×Int×Int×Int×Int×Int×Int×(List zI)×EQ×AC×EQ
abbrev QY:Type:=Int×(List zI)×EQ×AC×EQ×AC×EQ×(List zC)×AC×Int×Bool×(List qS)
abbrev yY:Type:=Int×(List zI)×EQ×AC×EQ×AC×EQ×(List zC)×AC×Int×Bool
abbrev uS:Type:=Int×(List vU)×Int×Int×Int×Int×(List zI)×EQ×AC×EQ×AC×EQ×(List zC)×AC×Int×Bool×Int×(List qS)×Int
abbrev jH:Type:=Int×(List vU)×Int×Int×Int×Int×(List zI)×EQ×AC×EQ×AC×EQ×(List zC)×AC×Int×Bool×Int×(List qS)
abbrev qs:Type:=Int×(List vU)×Int×Int×Int×Int×(List zI)×EQ×AC×EQ×AC×EQ×(List zC)×AC×Int×Bool×Int×Bool
abbrev qq:Type:=Int×(List vU)×Int×Int×Int×Int×(List zI)×EQ×AC×EQ×AC×EQ×(List zC)×AC×Int×Bool×Int×Int
abbrev lu:Type:=Int×(List vU)×Int×Int×Int×Int×(List zI)×EQ×AC×EQ×AC×EQ×(List zC)×AC×Int×Bool×Int
abbrev vP:Type:=Int×(List vU)×Int×Int×Int
abbrev vJx:Go.Ab.Ty:=.pair .i qW
abbrev vSx:Go.Ab.Ty:=.pair .i vJx
abbrev vV3:Go.Ab.Ty:=.pair .i vSx
abbrev zG:Go.Ab.Ty:=.pair .i vV3
abbrev yR:Go.Ab.Ty:=.pair .i zG
abbrev ZY:List Go.Ab.CS:=[.dat false .i,.dat false .i,.dat false (.sl .i)]
abbrev jV:List Go.Ab.CS:=[.dat false qW,.dat false (.sl .i),.dat false .i,.dat false (.sl .i)]
abbrev GY:List Go.Ab.CS:=[.dat true (.int .u8),.bool]
abbrev wB:List Go.Ab.CS:=[.dat true qW,.dat true (.sl .i),.dat true .i,.dat true (.sl .i)]
abbrev Qu:List Go.Ab.CS:=[.i,.dat false qW,.dat false (.sl .i),.dat false .i,.dat false (.sl .i),.dat false .i,.dat false (.sl .i),.dat false zG,.dat false .i,.i,.bool]
abbrev pZ:List Go.Ab.CS:=[.i,.dat false wX,.i,.i,.i]
abbrev gu:List Go.Ab.CS:=[.i,.dat true qW,.dat true (.sl .i),.dat true .i,.dat true (.sl .i),.dat true .i,.dat true (.sl .i),.dat true zG,.dat true .i,.i,.bool]
abbrev Qv:List Go.Ab.CS:=[.i,.dat true wX,.i,.i,.i]
abbrev Zm:List Go.Ab.CS:=[.i,.dat true wX,.i,.i,.i,.i,.dat true qW,.dat true (.sl .i),.dat true .i,.dat true (.sl .i),.dat true .i,.dat true (.sl .i),.dat true zG,.dat true .i,.i,.bool,.i,.lit (.osl 1001001 none)]
abbrev qRi:List Go.Ab.CS:=[.i,.dat true wX,.i,.i,.i,.i,.dat true qW,.dat true (.sl .i),.dat true .i,.dat true (.sl .i),.dat true .i,.dat true (.sl .i),.dat true zG,.dat true .i,.i,.bool,.i,.lit .nsl]
abbrev qX3:List Go.Ab.CS:=[.i,.dat true wX,.i,.i,.i,.i,.dat true qW,.dat true (.sl .i),.dat true .i,.dat true (.sl .i),.dat true .i,.dat true (.sl .i),.dat true zG,.dat true .i,.i,.bool,.i,.lit .nsl,.i]
abbrev wS:List Go.Ab.CS:=[.i,.i,.i,.i,.i,.i,.i]
abbrev yNz:List Go.Ab.CS:=[.i,.i,.i,.i,.i,.i,.i,.i,.i,.i,.i,.i,.i,.i,.dat true qW,.dat true (.sl .i),.dat true .i,.dat true (.sl .i)]
abbrev Qj:List Go.Ab.CS:=[.i,.i,.i,.i,.i,.i,.i,.i,.i,.i,.i,.i,.i,.i,.lit .nsl,.lit .nsl,.lit .nsl,.lit .nsl]
abbrev yLx:List Go.Ab.CS:=[.i,.lit (.osl 1001001 none),.i,.lit (.osl 1001002 none),.i,.i,.i,.bool,.bool,.i]
abbrev yVs:List Go.Ab.CS:=[.i,.lit (.osl 1001002 none),.lit (.osl 1001003 none),.lit (.osl 1001004 none),.lit (.osl 1001005 none),.lit (.osl 1001006 none),.lit (.osl 1001007 none),.lit .nsl,.lit .nsl,.i,.bool]
abbrev yUg:List Go.Ab.CS:=[.i,.lit (.osl 1001003 none),.i,.lit (.osl 1001004 none),.i,.i,.i,.bool,.bool,.i]
abbrev yIf:List Go.Ab.CS:=[.i,.lit (.osl 1001003 none),.lit (.osl 1001004 none),.lit (.osl 1001005 none),.lit (.osl 1001006 none),.lit (.osl 1001007 none),.lit (.osl 1001008 none),.lit (.osl 1001009 none),.lit .nsl,.i,.bool]
abbrev yD2:List Go.Ab.CS:=[.i,.lit (.osl 1001003 none),.lit (.osl 1001004 none),.lit (.osl 1001005 none),.lit (.osl 1001006 none),.lit (.osl 1001007 none),.lit (.osl 1001008 none),.lit .nsl,.lit .nsl,.i,.bool]
abbrev PR:List Go.Ab.CS:=[.i,.lit (.osl 1001003 none),.lit (.osl 1001004 none),.lit (.osl 1001005 none),.lit (.osl 1001006 none),.lit (.osl 1001007 none),.lit .nsl,.lit .nsl,.lit .nsl,.i,.bool]
abbrev yGw:List Go.Ab.CS:=[.i,.lit (.osl 1001004 none),.lit .nsl,.lit .nsl,.lit .nsl,.lit .nsl,.lit .nsl,.lit .nsl,.lit .nsl,.i,.bool]
abbrev fw:List Go.Ab.CS:=[.i,.lit .nsl,.lit .nsl,.lit .nsl,.lit .nsl,.lit .nsl,.lit .nsl,.lit .nsl,.lit .nsl,.i,.bool]
abbrev ZO:List Go.Ab.CS:=[.lit (.osl 1001002 none),.lit (.osl 1001003 none),.lit (.osl 1001004 none)]
abbrev sK:List Go.Ab.CS:=[.lit (.osl 1001003 none),.lit (.osl 1001004 none),.lit (.osl 1001005 none),.lit (.osl 1001006 none)]
abbrev yVd:List Go.Ab.CS:=[.lit (.osl 1001004 none),.lit (.osl 1001005 none),.lit (.osl 1001006 none),.lit (.osl 1001007 none)]
abbrev nU:List Go.Ab.CS:=[.lit .nsl,.lit .nsl,.lit .nsl,.lit .nsl]
abbrev Qh:List Go.Ab.PC:=[.dat false .i,.dat false .i,.dat false (.sl .i)]
abbrev jO:List Go.Ab.PC:=[.dat false qW,.dat false (.sl .i),.dat false .i,.dat false (.sl .i)]
abbrev kR:List Go.Ab.PC:=[.dat true qW,.dat true (.sl .i),.dat true .i,.dat true (.sl .i)]
abbrev K5:List Go.Ab.PC:=[.i,.dat false (.int .u8),.i,.dat false (.int .u8),.i,.i,.i,.bool,.bool,.i]
abbrev sH:List Go.Ab.PC:=[.i,.dat false qW,.dat false (.sl .i),.dat false .i,.dat false (.sl .i),.dat false .i,.dat false (.sl .i),.dat false zG,.dat false .i,.i,.bool]
abbrev ka:List Go.Ab.PC:=[.i,.dat false wX,.i,.i,.i]
abbrev YU:List Go.Ab.PC:=[.i,.dat false wX,.i,.i,.i,.i,.dat false qW,.dat false (.sl .i),.dat false .i,.dat false (.sl .i),.dat false .i,.dat false (.sl .i),.dat false zG,.dat false .i,.i,.bool,.i,.dat false yR]
abbrev yCy:List Go.Ab.PC:=[.i,.dat false wX,.i,.i,.i,.i,.dat false qW,.dat false (.sl .i),.dat false .i,.dat false (.sl .i),.dat false .i,.dat false (.sl .i),.dat false zG,.dat false .i,.i,.bool,.i,.dat false yR,.i]
abbrev ya:List Go.Ab.PC:=[.i,.dat true qW,.dat true (.sl .i),.dat true .i,.dat true (.sl .i),.dat true .i,.dat true (.sl .i),.dat true zG,.dat true .i,.i,.bool]
abbrev Qq:List Go.Ab.PC:=[.i,.dat true wX,.i,.i,.i]
abbrev nT:List Go.Ab.PC:=[.i,.i,.i]
abbrev La:List Go.Ab.PC:=[.i,.i,.i,.i,.i,.i]
abbrev vM:List Go.Ab.PC:=[.i,.i,.i,.i,.i,.i,.i]
abbrev K7:List Go.Ab.PC:=[.i,.i,.i,.i,.i,.i,.i,.i]
abbrev mY:List Go.Ab.RC:=[.fro qW,.fro (.sl .i),.fro .i,.fro (.sl .i)]
abbrev vD:List Go.Ab.RC:=[.i]
abbrev yc:List Go.Ab.RC:=[.i,.fro qW,.fro (.sl .i),.fro .i,.fro (.sl .i),.fro .i,.fro (.sl .i),.fro zG,.fro .i,.i,.bool]
abbrev lj:List Go.Ab.RC:=[.i,.fro wX,.i,.i,.i,.i,.fro qW,.fro (.sl .i),.fro .i,.fro (.sl .i),.fro .i,.fro (.sl .i),.fro zG,.fro .i,.i,.bool,.i,.own yR]
abbrev B1:List Go.Ab.RC:=[.i,.fro wX,.i,.i,.i,.i,.fro qW,.fro (.sl .i),.fro .i,.fro (.sl .i),.fro .i,.fro (.sl .i),.fro zG,.fro .i,.i,.bool,.i,.own yR,.i]
abbrev qa:List Go.Ab.RC:=[.i,.i,.i,.i,.i,.i,.i]
abbrev iP:List Go.Ab.RC:=[.i,.own (.int .u8),.i,.own (.int .u8),.i,.i,.i,.bool,.bool,.i]
abbrev XV:List Go.Ab.RC:=[.i,.own qW,.mat,.own .i,.mat,.own .i,.mat,.own zG,.own .i,.i,.bool]
abbrev QC:List Go.Ab.RC:=[.link 1,.i,.fro wX,.i,.i,.i,.i,.fro qW,.fro (.sl .i),.fro .i,.fro (.sl .i),.fro .i,.fro (.sl .i),.fro zG,.fro .i,.i,.bool,.i,.bool]
abbrev QD:List Go.Ab.RC:=[.link 2,.i,.i,.i,.bool]
abbrev QA:List Go.Ab.XC:=[.link 1,.p .i,.p (.dat true wX),.p .i,.p .i,.p .i,.p .i,.p (.dat true qW),.p (.dat true (.sl .i)),.p (.dat true .i),.p (.dat true (.sl .i)),.p (.dat true .i),.p (.dat true (.sl .i)),.p (.dat true zG),.p (.dat true .i),.p .i,.p .bool,.p .i,.p .bool]
abbrev qNv:List Go.Ab.XC:=[.link 1,.p .i,.p .i,.p .i,.p .bool]
abbrev QB:List Go.Ab.XC:=[.link 2,.p .i,.p .i,.p .i,.p .bool]
abbrev lh:List Go.Ab.XC:=[.p .i,.own (.int .u8),.p .i,.own (.int .u8),.p .i,.p .i,.p .i,.p .bool,.p .bool,.p .i]
abbrev yf:List Go.Ab.XC:=[.p .i,.p (.dat true wX),.p .i,.p .i,.p .i,.p .i,.p (.dat true qW),.p (.dat true (.sl .i)),.p (.dat true .i),.p (.dat true (.sl .i)),.p (.dat true .i),.p (.dat true (.sl .i)),.p (.dat true zG),.p (.dat true .i),.p .i,.p .bool,.p .i,.own yR]
abbrev yd:List Go.Ab.XC:=[.p .i,.p (.dat true wX),.p .i,.p .i,.p .i,.p .i,.p (.dat true qW),.p (.dat true (.sl .i)),.p (.dat true .i),.p (.dat true (.sl .i)),.p (.dat true .i),.p (.dat true (.sl .i)),.p (.dat true zG),.p (.dat true .i),.p .i,.p .bool,.p .i,.p (.nil)]
abbrev BZ:List Go.Ab.XC:=[.p .i,.p (.dat true wX),.p .i,.p .i,.p .i,.p .i,.p (.dat true qW),.p (.dat true (.sl .i)),.p (.dat true .i),.p (.dat true (.sl .i)),.p (.dat true .i),.p (.dat true (.sl .i)),.p (.dat true zG),.p (.dat true .i),.p .i,.p .bool,.p .i,.p (.nil),.p .i]
section
variable {A B C D E F G H I J K L M N O P Q R S U V W X Z a b Aa Ab Ac Ad Ae Af Ag Ah Ai Aj Ak Al Am An Ao Ap Aq Ar As At T Y:Type}
abbrev gP (x:A×B×C×D)(t:T):=(x.1,x.2.1,x.2.2.1,x.2.2.2,t)
abbrev jE (x:A×B×C×D×E)(t:T):=(x.1,gP x.2 t)
abbrev nV (x:A×B×C×D×E×F)(t:T):=(x.1,jE x.2 t)
abbrev iw (x:A×B×C×D×E×F×G)(t:T):=(x.1,nV x.2 t)
abbrev GZ (x:A×B×C×D×E×F×G×H)(t:T):=(x.1,iw x.2 t)
abbrev P7 (x:A×B×C×D×E×F×G×H×I)(t:T):=(x.1,GZ x.2 t)
abbrev iu (x:A×B×C×D×E×F×G×H×I×J)(t:T):=(x.1,P7 x.2 t)
abbrev wP (x:A×B×C×D×E×F×G×H×I×J×K)(t:T):=(x.1,iu x.2 t)
abbrev G5 (x:A×B×C×D×E×F×G×H×I×J×K×L)(t:T):=(x.1,wP x.2 t)
abbrev vYv (x:A×B×C×D×E×F×G×H×I×J×K×L×M)(t:T):=(x.1,G5 x.2 t)
abbrev qQi (x:A×B×C×D×E×F×G×H×I×J×K×L×M×N)(t:T):=(x.1,vYv x.2 t)
abbrev vBu (x:A×B×C×D×E×F×G×H×I×J×K×L×M×N×O)(t:T):=(x.1,qQi x.2 t)
abbrev vS4 (x:A×B×C×D×E×F×G×H×I×J×K×L×M×N×O×P)(t:T):=(x.1,vBu x.2 t)
abbrev vT (x:A×B×C×D×E×F×G×H×I×J×K×L×M×N×O×P×Q)(t:T):=(x.1,vS4 x.2 t)
abbrev jI (x:A×B×C×D×E×F×G×H×I×J×K×L×M×N×O×P×Q×R)(t:T):=(x.1,vT x.2 t)
abbrev yj (x:A×B×C×D×E×F×G×H×I×J×K×L×M×N×O×P×Q×R×S)(t:T):=(x.1,jI x.2 t)
abbrev fL (x:A×B×C×D×E):=(x.1,x.2.1,x.2.2.1,x.2.2.2.1)
abbrev yZ (x:A×B×C×D×E×F):=(x.1,fL x.2)
abbrev mZ (x:A×B×C×D×E×F×G):=(x.1,yZ x.2)
abbrev wM (x:A×B×C×D×E×F×G×H):=(x.1,mZ x.2)
abbrev qb (x:A×B×C×D×E×F×G×H×I):=(x.1,wM x.2)
abbrev P8 (x:A×B×C×D×E×F×G×H×I×J):=(x.1,qb x.2)
abbrev fu (x:A×B×C×D×E×F×G×H×I×J×K):=(x.1,P8 x.2)
abbrev qQ (x:A×B×C×D×E×F×G×H×I×J×K×L):=(x.1,fu x.2)
abbrev G6 (x:A×B×C×D×E×F×G×H×I×J×K×L×M):=(x.1,qQ x.2)
abbrev vYm (x:A×B×C×D×E×F×G×H×I×J×K×L×M×N):=(x.1,G6 x.2)
abbrev yTq (x:A×B×C×D×E×F×G×H×I×J×K×L×M×N×O):=(x.1,vYm x.2)
abbrev yGd (x:A×B×C×D×E×F×G×H×I×J×K×L×M×N×O×P):=(x.1,yTq x.2)
abbrev vT0 (x:A×B×C×D×E×F×G×H×I×J×K×L×M×N×O×P×Q):=(x.1,yGd x.2)
abbrev lk (x:A×B×C×D×E×F×G×H×I×J×K×L×M×N×O×P×Q×R):=(x.1,vT0 x.2)
abbrev eX (x:A×B×C×D×E×F×G×H×I×J×K×L×M×N×O×P×Q×R×S):=(x.1,lk x.2)
abbrev Qk (x:A×B×C×D×E×F×G×H×I×J×K×L×M×N×O×P×Q×R×S×U):=(x.1,eX x.2)
abbrev vX (x:A×B×C×D×E)(t:T):=(x.1,x.2.1,x.2.2.1,x.2.2.2.1,t)
abbrev qd (x:A×B×C×D×E×F)(t:T):=(x.1,vX x.2 t)
abbrev jN (x:A×B×C×D×E×F×G)(t:T):=(x.1,qd x.2 t)
abbrev j6 (x:A×B×C×D×E×F×G×H)(t:T):=(x.1,jN x.2 t)
abbrev vPo (x:A×B×C×D×E×F×G×H×I)(t:T):=(x.1,j6 x.2 t)
abbrev qHs (x:A×B×C×D×E×F×G×H×I×J)(t:T):=(x.1,vPo x.2 t)
abbrev vIi (x:A×B×C×D×E×F×G×H×I×J×K)(t:T):=(x.1,qHs x.2 t)
abbrev yi (x:A×B×C×D×E×F×G×H×I×J×K×L)(t:T):=(x.1,vIi x.2 t)
abbrev kf (x:A×B×C×D×E×F×G×H×I×J×K×L×M)(t:T):=(x.1,yi x.2 t)
abbrev vXy (x:A×B×C×D×E×F×G×H×I×J×K×L×M×N)(t:T):=(x.1,kf x.2 t)
abbrev qI6 (x:A×B×C×D×E×F×G×H×I×J×K×L×M×N×O)(t:T):=(x.1,vXy x.2 t)
abbrev vEz (x:A×B×C×D×E×F×G×H×I×J×K×L×M×N×O×P)(t:T):=(x.1,qI6 x.2 t)
abbrev vCd (x:A×B×C×D×E×F×G×H×I×J×K×L×M×N×O×P×Q)(t:T):=(x.1,vEz x.2 t)
abbrev yE (x:A×B×C×D×E×F×G×H×I×J×K×L×M×N×O×P×Q×R)(t:T):=(x.1,vCd x.2 t)
abbrev yZr (x:A×B×C×D×E×F×G×H×I×J×K×L×M×N×O×P×Q×R×S)(t:T):=(x.1,yE x.2 t)
abbrev vI (f:A→B→C→D→Y)(x:A×B×C×D×E):Y:=f x.1 x.2.1 x.2.2.1 x.2.2.2.1
abbrev ll (f:A→B→C→D→E→Y)(x:A×B×C×D×E×F):Y:=vI (f x.1) x.2
abbrev ke (f:A→B→C→D→E→F→Y)(x:A×B×C×D×E×F×G):Y:=ll (f x.1) x.2
abbrev me (f:A→B→C→D→E→F→G→Y)(x:A×B×C×D×E×F×G×H):Y:=ke (f x.1) x.2
abbrev mc (f:A→B→C→D→E→F→G→H→Y)(x:A×B×C×D×E×F×G×H×I):Y:=me (f x.1) x.2
abbrev Qg (f:A→B→C→D→E→F→G→H→I→Y)(x:A×B×C×D×E×F×G×H×I×J):Y:=mc (f x.1) x.2
abbrev vM1 (f:A→B→C→D→E→F→G→H→I→J→Y)(x:A×B×C×D×E×F×G×H×I×J×K):Y:=Qg (f x.1) x.2
abbrev sJ (f:A→B→C→D→E→F→G→H→I→J→K→Y)(x:A×B×C×D×E×F×G×H×I×J×K×L):Y:=vM1 (f x.1) x.2
abbrev Lf (f:A→B→C→D→E→F→G→H→I→J→K→L→Y)(x:A×B×C×D×E×F×G×H×I×J×K×L×M):Y:=sJ (f x.1) x.2
abbrev Z2 (f:A→B→C→D→E→F→G→H→I→J→K→L→M→Y)(x:A×B×C×D×E×F×G×H×I×J×K×L×M×N):Y:=Lf (f x.1) x.2
abbrev G0 (f:A→B→C→D→E→F→G→H→I→J→K→L→M→N→Y)(x:A×B×C×D×E×F×G×H×I×J×K×L×M×N×O):Y:=Z2 (f x.1) x.2
abbrev vCc (f:A→B→C→D→E→F→G→H→I→J→K→L→M→N→O→Y)(x:A×B×C×D×E×F×G×H×I×J×K×L×M×N×O×P):Y:=G0 (f x.1) x.2
abbrev yRf (f:A→B→C→D→E→F→G→H→I→J→K→L→M→N→O→P→Y)(x:A×B×C×D×E×F×G×H×I×J×K×L×M×N×O×P×Q):Y:=vCc (f x.1) x.2
abbrev vXd (f:A→B→C→D→E→F→G→H→I→J→K→L→M→N→O→P→Q→Y)(x:A×B×C×D×E×F×G×H×I×J×K×L×M×N×O×P×Q×R):Y:=yRf (f x.1) x.2
abbrev vSs (f:A→B→C→D→E→F→G→H→I→J→K→L→M→N→O→P→Q→R→Y)(x:A×B×C×D×E×F×G×H×I×J×K×L×M×N×O×P×Q×R×S):Y:=vXd (f x.1) x.2
abbrev vSa (f:A→B→C→D→E→F→G→H→I→J→K→L→M→N→O→P→Q→R→S→Y)(x:A×B×C×D×E×F×G×H×I×J×K×L×M×N×O×P×Q×R×S×U):Y:=vSs (f x.1) x.2
abbrev qOg (x:A×B×C×D×E×F×G×H×I×J×K×L×M×N×O×P×Q)(t:T):=gP x.2.2.2.2.2.2.2.2.2.2.2.2.2 t
abbrev Bt (x:A×B×C×D×E×F)(t:T):=gP x.2.2 t
abbrev vH6 (x:A×B×C×D×E×F×G)(t:T):=gP x.2.2.2 t
abbrev yMv (x:A×B×C×D×E×F×G×H)(t:T):=gP x.2.2.2.2 t
abbrev aaA (x:A×B×C×D×E×F×G×H×I)(t:T):=gP x.2.2.2.2.2 t
abbrev vYz (x:A×B×C×D×E×F×G×H×I×J×K×L)(t:T):=gP x.2.2.2.2.2.2.2.2 t
abbrev yEj (x:A×B×C×D×E×F×G×H×I×J×K×L×M×N×O×P×Q)(t:T):=jE x.2.2.2.2.2.2.2.2.2.2.2.2 t
abbrev Wr (x:A×B×C×D×E×F×G×H×I×J×K×L×M×N×O×P×Q)(t:T):=nV x.2.2.2.2.2.2.2.2.2.2.2 t
abbrev yDi (x:A×B×C×D×E×F×G×H)(t:T):=nV x.2.2 t
abbrev qKp (x:A×B×C×D×E×F×G×H×I×J×K×L×M×N×O×P×Q)(t:T):=iw x.2.2.2.2.2.2.2.2.2.2 t
abbrev yS8 (x:A×B×C×D×E×F×G×H)(t:T):=iw x.2 t
abbrev qX4 (x:A×B×C×D×E×F×G×H×I×J×K)(t:T):=iw x.2.2.2.2 t
abbrev yJh (x:A×B×C×D×E×F×G×H×I×J×K×L×M×N)(t:T):=iw x.2.2.2.2.2.2.2 t
abbrev yO6 (x:A×B×C×D×E×F×G×H×I×J×K×L×M×N×O)(t:T):=iw x.2.2.2.2.2.2.2.2 t
abbrev vCr (x:A×B×C×D×E×F×G×H×I×J×K×L)(t:T):=wP x.2 t
abbrev He (x:A×B×C×D×E×F×G×H×I×J×K×L×M×N×O×P×Q×R)(t:T):=wP x.2.2.2.2.2.2.2 t
abbrev vFx (x:A×B×C×D×E×F×G×H×I×J×K×L×M×N×O)(t:T):=qQi x.2 t
abbrev qJd (x:A×B×C×D×E×F×G×H×I×J×K×L×M×N×O×P×Q×R×S)(t:T):=jI x.2 t
abbrev vDz (x:A×B×C×D×E×F×G×H×I×J×K×L×M×N×O×P×Q×R×S×U):=fL x.2.2.2.2.2.2.2.2.2.2.2.2.2.2.2
abbrev Qr (x:A×B×C×D×E×F):=fL x.2
abbrev QE (x:A×B×C×D×E×F×G×H×I×J×K×L×M×N×O×P×Q×R×S×U×V×W×X×Z×a):=fL x.2.2.2.2.2.2.2.2.2.2.2.2.2.2.2.2.2.2.2.2
abbrev qWa (x:A×B×C×D×E×F×G×H×I×J×K×L×M×N×O×P×Q×R×S×U×V×W×X×Z×a×b):=fL x.2.2.2.2.2.2.2.2.2.2.2.2.2.2.2.2.2.2.2.2.2
abbrev qKw (x:A×B×C×D×E×F×G):=fL x.2.2
abbrev vO5 (x:A×B×C×D×E×F×G×H×I×J×K×L×M×N×O×P×Q×R×S×U×V×W×X×Z×a×b×Aa×Ab×Ac×Ad×Ae×Af×Ag×Ah×Ai×Aj):=fL x.2.2.2.2.2.2.2.2.2.2.2.2.2.2.2.2.2.2.2.2.2.2.2.2.2.2.2.2.2.2.2
abbrev aap (x:A×B×C×D×E×F×G×H×I×J×K×L×M×N×O×P×Q×R×S×U×V×W×X×Z×a×b×Aa×Ab×Ac×Ad×Ae×Af×Ag×Ah×Ai×Aj×Ak):=fL x.2.2.2.2.2.2.2.2.2.2.2.2.2.2.2.2.2.2.2.2.2.2.2.2.2.2.2.2.2.2.2.2
abbrev yQk (x:A×B×C×D×E×F×G×H×I×J×K×L×M×N×O×P×Q×R×S×U×V×W×X×Z×a):=mZ x.2.2.2.2.2.2.2.2.2.2.2.2.2.2.2.2.2.2
abbrev vIu (x:A×B×C×D×E×F×G×H×I×J×K×L×M×N×O×P×Q×R×S×U×V×W×X×Z×a×b):=mZ x.2.2.2.2.2.2.2.2.2.2.2.2.2.2.2.2.2.2.2
abbrev yYk (x:A×B×C×D×E×F×G×H×I×J×K×L×M×N×O×P×Q×R×S×U×V×W×X×Z×a×b×Aa):=mZ x.2.2.2.2.2.2.2.2.2.2.2.2.2.2.2.2.2.2.2.2
abbrev G2 (x:A×B×C×D×E×F×G×H×I×J×K×L×M×N×O×P×Q×R×S×U×V×W×X×Z×a×b):=wM x.2.2.2.2.2.2.2.2.2.2.2.2.2.2.2.2.2.2
abbrev vLu (x:A×B×C×D×E×F×G×H×I×J×K×L×M×N×O×P×Q×R×S×U×V×W×X×Z×a×b×Aa):=wM x.2.2.2.2.2.2.2.2.2.2.2.2.2.2.2.2.2.2.2
abbrev P5 (x:A×B×C×D×E×F×G×H×I):=wM x.2
abbrev YB (x:A×B×C×D×E×F×G×H×I×J×K×L×M×N):=wM x.2.2.2.2.2.2
abbrev qRh (x:A×B×C×D×E×F×G×H×I×J×K×L×M×N×O):=wM x.2.2.2.2.2.2.2
abbrev Yv (x:A×B×C×D×E×F×G×H×I×J×K×L×M×N×O×P×Q×R×S×U×V×W×X×Z×a):=qb x.2.2.2.2.2.2.2.2.2.2.2.2.2.2.2.2
abbrev vVj (x:A×B×C×D×E×F×G×H×I×J×K×L×M×N):=qb x.2.2.2.2.2
abbrev GW (x:A×B×C×D×E×F×G×H×I×J×K×L):=fu x.2
abbrev QF (x:A×B×C×D×E×F×G×H×I×J×K×L×M×N×O×P×Q×R×S×U×V×W×X×Z×a×b×Aa×Ab×Ac×Ad×Ae×Af×Ag×Ah×Ai):=fu x.2.2.2.2.2.2.2.2.2.2.2.2.2.2.2.2.2.2.2.2.2.2.2.2
abbrev qRq (x:A×B×C×D×E×F×G×H×I×J×K×L×M×N×O×P×Q×R×S×U×V×W×X×Z×a×b×Aa×Ab×Ac×Ad×Ae×Af×Ag×Ah×Ai×Aj):=fu x.2.2.2.2.2.2.2.2.2.2.2.2.2.2.2.2.2.2.2.2.2.2.2.2.2
abbrev yQa (x:A×B×C×D×E×F×G×H×I×J×K×L×M):=fu x.2.2
abbrev aaL (x:A×B×C×D×E×F×G×H×I×J×K×L×M×N×O×P×Q×R×S×U×V×W×X×Z×a×b×Aa×Ab×Ac×Ad×Ae×Af×Ag×Ah×Ai×Aj×Ak×Al×Am×An×Ao×Ap×Aq×Ar×As×At):=fu x.2.2.2.2.2.2.2.2.2.2.2.2.2.2.2.2.2.2.2.2.2.2.2.2.2.2.2.2.2.2.2.2.2.2.2
abbrev vAc (x:A×B×C×D×E×F×G×H×I×J×K×L×M×N×O):=fu x.2.2.2.2
abbrev Qs (x:A×B×C×D×E×F×G×H×I×J×K×L×M×N×O×P):=fu x.2.2.2.2.2
abbrev qMh (x:A×B×C×D×E×F×G×H×I×J×K×L×M×N×O×P×Q):=fu x.2.2.2.2.2.2
abbrev vFh (x:A×B×C×D×E×F×G×H×I×J×K×L×M×N×O×P×Q×R×S×U×V×W×X):=qQ x.2.2.2.2.2.2.2.2.2.2.2
abbrev pX (x:A×B×C×D×E×F×G×H×I×J×K×L×M×N×O×P×Q):=qQ x.2.2.2.2.2
abbrev vCs (x:A×B×C×D×E×F×G×H×I×J×K×L×M×N×O×P×Q×R×S):=qQ x.2.2.2.2.2.2.2
abbrev vW1 (x:A×B×C×D×E×F×G×H×I×J×K×L×M×N×O×P×Q×R×S×U×V×W×X×Z×a×b×Aa×Ab×Ac×Ad×Ae):=eX x.2.2.2.2.2.2.2.2.2.2.2.2
abbrev vY3 (x:A×B×C×D×E×F×G×H×I×J×K×L×M×N×O×P×Q×R×S×U×V×W×X×Z×a×b×Aa×Ab×Ac×Ad×Ae×Af):=eX x.2.2.2.2.2.2.2.2.2.2.2.2.2
abbrev kb (x:A×B×C×D×E×F×G×H×I×J×K×L×M×N×O×P×Q×R×S×U):=eX x.2
abbrev qNt (x:A×B×C×D×E×F×G×H×I×J×K×L×M×N×O×P×Q×R×S×U×V):=eX x.2.2
abbrev B2 (x:A×B×C×D×E×F×G×H×I×J×K×L×M×N×O×P×Q×R×S×U×V):=Qk x.2
abbrev G9 (x:A×B×C×D×E×F×G×H×I×J×K×L×M×N×O)(t:T):=vX x.2.2.2.2.2.2.2.2.2.2 t
abbrev QZ (x:A×B×C×D×E×F×G×H×I×J×K×L×M×N×O×P×Q×R)(t:T):=vX x.2.2.2.2.2.2.2.2.2.2.2.2.2 t
abbrev iy (x:A×B×C×D×E×F)(t:T):=vX x.2 t
abbrev P2 (x:A×B×C×D×E×F×G)(t:T):=vX x.2.2 t
abbrev Z7 (x:A×B×C×D×E×F×G×H×I×J)(t:T):=vX x.2.2.2.2.2 t
abbrev yJv (x:A×B×C×D×E×F×G×H×I×J×K×L×M×N×O×P×Q×R)(t:T):=qd x.2.2.2.2.2.2.2.2.2.2.2.2 t
abbrev yCz (x:A×B×C×D×E×F×G×H×I×J×K×L×M×N×O×P×Q×R)(t:T):=jN x.2.2.2.2.2.2.2.2.2.2.2 t
abbrev qQl (x:A×B×C×D×E×F×G×H×I×J×K×L×M×N×O×P×Q×R)(t:T):=j6 x.2.2.2.2.2.2.2.2.2.2 t
abbrev vCn (x:A×B×C×D×E×F×G×H×I×J×K×L×M×N×O×P×Q×R×S×U)(t:T):=j6 x.2.2.2.2.2.2.2.2.2.2.2.2 t
abbrev qYs (x:A×B×C×D×E×F×G×H×I)(t:T):=j6 x.2 t
abbrev vVs (x:A×B×C×D×E×F×G×H×I×J×K×L×M)(t:T):=j6 x.2.2.2.2.2 t
abbrev vXg (x:A×B×C×D×E×F×G×H×I×J×K×L×M×N×O×P×Q)(t:T):=yi x.2.2.2.2.2 t
abbrev vUr (x:A×B×C×D×E×F×G×H×I×J×K×L×M×N×O×P×Q×R×S×U×V)(t:T):=qI6 x.2.2.2.2.2.2 t
abbrev GH (x:A×B×C×D×E×F×G×H×I×J×K×L×M×N×O×P×Q×R×S)(t:T):=yE x.2 t
end
def PJ (k:Nat)(a0:Int):Option vQ:=
 bif decide (a0<0) then none
 else bif decide (a0>200000) then none
 else some (a0,[],0,[],0,0,0,false,false,0)
def sG (k:Nat)(a0 a1 a2:Int):Option Bool:=
 bif decide (a0≥a1) then some (decide (a0≤a2))
 else some false
def yCm (k:Nat)(a0:vU):Option Bool:=
 (sG k a0.1 0 1048576).bind fun x0=>
 bif !x0 then some true
 else(sG k a0.2 0 10000).bind fun x1=>
 some (!x1)
abbrev Xr:Type:=List vU→Int→Int→Option (Unit⊕Int)
def yFa (k:Nat)(rec:Xr)(s0:List vU)(s7 s8:Int):Option (Unit⊕Int):=
 bif decide (s8 < s7) then (bif zB s8 s0.length then ((yCm k (s0.getD s8.toNat (0,0))).bind fun x0=>
   bif x0 then some (.inr s8)
   else rec s0 s7 (zA (s8+1)))
  else none)
 else some (.inl ())
def Xt (k:Nat):Nat→Xr:=yS (fun _ _ _=>none) (yFa k)
def yLm (k:Nat)(a0:List vU):Option Int:=
 (Xt k k a0 (a0.length:Int) 0).bind fun z=>
 match z with
 |.inl z1=>some (-1)
 |.inr z2=>some z2
def yYm (k:Nat)(a0:List vU):Option Bool:=
 (yLm k a0).bind fun x0=>
 some (decide (x0≥0))
def pW (k:Nat)(a0:vP):Option Bool:=
 (sG k a0.1 1 6).bind fun x0=>
 bif x0 then ((sG k a0.2.2.2.1 1 1048576).bind fun x1=>
  bif x1 then ((sG k a0.2.2.1 0 a0.2.2.2.1).bind fun x2=>
   bif x2 then ((sG k a0.2.2.2.2 1 1048576).bind fun x3=>
    bif decide ((a0.2.1.length : Int) ≤ 3) then (bif x3 then ((yYm k a0.2.1).bind fun x4=>
      some (!x4))
     else some false)
    else some false)
   else bif decide ((a0.2.1.length:Int)≤3) then some false
   else some false)
  else bif decide ((a0.2.1.length:Int)≤3) then some false
  else some false)
 else(sG k a0.2.2.2.1 1 1048576).bind fun x5=>
 bif x5 then ((sG k a0.2.2.1 0 a0.2.2.2.1).bind fun x6=>
  bif x6 then ((sG k a0.2.2.2.2 1 1048576).bind fun x7=>
   some false)
  else some false)
 else some false
def PN (k:Nat)(a0:Int):Option Bool:=
 bif decide (a0≥0) then some (decide (a0<2))
 else some false
def BQ (k:Nat)(a0:AC):Option AC:=
 bif zP (0+a0.length) 1 then some a0
 else none
def Xb (k:Nat)(a0:vQ)(a1:Int):Option AC:=
 (PN k a1).bind fun x0=>
 bif !x0 then some []
 else bif decide (a1 = 0) then ((BQ k a0.2.1).bind fun x1=>
  some x1)
 else bif decide (a1 = 1) then ((BQ k a0.2.2.2.1).bind fun x2=>
  some x2)
 else none
abbrev Xx:Type:=AC×EQ
abbrev Xv:Type:=AC→EQ→Option Xx
def DJ (k:Nat)(rec:Xv)(s0:AC)(r0:EQ):Option Xx:=
 bif decide ((s0.length : Int) ≥ 2) then (bif zB 0 s0.length then (bif zB 1 s0.length then (bif decide ((wG .i64 (shl .i64 (zA ((s0.getD 0 0))) 8) (zA ((s0.getD 1 0))))>60000) then some (s0,r0)
    else bif decide ((wG .i64 (shl .i64 (zA ((s0.getD 0 0))) 8) (zA ((s0.getD 1 0))))>(zA ((s0.length:Int)-2))) then some (s0,r0)
    else bif (decide (2 ≤ (zA (2 + (wG .i64 (shl .i64 (zA ((s0.getD 0 0))) 8) (zA ((s0.getD 1 0)))))))) && (decide ((zA (2 + (wG .i64 (shl .i64 (zA ((s0.getD 0 0))) 8) (zA ((s0.getD 1 0)))))) ≤ (s0.length : Int))) then (bif zP (0 + (qR s0 2 ((zA (2 + (wG .i64 (shl .i64 (zA ((s0.getD 0 0))) 8) (zA ((s0.getD 1 0)))))).toNat - 2)).length) 1 then (let y0:AC:=(qR s0 2 ((zA (2+(wG .i64 (shl .i64 (zA ((s0.getD 0 0))) 8) (zA ((s0.getD 1 0)))))).toNat-2))
      bif zP (r0.length + 1) 24 then (bif (decide (0≤(zA (2+(wG .i64 (shl .i64 (zA ((s0.getD 0 0))) 8) (zA ((s0.getD 1 0))))))))&&(decide ((zA (2+(wG .i64 (shl .i64 (zA ((s0.getD 0 0))) 8) (zA ((s0.getD 1 0))))))≤(s0.length:Int))) then(rec (List.drop (zA (2+(wG .i64 (shl .i64 (zA ((s0.getD 0 0))) 8) (zA ((s0.getD 1 0)))))).toNat s0) (r0++[y0]))
       else none)
      else none)
     else none)
    else none)
   else none)
  else none)
 else some (s0,r0)
def DI (k:Nat):Nat→Xv:=yS (fun _ _=>none) (DJ k)
def Ni (k:Nat)(a0:AC):Option (EQ×Int):=
 (DI k k a0 []).bind fun z=>
 some (z.2,(z.1.length:Int))
abbrev XA:Type:=AC×Int×AC
abbrev Xy:Type:=AC→Int→AC→Int→Int→AC→Option XA
def Na (k:Nat)(rec:Xy)(s0:AC)(s5:Int)(bX:AC)(bj kT:Int)(r0:AC):Option XA:=
 bif decide (kT < bj) then (bif zB kT bX.length then(rec s0 (wG .u64 (shl .u64 s5 8) (IntKind.wrap .u64 ((bX.getD kT.toNat 0)))) bX bj (zA (kT+1)) r0)
  else none)
 else some (s0,s5,r0)
def Dw (k:Nat):Nat→Xy:=yS (fun _ _ _ _ _ _=>none) (Na k)
def Dy (k:Nat)(rec:AC→AC→Option AC)(s0 r0:AC):Option AC:=
 bif decide ((s0.length : Int) > 0) then (bif decide (8 ≤ (s0.length : Int)) then ((Dw k k s0 0 (List.take 8 s0) ((List.take 8 s0).length:Int) 0 r0).bind fun z=>
   bif zP (z.2.2.length + 1) 8 then (bif decide (8≤(z.1.length:Int)) then(rec (List.drop 8 z.1) (z.2.2++[(zA (z.2.1))]))
    else none)
   else none)
  else none)
 else some r0
def Dx (k:Nat):Nat→AC→AC→Option AC:=yS (fun _ _=>none) (Dy k)
def sg (k:Nat)(a0:AC):Option (AC×Int):=
 bif !(decide ((Int.tmod (a0.length:Int) 8)=0)) then some ([],2)
 else(Dx k k a0 []).bind fun z1=>
 some (z1,0)
def xV (k:Nat)(a0:vQ)(a1:Int):Option (Int×AC×EQ):=
 (Xb k a0 a1).bind fun x0=>
 (Ni k x0).bind fun x1=>
 bif decide ((x1.1.length:Int)=0) then some (0,[],[])
 else bif zB 0 x1.1.length then (bif decide (((x1.1.getD 0 []).length:Int)<8) then some (0,[],[])
  else bif zB 0 x1.1.length then (bif decide (8 ≤ ((x1.1.getD 0 []).length : Int)) then ((sg k (List.take 8 (x1.1.getD 0 []))).bind fun x2=>
    bif zB 0 x2.1.length then (bif decide ((x2.1.getD 0 0)<1) then some (0,[],[])
     else bif zB 0 x2.1.length then (bif decide ((x2.1.getD 0 0)>4611686018427387904) then some (0,[],[])
      else bif zB 0 x2.1.length then (bif zB 0 x1.1.length then (bif decide (8 ≤ ((x1.1.getD 0 []).length : Int)) then (bif decide (1≤(x1.1.length:Int)) then some ((x2.1.getD 0 0),(List.drop 8 (x1.1.getD 0 [])),(qR x1.1 1 (x1.1.length-1)))
         else none)
        else none)
       else none)
      else none)
     else none)
    else none)
   else none)
  else none)
 else none
def KY (k:Nat)(a0:vQ):Option (Int×Int×AC×EQ×Bool):=
 (xV k a0 0).bind fun x0=>
 bif decide (x0.1 > 0) then ((xV k a0 1).bind fun x1=>
  bif decide (x1.1>x0.1) then some (x1.1,1,x1.2.1,x1.2.2,true)
  else some (x0.1,0,x0.2.1,x0.2.2,true))
 else(xV k a0 1).bind fun x2=>
 bif decide (x2.1>0) then some (x2.1,1,x2.2.1,x2.2.2,true)
 else some (0,0,[],[],false)
def Jg (k:Nat)(a0:Int):Option Bool:=
 bif decide (a0≥0) then some (decide (a0≤6))
 else some false
abbrev XH:Type:=Int→Int→Int→AC→Option AC
def Er (k:Nat)(rec:XH)(s1 bz bC:Int)(r0:AC):Option AC:=
 bif decide (bC < bz) then (bif zB bC r0.length then(rec s1 bz (zA (bC+1)) (r0.set bC.toNat s1))
  else none)
 else some r0
def Jh (k:Nat):Nat→XH
 |0,_,_,_,_=>none
 |n+1,s1,bz,bC,r0=>Er k (Jh k n) s1 bz bC r0
def AV (k:Nat)(a0 a1:Int):Option AC:=
 (Jg k a0).bind fun x0=>
 bif !x0 then some []
 else bif rP a0 a0 8 then ((Jh k k a1 ((List.replicate a0.toNat (0:Int)).length:Int) 0 (List.replicate a0.toNat (0:Int))).bind fun z=>
  some z)
 else none
abbrev XJ:Type:=Int→Int→Int→Int→EQ→Option EQ
def Et (k:Nat)(rec:XJ)(s0 s1 bz bC:Int)(m0:EQ):Option EQ:=
 bif decide (bC < bz) then ((AV k s0 s1).bind fun x1=>
  bif zB bC m0.length then(rec s0 s1 bz (zA (bC+1)) (m0.set bC.toNat x1))
  else none)
 else some m0
def Ji (k:Nat):Nat→XJ
 |0,_,_,_,_,_=>none
 |n+1,s0,s1,bz,bC,m0=>Et k (Ji k n) s0 s1 bz bC m0
def Es (k:Nat)(a0 a1:Int):Option EQ:=
 (Jg k a0).bind fun x0=>
 bif !x0 then some []
 else bif rP a0 a0 24 then ((Ji k k a0 a1 ((List.replicate a0.toNat ([]:AC)).length:Int) 0 (List.replicate a0.toNat ([]:AC))).bind fun z=>
  some z)
 else none
abbrev XO:Type:=Int×vP×vN×vN×(List zI)×EQ×AC×EQ×AC
abbrev XN:Type:=Int→List vU→Int→Int→vP→vN→vN→List zI→EQ→AC→EQ→AC→Option XO
def yMp (k:Nat)(rec:XN)(s3:Int)(cI:List vU)(s21 Q3:Int)(b0:vP)(b1 b2:vN)(r3:List zI)(m4:EQ)(r5:AC)(m6:EQ)(r7:AC):Option XO:=
 bif decide (Q3 < s21) then (bif zB Q3 cI.length then (bif zP (r7.length+1) 8 then(rec s3 cI s21 (zA (Q3+1)) b0 b1 b2 r3 m4 r5 m6 (r7++[(cI.getD Q3.toNat (0,0)).1]))
   else none)
  else none)
 else some (s3,b0,b1,b2,r3,m4,r5,m6,r7)
def XP (k:Nat):Nat→XN:=yS (fun _ _ _ _ _ _ _ _ _ _ _ _=>none) (yMp k)
abbrev XR:Type:=vN×vN×(List zI)×EQ×AC×EQ×AC×EQ
abbrev XQ:Type:=Int→Int→vP→vN→vN→List zI→EQ→AC→EQ→AC→EQ→Option XR
def yK0 (k:Nat)(rec:XQ)(B8 sR:Int)(b0:vP)(b1 b2:vN)(r3:List zI)(m4:EQ)(r5:AC)(m6:EQ)(r7:AC)(m8:EQ):Option XR:=
 bif decide (sR < B8) then (bif rP (b0.2.1.length : Int) (b0.2.1.length : Int) 8 then (bif zP (m8.length+1) 24 then(rec B8 (zA (sR+1)) b0 b1 b2 r3 m4 r5 m6 r7 (m8++[(List.replicate b0.2.1.length (0:Int))]))
   else none)
  else none)
 else some (b1,b2,r3,m4,r5,m6,r7,m8)
def XS (k:Nat):Nat→XQ:=yS (fun _ _ _ _ _ _ _ _ _ _ _=>none) (yK0 k)
def pV (k:Nat)(a0:vP):Option yY:=
 bif rP a0.1 a0.1 24 then ((Es k a0.1 (-1)).bind fun x0=>
  (AV k a0.1 (-1)).bind fun x1=>
  (Es k a0.1 0).bind fun x2=>
  (XP k k a0.1 a0.2.1 (a0.2.1.length:Int) 0 a0 (0,0,false) (0,0,false) (List.replicate a0.1.toNat ((0,0,0):Int×Int×Int)) x0 x1 x2 []).bind fun z=>
  (XS k k z.1 0 z.2.1 z.2.2.1 z.2.2.2.1 z.2.2.2.2.1 z.2.2.2.2.2.1 z.2.2.2.2.2.2.1 z.2.2.2.2.2.2.2.1 z.2.2.2.2.2.2.2.2 []).bind fun z1=>
  some (z1.2.1.1,(yDi z1 ([],[],z1.2.1.2))))
 else none
def Ng (k:Nat)(a0:Bool):Option Int:=
 bif a0 then some 1
 else some 0
abbrev XZ:Type:=AC×Int×Int×AC
abbrev XX:Type:=Int→Int→AC→Int→Int→AC→Option XZ
def Nd (k:Nat)(rec:XX)(s5 s6:Int)(aR:AC)(de bz:Int)(r0:AC):Option XZ:=
 bif decide (s6 ≥ 0) then (bif !(decide ((zA (8 * s6)) < 0)) then (bif zP (r0.length+1) 1 then(rec s5 (zA (s6-1)) aR de bz (r0++[(IntKind.wrap .u8 ((shr .i64 s5 (zA (8*s6)))))]))
   else none)
  else none)
 else some (aR,de,bz,r0)
def w8 (k:Nat):Nat→XX:=yS (fun _ _ _ _ _ _=>none) (Nd k)
abbrev X0:Type:=AC→Int→Int→AC→Option AC
def DB (k:Nat)(rec:X0)(aR:AC)(de bz:Int)(r0:AC):Option AC:=
 bif decide (bz < de) then (bif zB bz aR.length then ((w8 k k (aR.getD bz.toNat 0) 7 aR de bz r0).bind fun z=>
   rec z.1 z.2.1 (zA (z.2.2.1+1)) z.2.2.2)
  else none)
 else some r0
def AL (k:Nat):Nat→X0:=yS (fun _ _ _ _=>none) (DB k)
def w9 (k:Nat)(a0:AC):Option AC:=
 bif rP 0 (zA (8 * (a0.length : Int))) 1 then ((AL k k a0 (a0.length:Int) 0 []).bind fun z1=>
  some z1)
 else none
def Nf (k:Nat)(a0:AC):Option AC:=
 (w9 k [(a0.length:Int)]).bind fun x0=>
 (w9 k a0).bind fun x1=>
 bif zP (x0.length+x1.length) 1 then some (x0++x1)
 else none
abbrev X3:Type:=EQ→Int→Int→AC→Option AC
def DE (k:Nat)(rec:X3)(s6:EQ)(s7 s8:Int)(r0:AC):Option AC:=
 bif decide (s8 < s7) then (bif zB s8 s6.length then ((Nf k (s6.getD s8.toNat [])).bind fun x0=>
   bif zP (r0.length+x0.length) 1 then(rec s6 s7 (zA (s8+1)) (r0++x0))
   else none)
  else none)
 else some r0
def DD (k:Nat):Nat→X3:=yS (fun _ _ _ _=>none) (DE k)
def II (k:Nat)(a0:EQ):Option AC:=
 (DD k k a0 (a0.length:Int) 0 []).bind fun z=>
 some z
abbrev X8:Type:=yY×Lv×EQ
abbrev X7:Type:=List zI→Int→Int→yY→Lv→EQ→Option X8
def DF (k:Nat)(rec:X7)(lv:List zI)(gw iW:Int)(b0:yY)(b1:Lv)(r2:EQ):Option X8:=
 bif decide (iW < gw) then (bif zB iW lv.length then (bif zP (r2.length + 1) 24 then (let y0:EQ:=(r2++[[(lv.getD iW.toNat (0,0,0)).1,(lv.getD iW.toNat (0,0,0)).2.1,(lv.getD iW.toNat (0,0,0)).2.2]])
    rec lv gw (zA (iW+1)) b0 b1 y0)
   else none)
  else none)
 else some (b0,b1,r2)
def AM (k:Nat):Nat→X7:=yS (fun _ _ _ _ _ _=>none) (DF k)
abbrev Ya:Type:=yY×EQ
abbrev X9:Type:=List zC→Int→Int→yY→EQ→Option Ya
def DG (k:Nat)(rec:X9)(uT:List zC)(s80 sS:Int)(b0:yY)(r1:EQ):Option Ya:=
 bif decide (sS < s80) then (bif zB sS uT.length then (bif zP (r1.length + 1) 24 then (let y3:EQ:=(r1++[[(uT.getD sS.toNat (0,0,0,0,0,0,0)).1,(uT.getD sS.toNat (0,0,0,0,0,0,0)).2.1,(uT.getD sS.toNat (0,0,0,0,0,0,0)).2.2.1,(uT.getD sS.toNat (0,0,0,0,0,0,0)).2.2.2.1,(uT.getD sS.toNat (0,0,0,0,0,0,0)).2.2.2.2.1,(uT.getD sS.toNat (0,0,0,0,0,0,0)).2.2.2.2.2.1,(uT.getD sS.toNat (0,0,0,0,0,0,0)).2.2.2.2.2.2]])
    rec uT s80 (zA (sS+1)) b0 y3)
   else none)
  else none)
 else some (b0,r1)
def AN (k:Nat):Nat→X9:=yS (fun _ _ _ _ _=>none) (DG k)
def lV (k:Nat)(a0:yY):Option AC:=
 (Ng k a0.2.2.2.2.2.2.2.2.2.2).bind fun x0=>
 (AM k k a0.2.1 (a0.2.1.length:Int) 0 a0 (Qr a0) [[a0.1,a0.2.2.2.2.2.2.2.2.2.1,x0,(a0.2.1.length:Int),(a0.2.2.1.length:Int),(a0.2.2.2.1.length:Int),(a0.2.2.2.2.1.length:Int),(a0.2.2.2.2.2.2.1.length:Int),(a0.2.2.2.2.2.2.2.1.length:Int)]]).bind fun z=>
 bif zP (z.2.2.length + z.2.1.2.1.length) 24 then (bif zP ((z.2.2 ++ z.2.1.2.1).length + 1) 24 then (let y1:EQ:=((z.2.2++z.2.1.2.1)++[z.2.1.2.2.1])
   bif zP (y1.length + z.2.1.2.2.2.length) 24 then (bif zP ((y1 ++ z.2.1.2.2.2).length + 1) 24 then (let y2:EQ:=((y1++z.2.1.2.2.2)++[z.1.2.2.2.2.2.1])
     bif zP (y2.length + z.1.2.2.2.2.2.2.1.length) 24 then ((AN k k z.1.2.2.2.2.2.2.2.1 (z.1.2.2.2.2.2.2.2.1.length:Int) 0 z.1 (y2++z.1.2.2.2.2.2.2.1)).bind fun z1=>
      bif zP (z1.2.length + 1) 24 then (let y4:EQ:=(z1.2++[z1.1.2.2.2.2.2.2.2.2.1])
       (II k y4).bind fun x1=>
       some x1)
      else none)
     else none)
    else none)
   else none)
  else none)
 else none
def IG (k:Nat)(a0:AC):Option lr:=
 bif decide ((a0.length:Int)>60000) then some ([],false)
 else bif zP (2+a0.length) 1 then some (([(IntKind.wrap .u8 ((shr .i64 (a0.length:Int) 8))),(IntKind.wrap .u8 ((a0.length:Int)))]++a0),true)
 else none
def W9 (k:Nat)(a0:vQ):Option Int:=
 some a0.1
def PY (k:Nat)(a0:vQ):Option Bool:=
 some a0.2.2.2.2.2.2.2.2.1
def kP (k:Nat)(a0:vQ):Option (Bool×vQ):=
 bif !a0.2.2.2.2.2.2.2.1 then some (false,(qHs a0 (zA (a0.2.2.2.2.2.2.2.2.2+1))))
 else bif decide (a0.2.2.2.2.2.2.2.2.2<a0.2.2.2.2.2.1) then some (false,(qHs a0 (zA (a0.2.2.2.2.2.2.2.2.2+1))))
 else bif (decide (0 ≤ (zA (a0.2.2.1 + (wC true (wC false a0.2.2.2.2.2.2.1 0) (zA ((a0.2.1.length : Int) - a0.2.2.1))))))) && (decide ((zA (a0.2.2.1 + (wC true (wC false a0.2.2.2.2.2.2.1 0) (zA ((a0.2.1.length : Int) - a0.2.2.1))))) ≤ (a0.2.1.length : Int))) then (bif (decide (0≤(zA (a0.2.2.2.2.1+(wC true (zA ((wC false a0.2.2.2.2.2.2.1 0)-(wC true (wC false a0.2.2.2.2.2.2.1 0) (zA ((a0.2.1.length:Int)-a0.2.2.1))))) (zA ((a0.2.2.2.1.length:Int)-a0.2.2.2.2.1)))))))&&(decide ((zA (a0.2.2.2.2.1+(wC true (zA ((wC false a0.2.2.2.2.2.2.1 0)-(wC true (wC false a0.2.2.2.2.2.2.1 0) (zA ((a0.2.1.length:Int)-a0.2.2.1))))) (zA ((a0.2.2.2.1.length:Int)-a0.2.2.2.2.1)))))≤(a0.2.2.2.1.length:Int))) then some (true,a0.1,(List.take ((zA (a0.2.2.1+(wC true (wC false a0.2.2.2.2.2.2.1 0) (zA ((a0.2.1.length:Int)-a0.2.2.1))))).toNat-0) a0.2.1),(zA (a0.2.2.1+(wC true (wC false a0.2.2.2.2.2.2.1 0) (zA ((a0.2.1.length:Int)-a0.2.2.1))))),(List.take ((zA (a0.2.2.2.2.1+(wC true (zA ((wC false a0.2.2.2.2.2.2.1 0)-(wC true (wC false a0.2.2.2.2.2.2.1 0) (zA ((a0.2.1.length:Int)-a0.2.2.1))))) (zA ((a0.2.2.2.1.length:Int)-a0.2.2.2.2.1))))).toNat-0) a0.2.2.2.1),(zA (a0.2.2.2.2.1+(wC true (zA ((wC false a0.2.2.2.2.2.2.1 0)-(wC true (wC false a0.2.2.2.2.2.2.1 0) (zA ((a0.2.1.length:Int)-a0.2.2.1))))) (zA ((a0.2.2.2.1.length:Int)-a0.2.2.2.2.1))))),a0.2.2.2.2.2.1,a0.2.2.2.2.2.2.1,a0.2.2.2.2.2.2.2.1,true,a0.2.2.2.2.2.2.2.2.2)
  else none)
 else none
def PA (k:Nat)(a0:vQ)(a1:Int):Option (Int×vQ):=
 (PY k a0).bind fun x0=>
 bif x0 then some (11,a0)
 else(PN k a1).bind fun x1=>
 bif !x1 then some (1,a0)
 else(kP k a0).bind fun x2=>
 bif x2.1 then some (11,x2.2)
 else bif decide (a1 = 0) then (bif decide (a1=0) then some (0,x2.2.1,[],0,x2.2.2.2.2)
  else bif decide (a1=1) then some (0,x2.2.1,[],x2.2.2.2.1,x2.2.2.2.2.1,0,x2.2.2.2.2.2.2)
  else none)
 else bif decide (a1 = 1) then (bif decide (a1=0) then some (0,x2.2.1,x2.2.2.1,0,[],x2.2.2.2.2.2)
  else bif decide (a1=1) then some (0,x2.2.1,x2.2.2.1,x2.2.2.2.1,[],0,x2.2.2.2.2.2.2)
  else none)
 else none
def xU (k:Nat)(a0:vQ)(a1:Int)(a2:AC):Option (Int×vQ):=
 (PY k a0).bind fun x0=>
 bif x0 then some (11,a0)
 else(PN k a1).bind fun x1=>
 bif !x1 then some (1,a0)
 else bif decide (a1 = 0) then (bif decide ((a2.length:Int)>(zA (a0.1-(a0.2.1.length:Int)))) then some (3,a0)
  else(kP k a0).bind fun x2=>
  bif x2.1 then some (11,x2.2)
  else bif decide (a1 = 0) then (bif zP (x2.2.2.1.length+a2.length) 1 then some (0,x2.2.1,(x2.2.2.1++a2),x2.2.2.2)
   else none)
  else bif decide (a1 = 1) then (bif zP (x2.2.2.2.2.1.length+a2.length) 1 then some (0,x2.2.1,x2.2.2.1,x2.2.2.2.1,(x2.2.2.2.2.1++a2),x2.2.2.2.2.2)
   else none)
  else none)
 else bif decide (a1 = 1) then (bif decide ((a2.length:Int)>(zA (a0.1-(a0.2.2.2.1.length:Int)))) then some (3,a0)
  else(kP k a0).bind fun x3=>
  bif x3.1 then some (11,x3.2)
  else bif decide (a1 = 0) then (bif zP (x3.2.2.1.length+a2.length) 1 then some (0,x3.2.1,(x3.2.2.1++a2),x3.2.2.2)
   else none)
  else bif decide (a1 = 1) then (bif zP (x3.2.2.2.2.1.length+a2.length) 1 then some (0,x3.2.1,x3.2.2.1,x3.2.2.2.1,(x3.2.2.2.2.1++a2),x3.2.2.2.2.2)
   else none)
  else none)
 else none
def uM (k:Nat)(a0:vQ):Option (Int×vQ):=
 (PY k a0).bind fun x0=>
 bif x0 then some (11,a0)
 else(kP k a0).bind fun x1=>
 bif x1.1 then some (11,x1.2)
 else some (0,x1.2.1,x1.2.2.1,(x1.2.2.1.length:Int),x1.2.2.2.2.1,(x1.2.2.2.2.1.length:Int),x1.2.2.2.2.2.2)
def KU (k:Nat)(a0:vQ)(a1 a2:Int)(a3:AC):Option (Int×vQ):=
 (w9 k [a2]).bind fun x0=>
 bif zP (x0.length + a3.length) 1 then ((IG k (x0++a3)).bind fun x1=>
  bif !x1.2 then some (10,a0)
  else bif decide (a2>4611686018427387904) then some (10,a0)
  else(W9 k a0).bind fun x2=>
  bif decide ((x1.1.length:Int)>x2) then some (10,a0)
  else(PA k a0 a1).bind fun x3=>
  bif !(decide (x3.1=0)) then some (x3.1,x3.2)
  else(xU k x3.2 a1 x1.1).bind fun x4=>
  bif !(decide (x4.1=0)) then some (x4.1,x4.2)
  else(uM k x4.2).bind fun x5=>
  some (x5.1,x5.2))
 else none
def PB (k:Nat)(a0:vQ)(a1:AC):Option ((AC×EQ×Int×vQ×gT)⊕(AC×EQ×Int×vQ)):=
 (KY k a0).bind fun x0=>
 bif x0.2.2.2.2 then some (.inl (x0.2.2.1,x0.2.2.2.1,0,a0,x0.2.1,x0.1,(x0.2.2.2.1.length:Int),true))
 else(KU k a0 0 1 a1).bind fun x1=>
 bif !(decide (x1.1=0)) then some (.inr ([],[],x1.1,x1.2))
 else bif zP (0+a1.length) 1 then some (.inl (a1,[],0,x1.2,0,1,0,false))
 else none
def Nh (k:Nat)(a0:AC):Option (AC×AC×Bool):=
 bif decide ((a0.length:Int)<8) then some ([],[],false)
 else bif decide (8 ≤ (a0.length : Int)) then ((sg k (List.take 8 a0)).bind fun x0=>
  bif decide (8 ≤ (a0.length : Int)) then (bif zB 0 x0.1.length then (bif decide ((x0.1.getD 0 0)<0) then some ([],[],false)
    else bif zB 0 x0.1.length then (bif decide ((x0.1.getD 0 0)>(zA (Int.tdiv ((List.drop 8 a0).length:Int) 8))) then some ([],[],false)
     else bif zB 0 x0.1.length then (bif (decide (0 ≤ (zA (8 * (x0.1.getD 0 0))))) && (decide ((zA (8 * (x0.1.getD 0 0))) ≤ ((List.drop 8 a0).length : Int))) then ((sg k (List.take (zA (8*(x0.1.getD 0 0))).toNat (List.drop 8 a0))).bind fun x1=>
       bif (decide (0≤(zA (8*(x0.1.getD 0 0)))))&&(decide ((zA (8*(x0.1.getD 0 0)))≤((List.drop 8 a0).length:Int))) then some (x1.1,(List.drop (zA (8*(x0.1.getD 0 0))).toNat (List.drop 8 a0)),true)
       else none)
      else none)
     else none)
    else none)
   else none)
  else none)
 else none
def xE (k:Nat)(a0:lr):Option (AC×lr):=
 (Nh k a0.1).bind fun x0=>
 bif a0.2 then some (x0.1,x0.2.1,true)
 else some (x0.1,x0.2.1,(!x0.2.2))
def FM (k:Nat)(a0:lr)(a1:Int):Option (AC×lr):=
 (xE k a0).bind fun x0=>
 bif !(decide ((x0.1.length : Int) = a1)) then (bif rP a1 a1 8 then some ((List.replicate a1.toNat (0:Int)),x0.2.1,true)
  else none)
 else some (x0.1,x0.2)
abbrev Yh:Type:=lr×EQ
abbrev Yf:Type:=Int→lr→EQ→Option Yh
def OM (k:Nat)(rec:Yf)(s1:Int)(b0:lr)(r1:EQ):Option Yh:=
 bif decide (s1 > 0) then (bif !b0.2 then ((xE k b0).bind fun x0=>
   bif zP (r1.length+1) 24 then(rec (zA (s1-1)) x0.2 (r1++[x0.1]))
   else none)
  else some (b0,r1))
 else some (b0,r1)
def J9 (k:Nat):Nat→Yf:=yS (fun _ _ _=>none) (OM k)
def FN (k:Nat)(a0:lr)(a1:Int):Option (EQ×lr):=
 (J9 k k a1 a0 []).bind fun z=>
 some (z.2,z.1)
def V4 (k:Nat)(a0 a1:AC):Option Bool:=
 some (yq a0 a1)
abbrev Yl:Type:=AC×vN×lr×AC×vN×(List zI)
abbrev Yk:Type:=AC→Int→vN→lr→AC→vN→List zI→Option Yl
def ON (k:Nat)(rec:Yk)(s0:AC)(s7:Int)(b0:vN)(b1:lr)(r2:AC)(b3:vN)(r4:List zI):Option Yl:=
 bif decide (s7 > 0) then (bif !b1.2 then ((FM k b1 3).bind fun x1=>
   bif zB 0 x1.1.length then (bif zB 1 x1.1.length then (bif zB 2 x1.1.length then (bif zP (r4.length + 1) 24 then (let y0:List zI:=(r4++[((x1.1.getD 0 0),(x1.1.getD 1 0),(x1.1.getD 2 0))])
       rec s0 (zA (s7-1)) b0 x1.2 r2 b3 y0)
      else none)
     else none)
    else none)
   else none)
  else some (s0,b0,b1,r2,b3,r4))
 else some (s0,b0,b1,r2,b3,r4)
def FO (k:Nat):Nat→Yk:=yS (fun _ _ _ _ _ _ _=>none) (ON k)
abbrev Yn:Type:=AC×vN×lr×vN×(List zI)×EQ×AC×EQ×AC×EQ×(List zC)
abbrev Ym:Type:=AC→Int→vN→lr→vN→List zI→EQ→AC→EQ→AC→EQ→List zC→Option Yn
def OO (k:Nat)(rec:Ym)(s0:AC)(s9:Int)(b0:vN)(b1:lr)(b2:vN)(r3:List zI)(r4:EQ)(r5:AC)(r6:EQ)(r7:AC)(r8:EQ)(r9:List zC):Option Yn:=
 bif decide (s9 > 0) then (bif !b1.2 then ((FM k b1 7).bind fun x7=>
   bif zB 0 x7.1.length then (bif zB 1 x7.1.length then (bif zB 2 x7.1.length then (bif zB 3 x7.1.length then (bif zB 4 x7.1.length then (bif zB 5 x7.1.length then (bif zB 6 x7.1.length then (bif zP (r9.length + 1) 56 then (let y1:List zC:=(r9++[((x7.1.getD 0 0),(x7.1.getD 1 0),(x7.1.getD 2 0),(x7.1.getD 3 0),(x7.1.getD 4 0),(x7.1.getD 5 0),(x7.1.getD 6 0))])
           rec s0 (zA (s9-1)) b0 x7.2 b2 r3 r4 r5 r6 r7 r8 y1)
          else none)
         else none)
        else none)
       else none)
      else none)
     else none)
    else none)
   else none)
  else some (s0,b0,b1,b2,r3,r4,r5,r6,r7,r8,r9))
 else some (s0,b0,b1,b2,r3,r4,r5,r6,r7,r8,r9)
def FP (k:Nat):Nat→Ym:=yS (fun _ _ _ _ _ _ _ _ _ _ _ _=>none) (OO k)
def Ka (k:Nat)(a0:AC):Option (yY×Bool):=
 (FM k (a0,false) 9).bind fun x0=>
 bif zB 0 x0.1.length then (bif zB 1 x0.1.length then (bif zB 2 x0.1.length then (bif zB 3 x0.1.length then ((FO k k a0 (x0.1.getD 3 0) (0,0,false) x0.2 x0.1 ((x0.1.getD 0 0),(x0.1.getD 1 0),(decide ((x0.1.getD 2 0)=1))) []).bind fun z=>
     bif zB 4 z.2.2.2.1.length then ((FN k z.2.2.1 (z.2.2.2.1.getD 4 0)).bind fun x2=>
      (xE k x2.2).bind fun x3=>
      bif zB 6 z.2.2.2.1.length then ((FN k x3.2 (z.2.2.2.1.getD 6 0)).bind fun x4=>
       (xE k x4.2).bind fun x5=>
       bif zB 7 z.2.2.2.1.length then ((FN k x5.2 (z.2.2.2.1.getD 7 0)).bind fun x6=>
        bif zB 8 z.2.2.2.1.length then ((FP k k z.1 (z.2.2.2.1.getD 8 0) z.2.1 x6.2 z.2.2.2.2.1 z.2.2.2.2.2 x2.1 x3.1 x4.1 x5.1 x6.1 []).bind fun z1=>
         (xE k z1.2.2.1).bind fun x8=>
         bif x8.2.2 then some ((0,[],[],[],[],[],[],[],[],0,false),false)
         else(lV k (z1.2.2.2.1.1,(qX4 z1 (x8.1,z1.2.2.2.1.2)))).bind fun x9=>
         (V4 k x9 z1.1).bind fun dm=>
         bif !dm then some ((0,[],[],[],[],[],[],[],[],0,false),false)
         else some ((z1.2.2.2.1.1,(qX4 z1 (x8.1,z1.2.2.2.1.2))),true))
        else none)
       else none)
      else none)
     else none)
    else none)
   else none)
  else none)
 else none
def tY (k:Nat)(a0:Int):Option Int:=
 bif decide (a0=9) then some 0
 else bif decide (a0=13) then some 0
 else bif decide (a0=14) then some 0
 else bif decide (a0=15) then some 0
 else bif decide (a0=2) then some 1
 else bif decide (a0=6) then some 1
 else bif decide (a0=7) then some 1
 else bif decide (a0=16) then some 1
 else bif decide (a0=19) then some 1
 else bif decide (a0=20) then some 1
 else bif decide (a0=21) then some 1
 else bif decide (a0=22) then some 1
 else bif decide (a0=23) then some 1
 else bif decide (a0=3) then some 2
 else bif decide (a0=4) then some 2
 else bif decide (a0=5) then some 2
 else bif decide (a0=8) then some 2
 else bif decide (a0=10) then some 2
 else bif decide (a0=11) then some 2
 else bif decide (a0=12) then some 2
 else bif decide (a0=18) then some 4
 else bif decide (a0=17) then some 5
 else bif decide (a0=1) then some 6
 else some (-1)
def AJ (k:Nat)(a0:AC):Option (zC×Int):=
 bif decide ((a0.length:Int)=0) then some ((0,0,0,0,0,0,0),2)
 else bif decide (1 ≤ (a0.length : Int)) then ((sg k (List.drop 1 a0)).bind fun x0=>
  bif !(decide (x0.2=0)) then some ((0,0,0,0,0,0,0),2)
  else bif zB 0 a0.length then ((tY k (zA ((a0.getD 0 0)))).bind fun x1=>
   bif !(decide ((x0.1.length:Int)=x1)) then some ((0,0,0,0,0,0,0),2)
   else bif zB 0 a0.length then some (((zA ((a0.getD 0 0))),(bif (Nat.blt 0 x0.1.length) then(x0.1.getD 0 0) else 0),(bif (Nat.blt 1 x0.1.length) then(x0.1.getD 1 0) else 0),(bif (Nat.blt 2 x0.1.length) then(x0.1.getD 2 0) else 0),(bif (Nat.blt 3 x0.1.length) then(x0.1.getD 3 0) else 0),(bif (Nat.blt 4 x0.1.length) then(x0.1.getD 4 0) else 0),(bif (Nat.blt 5 x0.1.length) then(x0.1.getD 5 0) else 0)),0)
   else none)
  else none)
 else none
def sw (k:Nat)(a0:AC):Option (qS×Int):=
 bif decide ((a0.length:Int)<8) then some ((0,0,0,0,0,0,0,0),2)
 else bif decide (8 ≤ (a0.length : Int)) then ((sg k (List.take 8 a0)).bind fun x0=>
  bif decide (8 ≤ (a0.length : Int)) then ((AJ k (List.drop 8 a0)).bind fun x1=>
   bif !(decide (x1.2=0)) then some ((0,0,0,0,0,0,0,0),2)
   else bif zB 0 x0.1.length then some (((x0.1.getD 0 0),x1.1),0)
   else none)
  else none)
 else none
def OH (k:Nat)(a0:Int):Option Bool:=
 bif decide (a0≥10) then some (decide (a0≤14))
 else some false
def J6 (k:Nat)(a0:Int):Option Bool:=
 bif decide (a0≥1) then some (decide (a0≤14))
 else some false
abbrev Yt:Type:=AC→Int→Int→Option (Unit⊕Bool)
def lg (k:Nat)(rec:Yt)(bz:AC)(bC aN:Int):Option (Unit⊕Bool):=
 bif decide (aN < bC) then (bif zB aN bz.length then (bif !(decide ((bz.getD aN.toNat 0)=0)) then some (.inr false)
   else rec bz bC (zA (aN+1)))
  else none)
 else some (.inl ())
def l9 (k:Nat):Nat→Yt:=yS (fun _ _ _=>none) (lg k)
def j5 (k:Nat)(a0:zC):Option Bool:=
 (tY k a0.1).bind fun x0=>
 bif decide (x0<0) then some false
 else bif (decide (0 ≤ x0)) && (decide (x0 ≤ 6)) then ((l9 k k (qR [a0.2.1,a0.2.2.1,a0.2.2.2.1,a0.2.2.2.2.1,a0.2.2.2.2.2.1,a0.2.2.2.2.2.2] x0.toNat (6-x0.toNat)) ((qR [a0.2.1,a0.2.2.1,a0.2.2.2.1,a0.2.2.2.2.1,a0.2.2.2.2.2.1,a0.2.2.2.2.2.2] x0.toNat (6-x0.toNat)).length:Int) 0).bind fun z=>
  match z with
  |.inl z1=>some true
  |.inr z2=>some z2)
 else none
def uA (k:Nat)(a0:vP)(a1:yY)(a2:qS):Option Int:=
 (OH k a2.2.1).bind fun x0=>
 bif decide (a2.1 ≥ 0) then ((J6 k a2.2.1).bind fun x1=>
  bif !x1 then some 5
  else(j5 k a2.2).bind fun x2=>
  bif !x2 then some 5
  else bif x0 then (bif !(decide (a2.1=(-1))) then some 5
   else bif !x0 then (bif !(decide (a2.1<a0.1)) then some 5
    else bif a1.2.2.2.2.2.2.2.2.2.2 then (bif !(decide (a2.2.1=9)) then some 7
     else some 0)
    else some 0)
   else bif a1.2.2.2.2.2.2.2.2.2.2 then (bif !(decide (a2.2.1=9)) then some 7
    else some 0)
   else some 0)
  else bif !x0 then (bif !(decide (a2.1<a0.1)) then some 5
   else bif a1.2.2.2.2.2.2.2.2.2.2 then (bif !(decide (a2.2.1=9)) then some 7
    else some 0)
   else some 0)
  else bif a1.2.2.2.2.2.2.2.2.2.2 then (bif !(decide (a2.2.1=9)) then some 7
   else some 0)
  else some 0)
 else(J6 k a2.2.1).bind fun x3=>
 bif !x3 then some 5
 else(j5 k a2.2).bind fun x4=>
 bif !x4 then some 5
 else bif x0 then (bif !(decide (a2.1=(-1))) then some 5
  else bif !x0 then some 5
  else bif a1.2.2.2.2.2.2.2.2.2.2 then (bif !(decide (a2.2.1=9)) then some 7
   else some 0)
  else some 0)
 else bif !x0 then some 5
 else bif a1.2.2.2.2.2.2.2.2.2.2 then (bif !(decide (a2.2.1=9)) then some 7
  else some 0)
 else some 0
def VJ (k:Nat)(cc bc bB cp bO bZ bS a1:Int):Option Bool:=
 some (decide (bc=a1))
abbrev Yy:Type:=List zC
abbrev Yw:Type:=List zC→Int→Int→Int→List zC→Option Yy
def Ft (k:Nat)(rec:Yw)(s8:List zC)(s9 aw af:Int)(r1:List zC):Option Yy:=
 bif decide (aw < s9) then (bif zB aw s8.length then ((VJ k (s8.getD aw.toNat (0,0,0,0,0,0,0)).1 (s8.getD aw.toNat (0,0,0,0,0,0,0)).2.1 (s8.getD aw.toNat (0,0,0,0,0,0,0)).2.2.1 (s8.getD aw.toNat (0,0,0,0,0,0,0)).2.2.2.1 (s8.getD aw.toNat (0,0,0,0,0,0,0)).2.2.2.2.1 (s8.getD aw.toNat (0,0,0,0,0,0,0)).2.2.2.2.2.1 (s8.getD aw.toNat (0,0,0,0,0,0,0)).2.2.2.2.2.2 af).bind fun x0=>
   bif x0 then (bif zP (r1.length + 1) 56 then (let y0:List zC:=(r1++[(s8.getD aw.toNat (0,0,0,0,0,0,0))])
     rec s8 s9 (zA (aw+1)) af y0)
    else none)
   else rec s8 s9 (zA (aw+1)) af r1)
  else none)
 else some r1
def JV (k:Nat):Nat→Yw
 |0,_,_,_,_,_=>none
 |n+1,s8,s9,aw,af,r1=>Ft k (JV k n) s8 s9 aw af r1
def VI (k:Nat)(a0:List zC)(cU:Int):Option (List zC):=
 (JV k k a0 (a0.length:Int) 0 cU []).bind fun z=>
 some z
def JU (k:Nat)(a0:List zC)(a1:Int):Option (List zC):=
 (VI k a0 a1).bind fun x0=>
 some x0
def yLl (k:Nat)(a0:(Int×Int×Int×Int×Int×Int×Bool×Int))(a1:Int)(a2:AC):Option jH:=
 some (a0.1,[],(iy a0 ([],[],[],[],[],[],[],[],a0.2.2.2.2.2.1,a0.2.2.2.2.2.2.1,a0.2.2.2.2.2.2.2,[(a0.2.2.2.2.2.2.2,a1,(bif (Nat.blt 0 a2.length) then(a2.getD 0 0) else 0),(bif (Nat.blt 1 a2.length) then(a2.getD 1 0) else 0),(bif (Nat.blt 2 a2.length) then(a2.getD 2 0) else 0),(bif (Nat.blt 3 a2.length) then(a2.getD 3 0) else 0),(bif (Nat.blt 4 a2.length) then(a2.getD 4 0) else 0),(bif (Nat.blt 5 a2.length) then(a2.getD 5 0) else 0))])))
def BE (k:Nat)(a0:yY)(a1:Int):Option (List qS):=
 bif zB a1 a0.2.1.length then ((JU k a0.2.2.2.2.2.2.2.1 a1).bind fun x0=>
  (yLl k (0,0,0,0,0,0,false,a1) 17 [(a0.2.1.getD a1.toNat (0,0,0)).1,(a0.2.1.getD a1.toNat (0,0,0)).2.1,(a0.2.1.getD a1.toNat (0,0,0)).2.2,(x0.length:Int),a0.1]).bind fun x1=>
  some x1.2.2.2.2.2.2.2.2.2.2.2.2.2.2.2.2.2)
 else none
def KH (k:Nat)(a0:lu)(a1:Int)(a2:AC):Option jH:=
 some (vT a0 [(a0.2.2.2.2.2.2.2.2.2.2.2.2.2.2.2.2,a1,(bif (Nat.blt 0 a2.length) then(a2.getD 0 0) else 0),(bif (Nat.blt 1 a2.length) then(a2.getD 1 0) else 0),(bif (Nat.blt 2 a2.length) then(a2.getD 2 0) else 0),(bif (Nat.blt 3 a2.length) then(a2.getD 3 0) else 0),(bif (Nat.blt 4 a2.length) then(a2.getD 4 0) else 0),(bif (Nat.blt 5 a2.length) then(a2.getD 5 0) else 0))])
def vH (k:Nat)(a0 a1 a2:Int):Option Bool:=
 bif decide (a0≥a1) then some (decide (a0≤a2))
 else some false
def J3 (k:Nat)(a0:vP)(a1:Int):Option Bool:=
 bif decide (a1≥0) then some (decide (a1<a0.1))
 else some false
def OC (k:Nat)(a0:vP)(a1:Int)(a2:zC):Option Bool:=
 (J3 k a0 a2.2.1).bind fun x0=>
 bif x0 then ((J3 k a0 a2.2.2.1).bind fun x1=>
  bif x1 then (bif decide (a2.1 ≥ 1) then (bif decide (a2.2.2.2.1 ≥ 1) then (bif decide (a2.2.2.2.1 ≤ 1099511627776) then (bif decide (a2.2.2.2.2.1 ≥ 1) then (bif !(decide (a2.2.1 = a2.2.2.1)) then (bif decide (a2.2.2.2.2.1 ≤ 3) then (bif decide (a2.2.2.2.2.2.1 ≥ 0) then (bif decide (a2.2.2.2.2.2.1 ≤ a2.2.2.2.2.2.2) then (bif decide (a2.2.2.2.2.2.2≥a1) then some (decide (a2.2.2.2.2.2.2≤1048576))
           else some false)
          else some false)
         else some false)
        else some false)
       else some false)
      else bif !(decide (a2.2.1=a2.2.2.1)) then some false
      else some false)
     else bif !(decide (a2.2.1=a2.2.2.1)) then some false
     else some false)
    else bif !(decide (a2.2.1=a2.2.2.1)) then some false
    else some false)
   else bif !(decide (a2.2.1=a2.2.2.1)) then some false
   else some false)
  else bif decide (a2.1 ≥ 1) then (bif decide (a2.2.2.2.1 ≥ 1) then (bif decide (a2.2.2.2.1 ≤ 1099511627776) then (bif decide (a2.2.2.2.2.1≥1) then some false
     else some false)
    else some false)
   else some false)
  else some false)
 else bif decide (a2.1 ≥ 1) then (bif decide (a2.2.2.2.1 ≥ 1) then (bif decide (a2.2.2.2.1 ≤ 1099511627776) then (bif decide (a2.2.2.2.2.1≥1) then some false
    else some false)
   else some false)
  else some false)
 else some false
def Bj (k:Nat)(a0:vP)(a1 a2:Int):Option Int:=
 bif decide (a1≥a0.2.2.2.1) then some 7
 else bif decide (a2 = 3) then (bif decide (a1≥a0.2.2.1) then some 7
  else some 0)
 else some 0
def FK (k:Nat)(a0:vP)(a1:Int)(a2:zC):Option Int:=
 (OC k a0 a1 a2).bind fun x0=>
 bif !x0 then some 1
 else(Bj k a0 a1 a2.2.2.2.2.1).bind fun x1=>
 some x1
def N8 (k:Nat)(a0:Int):Option Bool:=
 some (!(decide (a0=a0)))
def N7 (k:Nat)(a0 a1:Int):Option Bool:=
 (N8 k a0).bind fun x0=>
 bif x0 then ((N8 k a1).bind fun x1=>
  bif !x1 then some true
  else some (decide (a0<a1)))
 else some (decide (a0<a1))
def Oa (k:Nat)(a0:Int):Option Bool:=
 some (!(decide (a0=a0)))
abbrev YH:Type:=AC×Int×Int×Int
abbrev YF:Type:=AC→Int→Int→Int→Int→Option YH
def N9 (k:Nat)(rec:YF)(s0:AC)(s1 s6 s7 s8:Int):Option YH:=
 bif decide (s7 < s8) then (bif zB (zA ((shr .u64 (IntKind.wrap .u64 ((zA (s7 + s8)))) 1))) s0.length then ((N7 k (s0.getD (zA ((shr .u64 (IntKind.wrap .u64 ((zA (s7+s8)))) 1))).toNat 0) s1).bind fun x0=>
   bif x0 then(rec s0 s1 s6 (zA ((zA ((shr .u64 (IntKind.wrap .u64 ((zA (s7+s8)))) 1)))+1)) s8)
   else rec s0 s1 s6 s7 (zA ((shr .u64 (IntKind.wrap .u64 ((zA (s7+s8)))) 1))))
  else none)
 else some (s0,s1,s6,s7)
def JH (k:Nat):Nat→YF:=yS (fun _ _ _ _ _=>none) (N9 k)
def E2 (k:Nat)(a0:AC)(a1:Int):Option eY:=
 (JH k k a0 a1 (a0.length:Int) 0 (a0.length:Int)).bind fun z=>
 bif decide (z.2.2.2 < z.2.2.1) then (bif zB z.2.2.2 z.1.length then (bif decide ((z.1.getD z.2.2.2.toNat 0)=z.2.1) then some (z.2.2.2,true)
   else bif zB z.2.2.2 z.1.length then ((Oa k (z.1.getD z.2.2.2.toNat 0)).bind fun x1=>
    bif x1 then ((Oa k z.2.1).bind fun x2=>
     some (z.2.2.2,x2))
    else some (z.2.2.2,false))
   else none)
  else none)
 else some (z.2.2.2,false)
def pI (k:Nat)(a0:AC):Option AC:=
 bif zP (0+a0.length) 8 then some a0
 else none
abbrev yRq (k:Nat)(a0:AC)(a1:Int)(a2:AC):Option AC:=ins 8 a0 a1 a2
def E3 (k:Nat)(a0:AC)(a1:Int):Option (AC×Int):=
 (E2 k a0 a1).bind fun x0=>
 bif x0.2 then some (a0,6)
 else bif decide ((a0.length:Int)≥200) then some (a0,3)
 else(pI k a0).bind fun x1=>
 (yRq k x1 x0.1 [a1]).bind fun x2=>
 some (x2,0)
def Vc (k:Nat)(cc bc bB cp bO bZ bS a1:Int):Option Bool:=
 some (decide (cc=a1))
abbrev YL:Type:=List zC→Int→Int→Int→Option (Unit⊕Int)
def ET (k:Nat)(rec:YL)(s0:List zC)(s7 s8 af:Int):Option (Unit⊕Int):=
 bif decide (s8 < s7) then (bif zB s8 s0.length then ((Vc k (s0.getD s8.toNat (0,0,0,0,0,0,0)).1 (s0.getD s8.toNat (0,0,0,0,0,0,0)).2.1 (s0.getD s8.toNat (0,0,0,0,0,0,0)).2.2.1 (s0.getD s8.toNat (0,0,0,0,0,0,0)).2.2.2.1 (s0.getD s8.toNat (0,0,0,0,0,0,0)).2.2.2.2.1 (s0.getD s8.toNat (0,0,0,0,0,0,0)).2.2.2.2.2.1 (s0.getD s8.toNat (0,0,0,0,0,0,0)).2.2.2.2.2.2 af).bind fun x0=>
   bif x0 then some (.inr s8)
   else rec s0 s7 (zA (s8+1)) af)
  else none)
 else some (.inl ())
def ES (k:Nat):Nat→YL
 |0,_,_,_,_=>none
 |n+1,s0,s7,s8,af=>ET k (ES k n) s0 s7 s8 af
def Vd (k:Nat)(a0:List zC)(cU:Int):Option Int:=
 (ES k k a0 (a0.length:Int) 0 cU).bind fun z=>
 match z with
 |.inl z1=>some (-1)
 |.inr z2=>some z2
def nM (k:Nat)(a0:List zC)(a1:Int):Option Int:=
 (Vd k a0 a1).bind fun x0=>
 some x0
def N5 (k:Nat)(a0:Int):Option Bool:=
 some (!(decide (a0=a0)))
def JA (k:Nat)(a0 a1:Int):Option Int:=
 (N5 k a0).bind fun x0=>
 (N5 k a1).bind fun x1=>
 bif x0 then (bif x1 then some 0
  else some (-1))
 else bif x1 then some 1
 else bif decide (a0<a1) then some (-1)
 else bif decide (a0>a1) then some 1
 else some 0
abbrev YO:Type:=Int→AC→Int→Int→Option (Int⊕Int)
def ySj (k:Nat)(rec:YO)(s3:Int)(s6:AC)(s7 s8:Int):Option (Int⊕Int):=
 bif decide (s8 < s7) then (bif zB s8 s6.length then (bif !(decide ((s6.getD s8.toNat 0)=s3)) then some (.inr (s6.getD s8.toNat 0))
   else rec s3 s6 s7 (zA (s8+1)))
  else none)
 else some (.inl s3)
def Jz (k:Nat):Nat→YO
 |0,_,_,_,_=>none
 |n+1,s3,s6,s7,s8=>ySj k (Jz k n) s3 s6 s7 s8
def N4 (k:Nat)(a0:AC):Option Int:=
 (Jz k k 0 a0 (a0.length:Int) 0).bind fun z=>
 match z with
 |.inl z1=>some z1
 |.inr z2=>some z2
def EU (k:Nat)(cc bc bB cp bO bZ bS gQ cq dt eu du iQ iR:Int):Option Int:=
 (JA k bc cq).bind fun x0=>
 (JA k bO du).bind fun x1=>
 (N4 k [x0,x1]).bind fun x2=>
 some x2
def xj (k:Nat)(a0:List zC):Option (List zC):=
 bif zP (0+a0.length) 56 then some a0
 else none
abbrev N6 (k:Nat)(a0:List zC)(a1:Int)(a2:List zC):Option (List zC):=ins 56 a0 a1 a2
abbrev YT:Type:=(List zC)×Int×zC
abbrev YR:Type:=List zC→Int→zC→Option YT
def EX (k:Nat)(rec:YR)(s0:List zC)(s6:Int)(b0:zC):Option YT:=
 bif decide (s6 < (s0.length : Int)) then (bif zB s6 s0.length then ((EU k (s0.getD s6.toNat (0,0,0,0,0,0,0)).1 (s0.getD s6.toNat (0,0,0,0,0,0,0)).2.1 (s0.getD s6.toNat (0,0,0,0,0,0,0)).2.2.1 (s0.getD s6.toNat (0,0,0,0,0,0,0)).2.2.2.1 (s0.getD s6.toNat (0,0,0,0,0,0,0)).2.2.2.2.1 (s0.getD s6.toNat (0,0,0,0,0,0,0)).2.2.2.2.2.1 (s0.getD s6.toNat (0,0,0,0,0,0,0)).2.2.2.2.2.2 b0.1 b0.2.1 b0.2.2.1 b0.2.2.2.1 b0.2.2.2.2.1 b0.2.2.2.2.2.1 b0.2.2.2.2.2.2).bind fun x1=>
   bif decide (x1≤0) then(rec s0 (zA (s6+1)) b0)
   else some (s0,s6,b0))
  else none)
 else some (s0,s6,b0)
def JD (k:Nat):Nat→YR:=yS (fun _ _ _=>none) (EX k)
def xk (k:Nat)(a0:List zC)(a1:zC):Option ((List zC)×Int):=
 (nM k a0 a1.1).bind fun x0=>
 bif decide (x0≥0) then some (a0,6)
 else bif decide ((a0.length:Int)≥40) then some (a0,3)
 else(JD k k a0 0 a1).bind fun z=>
 (xj k z.1).bind fun x2=>
 (N6 k x2 z.2.1 [z.2.2]).bind fun x3=>
 some (x3,0)
def OD (k:Nat)(a0:jH)(a1:Lr):Option (Int×jH):=
 (vH k a1.2.1 0 (zA (a0.1-1))).bind fun x0=>
 bif !x0 then some (1,a0)
 else(vH k a1.2.2.2.1 1 3).bind fun x1=>
 bif !x1 then some (1,a0)
 else(FK k (yZ a0) a0.2.2.2.2.2.1 (a1.1,a0.2.2.2.2.2.2.2.2.2.2.2.2.2.2.2.2.1,a1.2)).bind fun x2=>
 bif !(decide (x2=0)) then some (x2,a0)
 else(E3 k a0.2.2.2.2.2.2.2.2.2.2.2.2.2.1 a1.1).bind fun x3=>
 bif !(decide (x3.2=0)) then some (x3.2,a0)
 else(xk k a0.2.2.2.2.2.2.2.2.2.2.2.2.1 (a1.1,a0.2.2.2.2.2.2.2.2.2.2.2.2.2.2.2.2.1,a1.2)).bind fun x4=>
 bif !(decide (x4.2=0)) then some (x4.2,a0)
 else some (0,(kf a0 (x4.1,x3.1,a0.2.2.2.2.2.2.2.2.2.2.2.2.2.2)))
def YV (k:Nat)(a0:jH)(a1:Int):Option (zC×Int):=
 (nM k a0.2.2.2.2.2.2.2.2.2.2.2.2.1 a1).bind fun x0=>
 bif decide (x0<0) then some ((0,0,0,0,0,0,0),4)
 else bif zB x0 a0.2.2.2.2.2.2.2.2.2.2.2.2.1.length then (bif !(decide ((a0.2.2.2.2.2.2.2.2.2.2.2.2.1.getD x0.toNat (0,0,0,0,0,0,0)).2.1=a0.2.2.2.2.2.2.2.2.2.2.2.2.2.2.2.2.1)) then some ((0,0,0,0,0,0,0),4)
  else bif zB x0 a0.2.2.2.2.2.2.2.2.2.2.2.2.1.length then some ((a0.2.2.2.2.2.2.2.2.2.2.2.2.1.getD x0.toNat (0,0,0,0,0,0,0)),0)
  else none)
 else none
def Jy (k:Nat)(a0:List zC)(a1 a2:Int):Option (List zC):=
 bif ((((decide (0 ≤ a1)) && (decide (a1 ≤ a2))) && (decide (a2 ≤ (a0.length : Int)))) && (decide (((a2.toNat : Nat) : Int) ≤ (a0.length : Int)))) && (decide ((a0.length : Int) ≤ (a0.length : Int))) then (bif decide (a1=a2) then some a0
  else bif (decide (0 ≤ a1)) && (decide (a1 ≤ (a0.length : Int))) then (bif (decide (0 ≤ a2)) && (decide (a2 ≤ (a0.length : Int))) then (bif Nat.ble (a1.toNat - 0) (0 + a2.toNat) then (let y0:List zC:=(((List.take (a1.toNat-0) a0)++(qR a0 (0+a2.toNat) (a0.length-a2.toNat)))++(List.drop ((a1.toNat-0)+(a0.length-a2.toNat)) a0))
     bif ((decide (0 ≤ ((qR y0 0 ((a1.toNat - 0) + (a0.length - a2.toNat))).length : Int))) && (decide (((qR y0 0 ((a1.toNat - 0) + (a0.length - a2.toNat))).length : Int) ≤ (a0.length : Int)))) && (decide ((a0.length : Int) ≤ (((y0.length - 0) : Nat) : Int))) then (let y1:List zC:=(((List.take (0+(qR y0 0 ((a1.toNat-0)+(a0.length-a2.toNat))).length) y0)++(List.replicate (a0.length-(qR y0 0 ((a1.toNat-0)+(a0.length-a2.toNat))).length) ((0,0,0,0,0,0,0):Int×Int×Int×Int×Int×Int×Int)))++(List.drop ((0+(qR y0 0 ((a1.toNat-0)+(a0.length-a2.toNat))).length)+(a0.length-(qR y0 0 ((a1.toNat-0)+(a0.length-a2.toNat))).length)) y0))
      some (List.take ((a1.toNat-0)+(a0.length-a2.toNat)) y1))
     else none)
    else none)
   else none)
  else none)
 else none
def pM (k:Nat)(a0:List zC)(a1:Int):Option qUt:=
 (nM k a0 a1).bind fun x0=>
 bif decide (x0<0) then some (a0,0,0,0,0,0,0,0,4)
 else(xj k a0).bind fun x1=>
 (Jy k x1 x0 (zA (x0+1))).bind fun x2=>
 bif zB x0 a0.length then some (x2,(iw (a0.getD x0.toNat (0,0,0,0,0,0,0)) 0))
 else none
def uz (k:Nat)(a0:jH)(a1:Int)(a2:AC):Option jH:=
 bif zP (a0.2.2.2.2.2.2.2.2.2.2.2.2.2.2.2.2.2.length + 1) 64 then (let y0:List qS:=(a0.2.2.2.2.2.2.2.2.2.2.2.2.2.2.2.2.2++[(a0.2.2.2.2.2.2.2.2.2.2.2.2.2.2.2.2.1,a1,(bif (Nat.blt 0 a2.length) then(a2.getD 0 0) else 0),(bif (Nat.blt 1 a2.length) then(a2.getD 1 0) else 0),(bif (Nat.blt 2 a2.length) then(a2.getD 2 0) else 0),(bif (Nat.blt 3 a2.length) then(a2.getD 3 0) else 0),(bif (Nat.blt 4 a2.length) then(a2.getD 4 0) else 0),(bif (Nat.blt 5 a2.length) then(a2.getD 5 0) else 0))])
  some (yE a0 y0))
 else none
def EY (k:Nat)(a0:List zC)(a1 a2:Int):Option ((List zC)×Int):=
 (pM k a0 a1).bind fun x0=>
 bif !(decide (x0.2.2.2.2.2.2.2.2=0)) then some (a0,x0.2.2.2.2.2.2.2.2)
 else(xk k x0.1 (iy x0 (a2,x0.2.2.2.2.2.2.1,x0.2.2.2.2.2.2.2.1))).bind fun x1=>
 some (x1.1,x1.2)
def Vl (k:Nat)(a0:List zC)(a1:Int):Option qUt:=
 (nM k a0 a1).bind fun x0=>
 bif decide (x0<0) then none
 else(xj k a0).bind fun x1=>
 (Jy k x1 x0 (zA (x0+1))).bind fun x2=>
 bif zB x0 a0.length then some (x2,(iw (a0.getD x0.toNat (0,0,0,0,0,0,0)) 0))
 else none
abbrev YZ:Type:=Int×(List zC)×zC
abbrev YX:Type:=Int→List zC→zC→Option YZ
def E0 (k:Nat)(rec:YX)(s9:Int)(r0:List zC)(b1:zC):Option YZ:=
 bif decide (s9 < (r0.length : Int)) then (bif zB s9 r0.length then ((EU k (r0.getD s9.toNat (0,0,0,0,0,0,0)).1 (r0.getD s9.toNat (0,0,0,0,0,0,0)).2.1 (r0.getD s9.toNat (0,0,0,0,0,0,0)).2.2.1 (r0.getD s9.toNat (0,0,0,0,0,0,0)).2.2.2.1 (r0.getD s9.toNat (0,0,0,0,0,0,0)).2.2.2.2.1 (r0.getD s9.toNat (0,0,0,0,0,0,0)).2.2.2.2.2.1 (r0.getD s9.toNat (0,0,0,0,0,0,0)).2.2.2.2.2.2 b1.1 b1.2.1 b1.2.2.1 b1.2.2.2.1 b1.2.2.2.2.1 b1.2.2.2.2.2.1 b1.2.2.2.2.2.2).bind fun x1=>
   bif decide (x1<0) then(rec (zA (s9+1)) r0 b1)
   else some (s9,r0,b1))
  else none)
 else some (s9,r0,b1)
def JG (k:Nat):Nat→YX:=yS (fun _ _ _=>none) (E0 k)
def E1 (k:Nat)(a0:List zC)(a1:Int):Option ((List zC)×Int):=
 (Vl k a0 a1).bind fun x0=>
 bif !(decide (x0.2.2.2.2.2.2.2.2=0)) then some (a0,x0.2.2.2.2.2.2.2.2)
 else(JG k k 0 x0.1 (P5 x0)).bind fun z=>
 (N6 k z.2.1 z.1 [z.2.2]).bind fun x2=>
 some (x2,0)
def EZ (k:Nat)(a0:List zC)(a1:Int):Option ((List zC)×Int):=
 (pM k a0 a1).bind fun x0=>
 bif !(decide (x0.2.2.2.2.2.2.2.2=0)) then some (a0,x0.2.2.2.2.2.2.2.2)
 else(xk k x0.1 (P5 x0)).bind fun x1=>
 some (x1.1,x1.2)
def xA (k:Nat)(a0:jH)(a1:zC):Option (Int×jH):=
 (YV k a0 a1.2.1).bind fun x0=>
 bif !(decide (x0.2=0)) then some (x0.2,a0)
 else bif decide (a1.1 = 2) then ((pM k a0.2.2.2.2.2.2.2.2.2.2.2.2.1 a1.2.1).bind fun x1=>
  (uz k (kf a0 (x1.1,a0.2.2.2.2.2.2.2.2.2.2.2.2.2)) 20 [a1.2.1]).bind fun x2=>
  some (x1.2.2.2.2.2.2.2.2,x2))
 else bif decide (a1.1 = 4) then ((vH k a1.2.2.1 1 3).bind fun x3=>
  bif !x3 then some (1,a0)
  else(Bj k (yZ a0) a0.2.2.2.2.2.1 a1.2.2.1).bind fun x4=>
  bif !(decide (x4=0)) then some (x4,a0)
  else(EY k a0.2.2.2.2.2.2.2.2.2.2.2.2.1 a1.2.1 a1.2.2.1).bind fun x5=>
  some (x5.2,(kf a0 (x5.1,a0.2.2.2.2.2.2.2.2.2.2.2.2.2))))
 else bif decide (a1.2.2.1 = 0) then ((E1 k a0.2.2.2.2.2.2.2.2.2.2.2.2.1 a1.2.1).bind fun x6=>
  some (x6.2,(kf a0 (x6.1,a0.2.2.2.2.2.2.2.2.2.2.2.2.2))))
 else bif decide (a1.2.2.1 = 1) then ((EZ k a0.2.2.2.2.2.2.2.2.2.2.2.2.1 a1.2.1).bind fun x7=>
  some (x7.2,(kf a0 (x7.1,a0.2.2.2.2.2.2.2.2.2.2.2.2.2))))
 else some (1,a0)
def Ux (k:Nat)(a0:List zI):Option (List zI):=
 bif zP (0+a0.length) 24 then some a0
 else none
def Uv (k:Nat)(a0:EQ):Option Nat:=
 bif zP (0+a0.length) 24 then some a0.length
 else none
abbrev Y2:Type:=EQ→Int→Int→EQ→Nat→Option (EQ×Nat)
def DY (k:Nat)(rec:Y2)(s8:EQ)(s9 aw:Int)(m0:EQ)(n0:Nat):Option (EQ×Nat):=
 bif decide (aw < s9) then (bif zB aw s8.length then ((pI k (s8.getD aw.toNat [])).bind fun x1=>
   bif zB aw n0 then (bif Nat.beq aw.toNat m0.length then(rec s8 s9 (zA (aw+1)) (m0++[x1]) n0)
    else none)
   else none)
  else none)
 else some (m0,n0)
def IY (k:Nat):Nat→Y2
 |0,_,_,_,_,_=>none
 |n+1,s8,s9,aw,m0,n0=>DY k (IY k n) s8 s9 aw m0 n0
def IZ (k:Nat)(a0:EQ):Option EQ:=
 (Uv k a0).bind fun x0=>
 (IY k k a0 (a0.length:Int) 0 [] x0).bind fun z=>
 TB z.1 z.2
def gk (k:Nat)(au:List zI)(az:EQ)(ay:AC)(ax:EQ):Option Lv:=
 (Ux k au).bind fun x0=>
 (IZ k az).bind fun x1=>
 (pI k ay).bind fun x2=>
 (IZ k ax).bind fun x3=>
 some (x0,x1,x2,x3)
def Y4 (k:Nat)(a0:jH)(a1:Int):Option Bool:=
 (vH k a1 0 (zA (a0.1-1))).bind fun x0=>
 bif x0 then some (!(decide (a1=a0.2.2.2.2.2.2.2.2.2.2.2.2.2.2.2.2.1)))
 else some false
def xB (k:Nat)(a0:jH)(a1:zC):Option (Int×jH):=
 (gk k a0.2.2.2.2.2.2.1 a0.2.2.2.2.2.2.2.1 a0.2.2.2.2.2.2.2.2.1 a0.2.2.2.2.2.2.2.2.2.1).bind fun x0=>
 bif decide (a1.1 = 5) then ((Y4 k a0 a1.2.1).bind fun x1=>
  bif !x1 then some (1,a0)
  else(vH k a1.2.2.1 (-1) 1152921504606846976).bind fun x2=>
  bif !x2 then some (1,a0)
  else bif zB a0.2.2.2.2.2.2.2.2.2.2.2.2.2.2.2.2.1 x0.2.1.length then (bif zB a1.2.1 (x0.2.1.getD a0.2.2.2.2.2.2.2.2.2.2.2.2.2.2.2.2.1.toNat []).length then (let y0:EQ:=(x0.2.1.set a0.2.2.2.2.2.2.2.2.2.2.2.2.2.2.2.2.1.toNat ((x0.2.1.getD a0.2.2.2.2.2.2.2.2.2.2.2.2.2.2.2.2.1.toNat []).set a1.2.1.toNat a1.2.2.1))
    some (0,(jN a0 (x0.1,y0,x0.2.2.1,x0.2.2.2,a0.2.2.2.2.2.2.2.2.2.2))))
   else none)
  else none)
 else bif decide (a1.1 = 6) then ((vH k a1.2.1 (-1) 1152921504606846976).bind fun x3=>
  bif !x3 then some (1,a0)
  else bif zB a0.2.2.2.2.2.2.2.2.2.2.2.2.2.2.2.2.1 x0.2.2.1.length then (let y1:AC:=(x0.2.2.1.set a0.2.2.2.2.2.2.2.2.2.2.2.2.2.2.2.2.1.toNat a1.2.1)
   some (0,(jN a0 (x0.1,x0.2.1,y1,x0.2.2.2,a0.2.2.2.2.2.2.2.2.2.2))))
  else none)
 else(vH k a1.2.1 0 1152921504606846976).bind fun x4=>
 bif !x4 then some (1,a0)
 else bif zB a0.2.2.2.2.2.2.2.2.2.2.2.2.2.2.2.2.1 x0.1.length then (let y2:List zI:=(x0.1.set a0.2.2.2.2.2.2.2.2.2.2.2.2.2.2.2.2.1.toNat ((x0.1.getD a0.2.2.2.2.2.2.2.2.2.2.2.2.2.2.2.2.1.toNat (0,0,0)).1,(x0.1.getD a0.2.2.2.2.2.2.2.2.2.2.2.2.2.2.2.2.1.toNat (0,0,0)).2.1,a1.2.1))
  some (0,(jN a0 (y2,x0.2.1,x0.2.2.1,x0.2.2.2,a0.2.2.2.2.2.2.2.2.2.2))))
 else none
def Lb (k:Nat)(a0:jH)(a1:Int):Option Bool:=
 (vH k a1 0 (zA ((a0.2.1.length:Int)-1))).bind fun x0=>
 some x0
def FL (k:Nat)(a0:EQ):Option EQ:=
 bif zP (0+a0.length) 24 then some a0
 else none
def pP (k:Nat)(a0:AC)(a1 a2:Int):Option AC:=
 (pI k a0).bind fun x0=>
 bif decide (a1 ≥ 0) then (bif decide (a1 < (x0.length : Int)) then (bif zB a1 x0.length then some (x0.set a1.toNat a2)
   else none)
  else some x0)
 else some x0
def Vr (k:Nat)(a0:Int):Option Bool:=
 bif decide (a0≥0) then some (decide (a0≤10000))
 else some false
def JI (k:Nat)(a0 a1:Int):Option vU:=
 some ((IntKind.wrap .u64 ((IntKind.wrap .u64 ((IntKind.wrap .u64 ((shr .u64 a0 32)*(shr .u64 a1 32)))+(shr .u64 (IntKind.wrap .u64 ((IntKind.wrap .u64 ((shr .u64 a0 32)*(yJ .u64 a1 4294967295)))+(shr .u64 (IntKind.wrap .u64 ((yJ .u64 a0 4294967295)*(yJ .u64 a1 4294967295))) 32))) 32)))+(shr .u64 (IntKind.wrap .u64 ((yJ .u64 (IntKind.wrap .u64 ((IntKind.wrap .u64 ((shr .u64 a0 32)*(yJ .u64 a1 4294967295)))+(shr .u64 (IntKind.wrap .u64 ((yJ .u64 a0 4294967295)*(yJ .u64 a1 4294967295))) 32))) 4294967295)+(IntKind.wrap .u64 ((yJ .u64 a0 4294967295)*(shr .u64 a1 32))))) 32))),(IntKind.wrap .u64 (a0*a1)))
def yNf (k:Nat)(a0:Int):Option Int:=
 bif decide (a0 ≥ 4294967296) then (bif decide ((shr .u64 a0 32) ≥ 65536) then (bif decide ((shr .u64 (shr .u64 a0 32) 16)≥256) then none
   else none)
  else bif decide ((shr .u64 a0 32)≥256) then none
  else none)
 else bif decide (a0 ≥ 65536) then (bif decide ((shr .u64 a0 16)≥256) then none
  else none)
 else bif decide (a0≥256) then none
 else none
def yJy (k:Nat)(a0:Int):Option Int:=
 (yNf k a0).bind fun x0=>
 some (zA (64-x0))
abbrev Y8:Type:=Int→Int→Int→Int→Int→Int→Int→Int→Int→Option qS
def yEi (k:Nat)(rec:Y8)(s2 s8 s9 aw aR bz bC aN bX:Int):Option qS:=
 bif decide (aN ≥ 4294967296) then (bif decide ((IntKind.wrap .u64 (bX+s9))≥4294967296) then some (s2,s8,s9,aw,aR,bz,bC,(IntKind.wrap .u64 (aN-1)))
  else rec s2 s8 s9 aw aR bz bC (IntKind.wrap .u64 (aN-1)) (IntKind.wrap .u64 (bX+s9)))
 else bif decide ((IntKind.wrap .u64 (aN * aw)) > (IntKind.wrap .u64 ((IntKind.wrap .u64 (4294967296 * bX)) + bz))) then (bif decide ((IntKind.wrap .u64 (bX+s9))≥4294967296) then some (s2,s8,s9,aw,aR,bz,bC,(IntKind.wrap .u64 (aN-1)))
  else rec s2 s8 s9 aw aR bz bC (IntKind.wrap .u64 (aN-1)) (IntKind.wrap .u64 (bX+s9)))
 else some (s2,s8,s9,aw,aR,bz,bC,aN)
def Za (k:Nat):Nat→Y8:=yS (fun _ _ _ _ _ _ _ _ _=>none) (yEi k)
abbrev Zb:Type:=Int→Int→Int→Int→Int→Int→Int→Int→Int→Option Lr
def yZi (k:Nat)(rec:Zb)(s2 s8 s9 aw bC aN bX bj kT:Int):Option Lr:=
 bif decide (kT ≥ 4294967296) then (bif decide ((IntKind.wrap .u64 (bX+s9))≥4294967296) then some (s2,s8,bC,aN,bj,(IntKind.wrap .u64 (kT-1)))
  else rec s2 s8 s9 aw bC aN (IntKind.wrap .u64 (bX+s9)) bj (IntKind.wrap .u64 (kT-1)))
 else bif decide ((IntKind.wrap .u64 (kT * aw)) > (IntKind.wrap .u64 ((IntKind.wrap .u64 (4294967296 * bX)) + bC))) then (bif decide ((IntKind.wrap .u64 (bX+s9))≥4294967296) then some (s2,s8,bC,aN,bj,(IntKind.wrap .u64 (kT-1)))
  else rec s2 s8 s9 aw bC aN (IntKind.wrap .u64 (bX+s9)) bj (IntKind.wrap .u64 (kT-1)))
 else some (s2,s8,bC,aN,bj,kT)
def Zd (k:Nat):Nat→Zb:=yS (fun _ _ _ _ _ _ _ _ _=>none) (yZi k)
def Od (k:Nat)(a0 a1 a2:Int):Option vU:=
 bif decide (a2=0) then none
 else bif decide (a2≤a0) then none
 else bif decide (a0 = 0) then (bif !(decide (a2 = 0)) then (bif !(decide (a2=0)) then some ((IntKind.wrap .u64 (Int.tdiv a1 a2)),(Int.tmod a1 a2))
   else none)
  else none)
 else(yJy k a2).bind fun x0=>
 bif !(decide ((IntKind.wrap .u64 (x0)) < 0)) then (bif !(decide ((IntKind.wrap .u64 (x0)) < 0)) then (bif !(decide ((IntKind.wrap .u64 (64 - (IntKind.wrap .u64 (x0)))) < 0)) then (bif !(decide ((IntKind.wrap .u64 (x0)) < 0)) then (bif !(decide ((shr .u64 (shl .u64 a2 (IntKind.wrap .u64 (x0))) 32) = 0)) then ((Za k k (shl .u64 a2 (IntKind.wrap .u64 (x0))) (IntKind.wrap .u64 (x0)) (shr .u64 (shl .u64 a2 (IntKind.wrap .u64 (x0))) 32) (yJ .u64 (shl .u64 a2 (IntKind.wrap .u64 (x0))) 4294967295) (wG .u64 (shl .u64 a0 (IntKind.wrap .u64 (x0))) (shr .u64 a1 (IntKind.wrap .u64 (64-(IntKind.wrap .u64 (x0)))))) (shr .u64 (shl .u64 a1 (IntKind.wrap .u64 (x0))) 32) (yJ .u64 (shl .u64 a1 (IntKind.wrap .u64 (x0))) 4294967295) (IntKind.wrap .u64 (Int.tdiv (wG .u64 (shl .u64 a0 (IntKind.wrap .u64 (x0))) (shr .u64 a1 (IntKind.wrap .u64 (64-(IntKind.wrap .u64 (x0)))))) (shr .u64 (shl .u64 a2 (IntKind.wrap .u64 (x0))) 32))) (IntKind.wrap .u64 ((wG .u64 (shl .u64 a0 (IntKind.wrap .u64 (x0))) (shr .u64 a1 (IntKind.wrap .u64 (64-(IntKind.wrap .u64 (x0))))))-(IntKind.wrap .u64 ((IntKind.wrap .u64 (Int.tdiv (wG .u64 (shl .u64 a0 (IntKind.wrap .u64 (x0))) (shr .u64 a1 (IntKind.wrap .u64 (64-(IntKind.wrap .u64 (x0)))))) (shr .u64 (shl .u64 a2 (IntKind.wrap .u64 (x0))) 32)))*(shr .u64 (shl .u64 a2 (IntKind.wrap .u64 (x0))) 32)))))).bind fun z=>
      bif !(decide (z.2.2.1 = 0)) then ((Zd k k z.1 z.2.1 z.2.2.1 z.2.2.2.1 z.2.2.2.2.2.2.1 z.2.2.2.2.2.2.2 (IntKind.wrap .u64 ((IntKind.wrap .u64 ((IntKind.wrap .u64 ((IntKind.wrap .u64 (z.2.2.2.2.1*4294967296))+z.2.2.2.2.2.1))-(IntKind.wrap .u64 (z.2.2.2.2.2.2.2*z.1))))-(IntKind.wrap .u64 ((IntKind.wrap .u64 (Int.tdiv (IntKind.wrap .u64 ((IntKind.wrap .u64 ((IntKind.wrap .u64 (z.2.2.2.2.1*4294967296))+z.2.2.2.2.2.1))-(IntKind.wrap .u64 (z.2.2.2.2.2.2.2*z.1)))) z.2.2.1))*z.2.2.1)))) (IntKind.wrap .u64 ((IntKind.wrap .u64 ((IntKind.wrap .u64 (z.2.2.2.2.1*4294967296))+z.2.2.2.2.2.1))-(IntKind.wrap .u64 (z.2.2.2.2.2.2.2*z.1)))) (IntKind.wrap .u64 (Int.tdiv (IntKind.wrap .u64 ((IntKind.wrap .u64 ((IntKind.wrap .u64 (z.2.2.2.2.1*4294967296))+z.2.2.2.2.2.1))-(IntKind.wrap .u64 (z.2.2.2.2.2.2.2*z.1)))) z.2.2.1))).bind fun z1=>
       bif !(decide (z1.2.1<0)) then some ((IntKind.wrap .u64 ((IntKind.wrap .u64 (z1.2.2.2.1*4294967296))+z1.2.2.2.2.2)),(shr .u64 (IntKind.wrap .u64 ((IntKind.wrap .u64 ((IntKind.wrap .u64 (z1.2.2.2.2.1*4294967296))+z1.2.2.1))-(IntKind.wrap .u64 (z1.2.2.2.2.2*z1.1)))) z1.2.1))
       else none)
      else none)
     else none)
    else none)
   else none)
  else none)
 else none
def Oe (k:Nat)(a0 a1 a2:Int):Option eY:=
 bif decide (a0<0) then some (0,false)
 else bif decide (a1<0) then some (0,false)
 else(Vr k a2).bind fun x0=>
 bif !x0 then some (0,false)
 else(JI k (IntKind.wrap .u64 (a0)) (IntKind.wrap .u64 (a1))).bind fun x1=>
 (Od k (Int.tmod x1.1 10000) x1.2 10000).bind fun x2=>
 (JI k x2.1 (IntKind.wrap .u64 ((zA (10000-a2))))).bind fun x3=>
 (Dq k x3.2 (IntKind.wrap .u64 (Int.tdiv (IntKind.wrap .u64 (x2.2*(IntKind.wrap .u64 ((zA (10000-a2)))))) 10000)) 0).bind fun x4=>
 bif decide ((IntKind.wrap .u64 (Int.tdiv x1.1 10000)) > 0) then (bif decide ((IntKind.wrap .u64 ((zA (10000-a2))))>0) then some (0,false)
  else bif decide ((IntKind.wrap .u64 (x3.1+x4.2))>0) then some (0,false)
  else bif decide (x4.1>9223372036854775807) then some (0,false)
  else some ((zA (x4.1)),true))
 else bif decide ((IntKind.wrap .u64 (x3.1+x4.2))>0) then some (0,false)
 else bif decide (x4.1>9223372036854775807) then some (0,false)
 else some ((zA (x4.1)),true)
abbrev Zh:Type:=Int→Int→AC→Int→Int→Option vU
def E6 (k:Nat)(rec:Zh)(s4 s5:Int)(s9:AC)(aw aR:Int):Option vU:=
 bif decide (aR < aw) then (bif zB aR s9.length then ((Dq k s5 (IntKind.wrap .u64 ((s9.getD aR.toNat 0))) 0).bind fun x0=>
   rec (zA (s4+(zA ((shr .i64 (s9.getD aR.toNat 0) 63)+(zA (x0.2)))))) x0.1 s9 aw (zA (aR+1)))
  else none)
 else some (s4,s5)
def E5 (k:Nat):Nat→Zh
 |0,_,_,_,_,_=>none
 |n+1,s4,s5,s9,aw,aR=>E6 k (E5 k n) s4 s5 s9 aw aR
def E4 (k:Nat)(a0:AC):Option eY:=
 (E5 k k 0 0 a0 (a0.length:Int) 0).bind fun z=>
 bif !(decide (z.1=(shr .i64 (zA (z.2)) 63))) then some (0,false)
 else some ((zA (z.2)),true)
abbrev Zj:Type:=AC→AC→List vU→Int→Int→AC→Option (AC⊕eY)
def E9 (k:Nat)(rec:Zj)(s1 s2:AC)(kg:List vU)(aV fx:Int)(r0:AC):Option (AC⊕eY):=
 bif decide (fx < aV) then (bif zB fx kg.length then (bif zB fx s1.length then (bif zB fx s2.length then ((Oe k (s1.getD fx.toNat 0) (s2.getD fx.toNat 0) (kg.getD fx.toNat (0,0)).2).bind fun x0=>
     bif !x0.2 then some (.inr (0,false))
     else bif zP (r0.length+1) 8 then(rec s1 s2 kg aV (zA (fx+1)) (r0++[x0.1]))
     else none)
    else none)
   else none)
  else none)
 else some (.inl r0)
def E8 (k:Nat):Nat→Zj:=yS (fun _ _ _ _ _ _=>none) (E9 k)
def so (k:Nat)(a0:List vU)(a1 a2:AC):Option eY:=
 bif !(decide ((a1.length:Int)=(a0.length:Int))) then some (0,false)
 else bif !(decide ((a2.length:Int)=(a0.length:Int))) then some (0,false)
 else(E8 k k a1 a2 a0 (a0.length:Int) 0 []).bind fun z=>
 match z with
 |.inl z1=>(E4 k z1).bind fun x1=>
  some (x1.1,x1.2)
 |.inr z2=>some (z2.1,z2.2)
def OE (k:Nat)(a0:jH)(a1 a2:Int):Option (Int×jH):=
 (Lb k a0 a1).bind fun x0=>
 bif !x0 then some (1,a0)
 else(vH k a2 0 1099511627776).bind fun x1=>
 bif !x1 then some (1,a0)
 else(FL k a0.2.2.2.2.2.2.2.2.2.2.2.1).bind fun x2=>
 bif zB a0.2.2.2.2.2.2.2.2.2.2.2.2.2.2.2.2.1 x2.length then ((pP k (x2.getD a0.2.2.2.2.2.2.2.2.2.2.2.2.2.2.2.2.1.toNat []) a1 a2).bind fun x3=>
  bif zB a0.2.2.2.2.2.2.2.2.2.2.2.2.2.2.2.2.1 x2.length then (let y0:EQ:=(x2.set a0.2.2.2.2.2.2.2.2.2.2.2.2.2.2.2.2.1.toNat x3)
   bif zB a0.2.2.2.2.2.2.2.2.2.2.2.2.2.2.2.2.1 y0.length then ((so k a0.2.1 a0.2.2.2.2.2.2.2.2.2.2.1 (y0.getD a0.2.2.2.2.2.2.2.2.2.2.2.2.2.2.2.2.1.toNat [])).bind fun x4=>
    bif zB a0.2.2.2.2.2.2.2.2.2.2.2.2.2.2.2.2.1 a0.2.2.2.2.2.2.1.length then (bif !x4.2 then some (8,a0)
     else bif decide (x4.1>1152921504606846976) then some (8,a0)
     else bif decide (x4.1 < (a0.2.2.2.2.2.2.1.getD a0.2.2.2.2.2.2.2.2.2.2.2.2.2.2.2.2.1.toNat (0, 0, 0)).2.1) then (bif decide ((zA ((a0.2.2.2.2.2.2.1.getD a0.2.2.2.2.2.2.2.2.2.2.2.2.2.2.2.2.1.toNat (0,0,0)).1+x4.1))<0) then some (9,a0)
      else(gk k a0.2.2.2.2.2.2.1 a0.2.2.2.2.2.2.2.1 a0.2.2.2.2.2.2.2.2.1 a0.2.2.2.2.2.2.2.2.2.1).bind fun x5=>
      bif zB a0.2.2.2.2.2.2.2.2.2.2.2.2.2.2.2.2.1 x5.1.length then (let y1:List zI:=(x5.1.set a0.2.2.2.2.2.2.2.2.2.2.2.2.2.2.2.2.1.toNat ((x5.1.getD a0.2.2.2.2.2.2.2.2.2.2.2.2.2.2.2.2.1.toNat (0,0,0)).1,x4.1,(x5.1.getD a0.2.2.2.2.2.2.2.2.2.2.2.2.2.2.2.2.1.toNat (0,0,0)).2.2))
       some (0,(jN a0 (y1,x5.2.1,x5.2.2.1,x5.2.2.2,a0.2.2.2.2.2.2.2.2.2.2.1,y0,a0.2.2.2.2.2.2.2.2.2.2.2.2))))
      else none)
     else(gk k a0.2.2.2.2.2.2.1 a0.2.2.2.2.2.2.2.1 a0.2.2.2.2.2.2.2.2.1 a0.2.2.2.2.2.2.2.2.2.1).bind fun x6=>
     bif zB a0.2.2.2.2.2.2.2.2.2.2.2.2.2.2.2.2.1 x6.1.length then (let y2:List zI:=(x6.1.set a0.2.2.2.2.2.2.2.2.2.2.2.2.2.2.2.2.1.toNat ((x6.1.getD a0.2.2.2.2.2.2.2.2.2.2.2.2.2.2.2.2.1.toNat (0,0,0)).1,x4.1,(x6.1.getD a0.2.2.2.2.2.2.2.2.2.2.2.2.2.2.2.2.1.toNat (0,0,0)).2.2))
      some (0,(jN a0 (y2,x6.2.1,x6.2.2.1,x6.2.2.2,a0.2.2.2.2.2.2.2.2.2.2.1,y0,a0.2.2.2.2.2.2.2.2.2.2.2.2))))
     else none)
    else none)
   else none)
  else none)
 else none
def OF (k:Nat)(a0 a1:Int):Option eY:=
 bif decide (a1 > 0) then (bif decide (a0>(zA (9223372036854775807-a1))) then some (0,false)
  else bif decide (a1 < 0) then (bif decide (a0<(zA ((-9223372036854775808)-a1))) then some (0,false)
   else some ((zA (a0+a1)),true))
  else some ((zA (a0+a1)),true))
 else bif decide (a1 < 0) then (bif decide (a0<(zA ((-9223372036854775808)-a1))) then some (0,false)
  else some ((zA (a0+a1)),true))
 else some ((zA (a0+a1)),true)
def Nj (k:Nat)(bq bD aT:Int):Option Bool:=
 bif decide (bq > (-4611686018427387904)) then (bif decide (bq < 4611686018427387904) then (bif decide (bD ≥ 0) then (bif decide (bD ≤ 2305843009213693952) then (bif decide (aT≥0) then some (decide (aT≤2305843009213693952))
     else some false)
    else some false)
   else some false)
  else some false)
 else some false
def J5 (k:Nat)(a0:zI)(a1:Int):Option (zI×Int):=
 (OF k a0.1 a1).bind fun x0=>
 bif !x0.2 then some (a0,8)
 else(Nj k x0.1 a0.2.1 a0.2.2).bind fun x1=>
 bif !x1 then some (a0,8)
 else some ((x0.1,a0.2),0)
def F7 (k:Nat)(a0:zI)(a1:Int):Option (zI×Int):=
 (J5 k a0 a1).bind fun x0=>
 some (x0.1,x0.2)
def xe (k:Nat)(bq bD aT a1:Int):Option Int:=
 some (wC false (zA (aT-a1)) 0)
def F8 (k:Nat)(a0:zI)(a1 a2:Int):Option (zI×Int):=
 (J5 k a0 (zA (0-a1))).bind fun x0=>
 bif decide (x0.2 = 0) then (bif decide (a2 = 1) then ((xe k a0.1 a0.2.1 a0.2.2 a1).bind fun x1=>
   some ((x0.1.1,x0.1.2.1,x1),x0.2))
  else bif decide (a2 = 2) then ((xe k a0.1 a0.2.1 a0.2.2 a1).bind fun x2=>
   some ((x0.1.1,x0.1.2.1,x2),x0.2))
  else some (x0.1,x0.2))
 else some (x0.1,x0.2)
def F9 (k:Nat)(a0:zI)(a1:Int):Option Int:=
 bif decide (a1=3) then some (zA ((zA (a0.1+a0.2.1))-a0.2.2))
 else some (zA (a0.1+a0.2.1))
def Zl (k:Nat)(a0:jH)(a1 a2 a3:Int):Option (Int×jH):=
 (vH k a2 0 (zA (a0.1-1))).bind fun x0=>
 bif !x0 then some (1,a0)
 else(vH k a3 1 1099511627776).bind fun x1=>
 bif !x1 then some (1,a0)
 else bif zB a2 a0.2.2.2.2.2.2.1.length then ((F7 k (a0.2.2.2.2.2.2.1.getD a2.toNat (0,0,0)) a3).bind fun x2=>
  bif decide (a1 = 11) then ((F8 k (a0.2.2.2.2.2.2.1.getD a2.toNat (0,0,0)) a3 3).bind fun x3=>
   (F9 k (a0.2.2.2.2.2.2.1.getD a2.toNat (0,0,0)) 3).bind fun x4=>
   bif decide (x4<a3) then some (9,a0)
   else bif decide ((zA (a0.2.2.2.2.2.2.2.2.2.2.2.2.2.2.1-a3))<0) then some (9,a0)
   else bif !(decide (x3.2=0)) then some (x3.2,a0)
   else bif decide ((zA (a0.2.2.2.2.2.2.2.2.2.2.2.2.2.2.1-a3))>1152921504606846976) then some (8,a0)
   else(gk k a0.2.2.2.2.2.2.1 a0.2.2.2.2.2.2.2.1 a0.2.2.2.2.2.2.2.2.1 a0.2.2.2.2.2.2.2.2.2.1).bind fun x5=>
   bif zB a2 x5.1.length then some (0,(jN a0 ((x5.1.set a2.toNat x3.1),x5.2.1,x5.2.2.1,x5.2.2.2,(G9 a0 ((zA (a0.2.2.2.2.2.2.2.2.2.2.2.2.2.2.1-a3)),a0.2.2.2.2.2.2.2.2.2.2.2.2.2.2.2)))))
   else none)
  else bif !(decide (x2.2=0)) then some (x2.2,a0)
  else bif decide ((zA (a0.2.2.2.2.2.2.2.2.2.2.2.2.2.2.1+a3))>1152921504606846976) then some (8,a0)
  else(gk k a0.2.2.2.2.2.2.1 a0.2.2.2.2.2.2.2.1 a0.2.2.2.2.2.2.2.2.1 a0.2.2.2.2.2.2.2.2.2.1).bind fun x6=>
  bif zB a2 x6.1.length then some (0,(jN a0 ((x6.1.set a2.toNat x2.1),x6.2.1,x6.2.2.1,x6.2.2.2,(G9 a0 ((zA (a0.2.2.2.2.2.2.2.2.2.2.2.2.2.2.1+a3)),a0.2.2.2.2.2.2.2.2.2.2.2.2.2.2.2)))))
  else none)
 else none
abbrev Zp:Type:=(lu×(List qS)×AC×(List zI)×EQ×AC×EQ)⊕(Int×lu×(List qS))
abbrev Zn:Type:=EQ→Int→Int→lu→List qS→AC→List zI→EQ→AC→EQ→Option Zp
def yG0 (k:Nat)(rec:Zn)(gw:EQ)(iW kU:Int)(b0:lu)(r1:List qS)(r2:AC)(r4:List zI)(m5:EQ)(r6:AC)(m7:EQ):Option Zp:=
 bif decide (kU < iW) then (bif zB kU gw.length then ((so k b0.2.1 r2 (gw.getD kU.toNat [])).bind fun x4=>
   bif !x4.2 then some (.inr (8,b0,r1))
   else bif decide (x4.1>1152921504606846976) then some (.inr (8,b0,r1))
   else bif zB kU r4.length then (let y0:List zI:=(r4.set kU.toNat ((r4.getD kU.toNat (0,0,0)).1,x4.1,(r4.getD kU.toNat (0,0,0)).2.2))
    rec gw iW (zA (kU+1)) b0 r1 r2 y0 m5 r6 m7)
   else none)
  else none)
 else some (.inl (b0,r1,r2,r4,m5,r6,m7))
def Zq (k:Nat):Nat→Zn:=yS (fun _ _ _ _ _ _ _ _ _ _=>none) (yG0 k)
def yOq (k:Nat)(a0:jH)(a1 a2:Int):Option (Int×jH):=
 (Lb k a0 a1).bind fun x0=>
 bif !x0 then some (1,a0)
 else(vH k a2 0 1048576).bind fun x1=>
 bif !x1 then some (1,a0)
 else(pP k a0.2.2.2.2.2.2.2.2.2.2.1 a1 a2).bind fun x2=>
 (gk k a0.2.2.2.2.2.2.1 a0.2.2.2.2.2.2.2.1 a0.2.2.2.2.2.2.2.2.1 a0.2.2.2.2.2.2.2.2.2.1).bind fun x3=>
 (Zq k k a0.2.2.2.2.2.2.2.2.2.2.2.1 (a0.2.2.2.2.2.2.2.2.2.2.2.1.length:Int) 0 (lk a0) a0.2.2.2.2.2.2.2.2.2.2.2.2.2.2.2.2.2 x2 x3.1 x3.2.1 x3.2.2.1 x3.2.2.2).bind fun z=>
 match z with
 |.inl z1=>some (0,(jN z1.1 (vH6 z1 (z1.2.2.1,(Wr z1.1 z1.2.1)))))
 |.inr z2=>some (z2.1,(vT z2.2.1 z2.2.2))
def GD (k:Nat)(a0:jH)(a1:zC):Option (Int×jH):=
 bif decide (a1.1 = 1) then ((OD k a0 a1.2).bind fun x0=>
  some (x0.1,x0.2))
 else bif decide (a1.1 = 2) then ((xA k a0 a1).bind fun x1=>
  some (x1.1,x1.2))
 else bif decide (a1.1 = 3) then ((xA k a0 a1).bind fun x2=>
  some (x2.1,x2.2))
 else bif decide (a1.1 = 4) then ((xA k a0 a1).bind fun x3=>
  some (x3.1,x3.2))
 else bif decide (a1.1 = 5) then ((xB k a0 a1).bind fun x4=>
  some (x4.1,x4.2))
 else bif decide (a1.1 = 6) then ((xB k a0 a1).bind fun x5=>
  some (x5.1,x5.2))
 else bif decide (a1.1 = 7) then ((xB k a0 a1).bind fun x6=>
  some (x6.1,x6.2))
 else bif decide (a1.1 = 8) then ((OE k a0 a1.2.1 a1.2.2.1).bind fun x7=>
  some (x7.1,x7.2))
 else bif decide (a1.1 = 10) then ((Zl k a0 a1.1 a1.2.1 a1.2.2.1).bind fun x8=>
  some (x8.1,x8.2))
 else bif decide (a1.1 = 11) then ((Zl k a0 a1.1 a1.2.1 a1.2.2.1).bind fun x9=>
  some (x9.1,x9.2))
 else bif decide (a1.1 = 12) then ((yOq k a0 a1.2.1 a1.2.2.1).bind fun dm=>
  some (dm.1,dm.2))
 else some (0,a0)
def Bi (k:Nat)(df:Int)(dO:List vU)(dP dh cd a1:Int):Option Bool:=
 some (decide (a1=dh))
def pR (k:Nat)(a0 a1:Int)(a2:AC):Option qS:=
 some (a0,a1,(bif (Nat.blt 0 a2.length) then(a2.getD 0 0) else 0),(bif (Nat.blt 1 a2.length) then(a2.getD 1 0) else 0),(bif (Nat.blt 2 a2.length) then(a2.getD 2 0) else 0),(bif (Nat.blt 3 a2.length) then(a2.getD 3 0) else 0),(bif (Nat.blt 4 a2.length) then(a2.getD 4 0) else 0),(bif (Nat.blt 5 a2.length) then(a2.getD 5 0) else 0))
abbrev Zs:Type:=Int×(List zI)×EQ×AC×EQ×AC×EQ×(List zC)×AC×Int×Bool×Int×Int×Bool×(List qS)
abbrev Zr:Type:=List zC→Int→Int→Int→List zI→EQ→AC→EQ→AC→EQ→List zC→AC→Int→Bool→Int→Int→Bool→List qS→Option Zs
def FE (k:Nat)(rec:Zr)(aw:List zC)(aR de af:Int)(ah:List zI)(ai:EQ)(ag:AC)(aY:EQ)(bo:AC)(bp:EQ)(dQ:List zC)(dR:AC)(dU:Int)(bY:Bool)(av bE:Int)(aU:Bool)(r2:List qS):Option Zs:=
 bif decide (de < aR) then (bif zB de aw.length then ((pR k (aw.getD de.toNat (0,0,0,0,0,0,0)).2.1 22 [(aw.getD de.toNat (0,0,0,0,0,0,0)).1]).bind fun x0=>
   bif zP (r2.length+1) 64 then(rec aw aR (zA (de+1)) af ah ai ag aY bo bp dQ dR dU bY av bE aU (r2++[x0]))
   else none)
  else none)
 else some (af,ah,ai,ag,aY,bo,bp,dQ,dR,dU,bY,av,bE,aU,r2)
def FD (k:Nat):Nat→Zr
 |0,_,_,_,_,_,_,_,_,_,_,_,_,_,_,_,_,_,_=>none
 |n+1,aw,aR,de,af,ah,ai,ag,aY,bo,bp,dQ,dR,dU,bY,av,bE,aU,r2=>FE k (FD k n) aw aR de af ah ai ag aY bo bp dQ dR dU bY av bE aU r2
abbrev Zt:Type:=List zI→Int→Int→Int→List zI→EQ→AC→EQ→AC→EQ→List zC→AC→Int→Bool→Int→Int→Bool→List qS→Option Zs
def FG (k:Nat)(rec:Zt)(lz:List zI)(fy mj af:Int)(ah:List zI)(ai:EQ)(ag:AC)(aY:EQ)(bo:AC)(bp:EQ)(dQ:List zC)(dR:AC)(dU:Int)(bY:Bool)(av bE:Int)(aU:Bool)(r2:List qS):Option Zs:=
 bif decide (mj < fy) then (bif zB mj lz.length then ((pR k mj 23 [(lz.getD mj.toNat (0,0,0)).1]).bind fun x1=>
   bif zP (r2.length+1) 64 then(rec lz fy (zA (mj+1)) af ah ai ag aY bo bp dQ dR dU bY av bE aU (r2++[x1]))
   else none)
  else none)
 else some (af,ah,ai,ag,aY,bo,bp,dQ,dR,dU,bY,av,bE,aU,r2)
def J1 (k:Nat):Nat→Zt
 |0,_,_,_,_,_,_,_,_,_,_,_,_,_,_,_,_,_,_=>none
 |n+1,lz,fy,mj,af,ah,ai,ag,aY,bo,bp,dQ,dR,dU,bY,av,bE,aU,r2=>FG k (J1 k n) lz fy mj af ah ai ag aY bo bp dQ dR dU bY av bE aU r2
def OB (k:Nat)(mg:Int)(qe:List zI)(qg:EQ)(qh:AC)(qi:EQ)(ql:AC)(qm:EQ)(mh:List zC)(qn:AC)(qo:Int)(qp:Bool):Option QY:=
 (FD k k mh (mh.length:Int) 0 mg qe qg qh qi ql qm mh qn qo qp 0 0 false []).bind fun z=>
 (J1 k k z.2.1 (z.2.1.length:Int) 0 z.1 z.2.1 z.2.2.1 z.2.2.2.1 z.2.2.2.2.1 z.2.2.2.2.2.1 z.2.2.2.2.2.2.1 z.2.2.2.2.2.2.2.1 z.2.2.2.2.2.2.2.2.1 z.2.2.2.2.2.2.2.2.2.1 z.2.2.2.2.2.2.2.2.2.2.1 z.2.2.2.2.2.2.2.2.2.2.2.1 z.2.2.2.2.2.2.2.2.2.2.2.2.1 z.2.2.2.2.2.2.2.2.2.2.2.2.2.1 z.2.2.2.2.2.2.2.2.2.2.2.2.2.2).bind fun z1=>
 some (j6 z1 ([],z1.2.2.2.2.2.2.2.2.1,z1.2.2.2.2.2.2.2.2.2.1,true,z1.2.2.2.2.2.2.2.2.2.2.2.2.2.2))
def VQ (k:Nat)(cc bc bB cp bO bZ bS a1:Int):Option Bool:=
 some (decide (a1>bS))
def FJ (k:Nat)(df:Int)(dO:List vU)(dP dh cd a1:Int):Option Bool:=
 bif decide (a1 > 0) then (bif decide (a1 < dh) then (bif !(decide (cd=0)) then some (decide ((Int.tmod a1 cd)=0))
   else none)
  else some false)
 else some false
def U0 (k:Nat)(cc bc bB cp bO bZ bS a1:Int):Option Bool:=
 bif decide (a1≥bZ) then some (decide (a1≤bS))
 else some false
def UZ (k:Nat)(cc bc bB cp bO bZ bS a1:Int):Option Bool:=
 (U0 k cc bc bB cp bO bZ bS a1).bind fun x0=>
 some x0
def EF (k:Nat)(rec:Yw)(s8:List zC)(s9 aw af:Int)(r1:List zC):Option Yy:=
 bif decide (aw < s9) then (bif zB aw s8.length then ((UZ k (s8.getD aw.toNat (0,0,0,0,0,0,0)).1 (s8.getD aw.toNat (0,0,0,0,0,0,0)).2.1 (s8.getD aw.toNat (0,0,0,0,0,0,0)).2.2.1 (s8.getD aw.toNat (0,0,0,0,0,0,0)).2.2.2.1 (s8.getD aw.toNat (0,0,0,0,0,0,0)).2.2.2.2.1 (s8.getD aw.toNat (0,0,0,0,0,0,0)).2.2.2.2.2.1 (s8.getD aw.toNat (0,0,0,0,0,0,0)).2.2.2.2.2.2 af).bind fun x0=>
   bif x0 then (bif zP (r1.length + 1) 56 then (let y0:List zC:=(r1++[(s8.getD aw.toNat (0,0,0,0,0,0,0))])
     rec s8 s9 (zA (aw+1)) af y0)
    else none)
   else rec s8 s9 (zA (aw+1)) af r1)
  else none)
 else some r1
def Jr (k:Nat):Nat→Yw
 |0,_,_,_,_,_=>none
 |n+1,s8,s9,aw,af,r1=>EF k (Jr k n) s8 s9 aw af r1
def UY (k:Nat)(a0:List zC)(cU:Int):Option (List zC):=
 (Jr k k a0 (a0.length:Int) 0 cU []).bind fun z=>
 some z
def EE (k:Nat)(a0:List zC)(a1:Int):Option (List zC):=
 (UY k a0 a1).bind fun x0=>
 some x0
def U5 (k:Nat)(cc bc bB cp bO bZ bS gQ cq dt eu du iQ iR:Int):Option Bool:=
 bif decide (bc=cq) then some (!(decide (bO=3)))
 else some false
abbrev ZB:Type:=List zC→Int→Int→Int→Int→Int→Int→Int→Int→Int→Option (Unit⊕Int)
def EM (k:Nat)(rec:ZB)(s0:List zC)(s7 s8 af ah ai ag aY bo bp:Int):Option (Unit⊕Int):=
 bif decide (s8 < s7) then (bif zB s8 s0.length then ((U5 k (s0.getD s8.toNat (0,0,0,0,0,0,0)).1 (s0.getD s8.toNat (0,0,0,0,0,0,0)).2.1 (s0.getD s8.toNat (0,0,0,0,0,0,0)).2.2.1 (s0.getD s8.toNat (0,0,0,0,0,0,0)).2.2.2.1 (s0.getD s8.toNat (0,0,0,0,0,0,0)).2.2.2.2.1 (s0.getD s8.toNat (0,0,0,0,0,0,0)).2.2.2.2.2.1 (s0.getD s8.toNat (0,0,0,0,0,0,0)).2.2.2.2.2.2 af ah ai ag aY bo bp).bind fun x0=>
   bif x0 then some (.inr s8)
   else rec s0 s7 (zA (s8+1)) af ah ai ag aY bo bp)
  else none)
 else some (.inl ())
def Jw (k:Nat):Nat→ZB
 |0,_,_,_,_,_,_,_,_,_,_=>none
 |n+1,s0,s7,s8,af,ah,ai,ag,aY,bo,bp=>EM k (Jw k n) s0 s7 s8 af ah ai ag aY bo bp
def U6 (k:Nat)(a0:List zC)(mm fM mn dw ew ez fO:Int):Option Int:=
 (Jw k k a0 (a0.length:Int) 0 mm fM mn dw ew ez fO).bind fun z=>
 match z with
 |.inl z1=>some (-1)
 |.inr z2=>some z2
def NZ (k:Nat)(a0:List zC)(mm fM mn dw ew ez fO:Int):Option Bool:=
 (U6 k a0 mm fM mn dw ew ez fO).bind fun x0=>
 some (decide (x0≥0))
def U9 (k:Nat)(cc bc bB cp bO bZ bS:Int)(a1:List eY)(a2:List zC):Option (Bool×(List eY)):=
 bif !(Option.getD (List.lookup bc a1) false) then some (true,((bc,true)::a1))
 else bif decide (bO = 3) then ((NZ k a2 cc bc bB cp bO bZ bS).bind fun x0=>
  some ((!x0),((bc,true)::a1)))
 else some (false,((bc,true)::a1))
abbrev ZH:Type:=(List eY)×(List zC)×(List zC)
abbrev ZF:Type:=List zC→Int→Int→List eY→List zC→List zC→Option ZH
def EO (k:Nat)(rec:ZF)(s8:List zC)(s9 aw:Int)(p1:List eY)(aZ r3:List zC):Option ZH:=
 bif decide (aw < s9) then (bif zB aw s8.length then ((U9 k (s8.getD aw.toNat (0,0,0,0,0,0,0)).1 (s8.getD aw.toNat (0,0,0,0,0,0,0)).2.1 (s8.getD aw.toNat (0,0,0,0,0,0,0)).2.2.1 (s8.getD aw.toNat (0,0,0,0,0,0,0)).2.2.2.1 (s8.getD aw.toNat (0,0,0,0,0,0,0)).2.2.2.2.1 (s8.getD aw.toNat (0,0,0,0,0,0,0)).2.2.2.2.2.1 (s8.getD aw.toNat (0,0,0,0,0,0,0)).2.2.2.2.2.2 p1 aZ).bind fun x0=>
   bif x0.1 then (bif zP (r3.length + 1) 56 then (let y0:List zC:=(r3++[(s8.getD aw.toNat (0,0,0,0,0,0,0))])
     rec s8 s9 (zA (aw+1)) x0.2 aZ y0)
    else none)
   else rec s8 s9 (zA (aw+1)) x0.2 aZ r3)
  else none)
 else some (p1,aZ,r3)
def EN (k:Nat):Nat→ZF
 |0,_,_,_,_,_,_=>none
 |n+1,s8,s9,aw,p1,aZ,r3=>EO k (EN k n) s8 s9 aw p1 aZ r3
def U8 (k:Nat)(a0:List zC)(cU:List eY)(aaW:List zC):Option ((List zC)×(List eY)):=
 (EN k k a0 (a0.length:Int) 0 cU aaW []).bind fun z=>
 some (z.2.2,z.1)
def Jx (k:Nat)(a0:List zC)(a1:Int):Option (List zC):=
 (EE k a0 a1).bind fun x0=>
 (U8 k x0 [] x0).bind fun x1=>
 some x1.1
def D8 (k:Nat)(au:List zI)(az:EQ)(ay:AC)(ax:EQ)(gQ cq dt eu du iQ iR:Int):Option Bool:=
 bif decide (cq ≥ 0) then (bif decide (cq < (au.length : Int)) then (bif decide (dt ≥ 0) then (bif decide (dt < (au.length : Int)) then (bif !(decide (cq = dt)) then (bif decide (eu ≥ 1) then (bif decide (eu ≤ 1099511627776) then (bif decide (du≥1) then some (decide (du≤3))
        else some false)
       else some false)
      else some false)
     else some false)
    else some false)
   else some false)
  else some false)
 else some false
def UU (k:Nat)(cc bc bB cp bO bZ bS:Int)(cT:List zI)(iT:EQ)(iU:AC)(iV:EQ):Option Bool:=
 (D8 k cT iT iU iV cc bc bB cp bO bZ bS).bind fun x0=>
 some (!x0)
abbrev ZK:Type:=List zC→Int→Int→List zI→EQ→AC→EQ→Option (Unit⊕Int)
def ED (k:Nat)(rec:ZK)(s0:List zC)(s7 s8:Int)(af:List zI)(ah:EQ)(ai:AC)(ag:EQ):Option (Unit⊕Int):=
 bif decide (s8 < s7) then (bif zB s8 s0.length then ((UU k (s0.getD s8.toNat (0,0,0,0,0,0,0)).1 (s0.getD s8.toNat (0,0,0,0,0,0,0)).2.1 (s0.getD s8.toNat (0,0,0,0,0,0,0)).2.2.1 (s0.getD s8.toNat (0,0,0,0,0,0,0)).2.2.2.1 (s0.getD s8.toNat (0,0,0,0,0,0,0)).2.2.2.2.1 (s0.getD s8.toNat (0,0,0,0,0,0,0)).2.2.2.2.2.1 (s0.getD s8.toNat (0,0,0,0,0,0,0)).2.2.2.2.2.2 af ah ai ag).bind fun x0=>
   bif x0 then some (.inr s8)
   else rec s0 s7 (zA (s8+1)) af ah ai ag)
  else none)
 else some (.inl ())
def Jp (k:Nat):Nat→ZK
 |0,_,_,_,_,_,_,_=>none
 |n+1,s0,s7,s8,af,ah,ai,ag=>ED k (Jp k n) s0 s7 s8 af ah ai ag
def UW (k:Nat)(a0:List zC)(bJ:List zI)(ct:EQ)(cw:AC)(cy:EQ):Option Int:=
 (Jp k k a0 (a0.length:Int) 0 bJ ct cw cy).bind fun z=>
 match z with
 |.inl z1=>some (-1)
 |.inr z2=>some z2
def NV (k:Nat)(a0:List zC)(bJ:List zI)(ct:EQ)(cw:AC)(cy:EQ):Option Bool:=
 (UW k a0 bJ ct cw cy).bind fun x0=>
 some (decide (x0≥0))
abbrev ZR:Type:=AC×AC×EQ
abbrev ZP:Type:=List zC→Int→Int→AC→AC→EQ→Option ZR
def Eu (k:Nat)(rec:ZP)(aN:List zC)(bX bj:Int)(r2 r3:AC)(m4:EQ):Option ZR:=
 bif decide (bj < bX) then (bif zB bj aN.length then (bif zB (aN.getD bj.toNat (0, 0, 0, 0, 0, 0, 0)).2.1 r2.length then (bif zB (aN.getD bj.toNat (0, 0, 0, 0, 0, 0, 0)).2.1 r2.length then (let y0:AC:=(r2.set (aN.getD bj.toNat (0,0,0,0,0,0,0)).2.1.toNat (zA ((r2.getD (aN.getD bj.toNat (0,0,0,0,0,0,0)).2.1.toNat 0)-(aN.getD bj.toNat (0,0,0,0,0,0,0)).2.2.2.1)))
     bif zB (aN.getD bj.toNat (0, 0, 0, 0, 0, 0, 0)).2.2.1 y0.length then (bif zB (aN.getD bj.toNat (0, 0, 0, 0, 0, 0, 0)).2.2.1 y0.length then (let y1:AC:=(y0.set (aN.getD bj.toNat (0,0,0,0,0,0,0)).2.2.1.toNat (zA ((y0.getD (aN.getD bj.toNat (0,0,0,0,0,0,0)).2.2.1.toNat 0)+(aN.getD bj.toNat (0,0,0,0,0,0,0)).2.2.2.1)))
       bif zB (aN.getD bj.toNat (0, 0, 0, 0, 0, 0, 0)).2.1 m4.length then (bif zB (aN.getD bj.toNat (0, 0, 0, 0, 0, 0, 0)).2.2.1 (m4.getD (aN.getD bj.toNat (0, 0, 0, 0, 0, 0, 0)).2.1.toNat []).length then (bif zB (aN.getD bj.toNat (0, 0, 0, 0, 0, 0, 0)).2.2.1 (m4.getD (aN.getD bj.toNat (0, 0, 0, 0, 0, 0, 0)).2.1.toNat []).length then (let y2:EQ:=(m4.set (aN.getD bj.toNat (0,0,0,0,0,0,0)).2.1.toNat ((m4.getD (aN.getD bj.toNat (0,0,0,0,0,0,0)).2.1.toNat []).set (aN.getD bj.toNat (0,0,0,0,0,0,0)).2.2.1.toNat (zA (((m4.getD (aN.getD bj.toNat (0,0,0,0,0,0,0)).2.1.toNat []).getD (aN.getD bj.toNat (0,0,0,0,0,0,0)).2.2.1.toNat 0)+(aN.getD bj.toNat (0,0,0,0,0,0,0)).2.2.2.1))))
          bif zB (aN.getD bj.toNat (0, 0, 0, 0, 0, 0, 0)).2.2.1 y2.length then (bif zB (aN.getD bj.toNat (0, 0, 0, 0, 0, 0, 0)).2.1 (y2.getD (aN.getD bj.toNat (0, 0, 0, 0, 0, 0, 0)).2.2.1.toNat []).length then (bif zB (aN.getD bj.toNat (0, 0, 0, 0, 0, 0, 0)).2.1 (y2.getD (aN.getD bj.toNat (0, 0, 0, 0, 0, 0, 0)).2.2.1.toNat []).length then (let y3:EQ:=(y2.set (aN.getD bj.toNat (0,0,0,0,0,0,0)).2.2.1.toNat ((y2.getD (aN.getD bj.toNat (0,0,0,0,0,0,0)).2.2.1.toNat []).set (aN.getD bj.toNat (0,0,0,0,0,0,0)).2.1.toNat (zA (((y2.getD (aN.getD bj.toNat (0,0,0,0,0,0,0)).2.2.1.toNat []).getD (aN.getD bj.toNat (0,0,0,0,0,0,0)).2.1.toNat 0)-(aN.getD bj.toNat (0,0,0,0,0,0,0)).2.2.2.1))))
             bif !(decide ((aN.getD bj.toNat (0, 0, 0, 0, 0, 0, 0)).2.2.2.2.1 = 3)) then (bif zB (aN.getD bj.toNat (0, 0, 0, 0, 0, 0, 0)).2.1 r3.length then (bif zB (aN.getD bj.toNat (0, 0, 0, 0, 0, 0, 0)).2.1 r3.length then (let y4:AC:=(r3.set (aN.getD bj.toNat (0,0,0,0,0,0,0)).2.1.toNat (zA ((r3.getD (aN.getD bj.toNat (0,0,0,0,0,0,0)).2.1.toNat 0)+(aN.getD bj.toNat (0,0,0,0,0,0,0)).2.2.2.1)))
                rec aN bX (zA (bj+1)) y1 y4 y3)
               else none)
              else none)
             else rec aN bX (zA (bj+1)) y1 r3 y3)
            else none)
           else none)
          else none)
         else none)
        else none)
       else none)
      else none)
     else none)
    else none)
   else none)
  else none)
 else some (r2,r3,m4)
def Jl (k:Nat):Nat→ZP
 |0,_,_,_,_,_,_=>none
 |n+1,aN,bX,bj,r2,r3,m4=>Eu k (Jl k n) aN bX bj r2 r3 m4
def NQ (k:Nat)(a0:Int)(a1:List zC):Option (AC×AC×EQ):=
 (AV k a0 0).bind fun x0=>
 (AV k a0 0).bind fun x1=>
 (Es k a0 0).bind fun x2=>
 (Jl k k a1 (a1.length:Int) 0 x0 x1 x2).bind fun z=>
 some (z.1,z.2.1,z.2.2)
def UN (k:Nat)(cc bc bB cp bO bZ bS a1:Int):Option Bool:=
 some (decide (bc=a1))
def Ev (k:Nat)(rec:YL)(s0:List zC)(s7 s8 af:Int):Option (Unit⊕Int):=
 bif decide (s8 < s7) then (bif zB s8 s0.length then ((UN k (s0.getD s8.toNat (0,0,0,0,0,0,0)).1 (s0.getD s8.toNat (0,0,0,0,0,0,0)).2.1 (s0.getD s8.toNat (0,0,0,0,0,0,0)).2.2.1 (s0.getD s8.toNat (0,0,0,0,0,0,0)).2.2.2.1 (s0.getD s8.toNat (0,0,0,0,0,0,0)).2.2.2.2.1 (s0.getD s8.toNat (0,0,0,0,0,0,0)).2.2.2.2.2.1 (s0.getD s8.toNat (0,0,0,0,0,0,0)).2.2.2.2.2.2 af).bind fun x0=>
   bif x0 then some (.inr s8)
   else rec s0 s7 (zA (s8+1)) af)
  else none)
 else some (.inl ())
def Jm (k:Nat):Nat→YL
 |0,_,_,_,_=>none
 |n+1,s0,s7,s8,af=>Ev k (Jm k n) s0 s7 s8 af
def UO (k:Nat)(a0:List zC)(cU:Int):Option Int:=
 (Jm k k a0 (a0.length:Int) 0 cU).bind fun z=>
 match z with
 |.inl z1=>some (-1)
 |.inr z2=>some z2
def NR (k:Nat)(a0:List zC)(cU:Int):Option Bool:=
 (UO k a0 cU).bind fun x0=>
 some (decide (x0≥0))
def Ep (k:Nat)(rec:Int→AC→Int→Int→Option Int)(s5:Int)(de:AC)(bz bC:Int):Option Int:=
 bif decide (bC < bz) then (bif zB bC de.length then(rec (zA (s5+(de.getD bC.toNat 0))) de bz (zA (bC+1)))
  else none)
 else some s5
def Eo (k:Nat):Nat→Int→AC→Int→Int→Option Int
 |0,_,_,_,_=>none
 |n+1,s5,de,bz,bC=>Ep k (Eo k n) s5 de bz bC
def NN (k:Nat)(au:List zI)(az:EQ)(ay:AC)(ax:EQ)(a1:Int):Option Int:=
 bif zB a1 ax.length then ((Eo k k 0 (ax.getD a1.toNat []) ((ax.getD a1.toNat []).length:Int) 0).bind fun z=>
  some z)
 else none
def Ey (k:Nat)(a0 a1:Int):Option Bool:=
 bif !(decide (a1=(-1))) then some (decide (a0>a1))
 else some false
def UQ (k:Nat)(cc bc bB cp bO bZ bS a1 nW qt nX:Int)(aaX ng:AC)(eC:EQ)(a4:Int)(Q4:List zI)(iz:EQ)(aba:AC)(iA:EQ):Option Bool:=
 bif !(decide (bc=a1)) then some false
 else bif zB a1 ng.length then ((xe k nW qt nX (ng.getD a1.toNat 0)).bind fun x0=>
  bif decide (bO = 3) then (bif decide (a4<x0) then some true
   else bif zB a1 iA.length then (bif zB bB (iA.getD a1.toNat []).length then (bif zB a1 eC.length then (bif zB bB (eC.getD a1.toNat []).length then (bif zB a1 iz.length then (bif zB bB (iz.getD a1.toNat []).length then ((Ey k (zA (((iA.getD a1.toNat []).getD bB.toNat 0)+((eC.getD a1.toNat []).getD bB.toNat 0))) ((iz.getD a1.toNat []).getD bB.toNat 0)).bind fun x1=>
         some x1)
        else none)
       else none)
      else none)
     else none)
    else none)
   else none)
  else bif zB a1 iA.length then (bif zB bB (iA.getD a1.toNat []).length then (bif zB a1 eC.length then (bif zB bB (eC.getD a1.toNat []).length then (bif zB a1 iz.length then (bif zB bB (iz.getD a1.toNat []).length then ((Ey k (zA (((iA.getD a1.toNat []).getD bB.toNat 0)+((eC.getD a1.toNat []).getD bB.toNat 0))) ((iz.getD a1.toNat []).getD bB.toNat 0)).bind fun x2=>
        some x2)
       else none)
      else none)
     else none)
    else none)
   else none)
  else none)
 else none
abbrev ZZ:Type:=List zC→Int→Int→Int→Int→Int→Int→AC→AC→EQ→Int→List zI→EQ→AC→EQ→Option (Unit⊕Int)
def Ez (k:Nat)(rec:ZZ)(s0:List zC)(s7 s8 af av aB aC:Int)(aZ bV:AC)(bW:EQ)(cf:Int)(iX:List zI)(uU:EQ)(uV:AC)(uW:EQ):Option (Unit⊕Int):=
 bif decide (s8 < s7) then (bif zB s8 s0.length then ((UQ k (s0.getD s8.toNat (0,0,0,0,0,0,0)).1 (s0.getD s8.toNat (0,0,0,0,0,0,0)).2.1 (s0.getD s8.toNat (0,0,0,0,0,0,0)).2.2.1 (s0.getD s8.toNat (0,0,0,0,0,0,0)).2.2.2.1 (s0.getD s8.toNat (0,0,0,0,0,0,0)).2.2.2.2.1 (s0.getD s8.toNat (0,0,0,0,0,0,0)).2.2.2.2.2.1 (s0.getD s8.toNat (0,0,0,0,0,0,0)).2.2.2.2.2.2 af av aB aC aZ bV bW cf iX uU uV uW).bind fun x0=>
   bif x0 then some (.inr s8)
   else rec s0 s7 (zA (s8+1)) af av aB aC aZ bV bW cf iX uU uV uW)
  else none)
 else some (.inl ())
def Jo (k:Nat):Nat→ZZ
 |0,_,_,_,_,_,_,_,_,_,_,_,_,_,_,_=>none
 |n+1,s0,s7,s8,af,av,aB,aC,aZ,bV,bW,cf,iX,uU,uV,uW=>Ez k (Jo k n) s0 s7 s8 af av aB aC aZ bV bW cf iX uU uV uW
def UR (k:Nat)(a0:List zC)(cU cV dy cW:Int)(fP eE:AC)(fQ:EQ)(B9:Int)(eF:List zI)(iY:EQ)(iZ:AC)(ja:EQ):Option Int:=
 (Jo k k a0 (a0.length:Int) 0 cU cV dy cW fP eE fQ B9 eF iY iZ ja).bind fun z=>
 match z with
 |.inl z1=>some (-1)
 |.inr z2=>some z2
def NS (k:Nat)(a0:List zC)(cU cV dy cW:Int)(fP eE:AC)(fQ:EQ)(B9:Int)(eF:List zI)(iY:EQ)(iZ:AC)(ja:EQ):Option Bool:=
 (UR k a0 cU cV dy cW fP eE fQ B9 eF iY iZ ja).bind fun x0=>
 some (decide (x0≥0))
abbrev Z6:Type:=(List zC)×Int×AC×AC×EQ×(List zI)×EQ×AC×EQ×Int×Int×Int×Int×Int
abbrev Z4:Type:=List zC→Int→AC→Int→Int→AC→AC→EQ→List zI→EQ→AC→EQ→Int→Int→Int→Int→Int→Option Z6
def EA (k:Nat)(rec:Z4)(s3:List zC)(aR:Int)(lv:AC)(gw iW:Int)(af ah:AC)(ai:EQ)(av:List zI)(aB:EQ)(aC:AC)(aE:EQ)(aZ cf cX di iX:Int):Option Z6:=
 bif decide (iW < gw) then (bif zB iW lv.length then(rec s3 (zA (aR+(lv.getD iW.toNat 0))) lv gw (zA (iW+1)) af ah ai av aB aC aE aZ cf cX di iX)
  else none)
 else some (s3,aR,af,ah,ai,av,aB,aC,aE,aZ,cf,cX,di,iX)
def AY (k:Nat):Nat→Z4
 |0,_,_,_,_,_,_,_,_,_,_,_,_,_,_,_,_,_=>none
 |n+1,s3,aR,lv,gw,iW,af,ah,ai,av,aB,aC,aE,aZ,cf,cX,di,iX=>EA k (AY k n) s3 aR lv gw iW af ah ai av aB aC aE aZ cf cX di iX
def NU (k:Nat)(jb uX:AC)(jc:EQ)(cT:List zI)(iT:EQ)(iU:AC)(iV:EQ)(a2:Int)(a3:List zC):Option Bool:=
 bif zB a2 cT.length then (bif zB a2 jb.length then (bif decide ((zA ((zA ((cT.getD a2.toNat (0,0,0)).1+(cT.getD a2.toNat (0,0,0)).2.1))+(jb.getD a2.toNat 0)))<0) then some true
   else(NN k cT iT iU iV a2).bind fun x0=>
   bif zB a2 jc.length then ((AY k k a3 x0 (jc.getD a2.toNat []) ((jc.getD a2.toNat []).length:Int) 0 jb uX jc cT iT iU iV a2 (cT.getD a2.toNat (0,0,0)).1 (cT.getD a2.toNat (0,0,0)).2.1 (cT.getD a2.toNat (0,0,0)).2.2 (zA ((zA ((cT.getD a2.toNat (0,0,0)).1+(cT.getD a2.toNat (0,0,0)).2.1))+(jb.getD a2.toNat 0)))).bind fun z=>
    bif zB z.2.2.2.2.2.2.2.2.2.1 z.2.2.2.2.2.2.2.1.length then ((Ey k z.2.1 (z.2.2.2.2.2.2.2.1.getD z.2.2.2.2.2.2.2.2.2.1.toNat 0)).bind fun x1=>
     bif x1 then some true
     else(NS k z.1 z.2.2.2.2.2.2.2.2.2.1 z.2.2.2.2.2.2.2.2.2.2.1 z.2.2.2.2.2.2.2.2.2.2.2.1 z.2.2.2.2.2.2.2.2.2.2.2.2.1 z.2.2.1 z.2.2.2.1 z.2.2.2.2.1 z.2.2.2.2.2.2.2.2.2.2.2.2.2 z.2.2.2.2.2.1 z.2.2.2.2.2.2.1 z.2.2.2.2.2.2.2.1 z.2.2.2.2.2.2.2.2.1).bind fun x2=>
     some x2)
    else none)
   else none)
  else none)
 else none
abbrev Z8:Type:=List zC→Int→Int→List zI→EQ→AC→EQ→AC→AC→EQ→AC→Option AC
def EC (k:Nat)(rec:Z8)(s1:List zC)(bX bj:Int)(af:List zI)(ah:EQ)(ai:AC)(ag:EQ)(r2 r3:AC)(m4:EQ)(r5:AC):Option AC:=
 bif decide (bj < bX) then ((NR k s1 bj).bind fun x1=>
  bif x1 then ((NU k r2 r3 m4 af ah ai ag bj s1).bind fun x2=>
   bif x2 then (bif zP (r5.length+1) 8 then(rec s1 bX (zA (bj+1)) af ah ai ag r2 r3 m4 (r5++[bj]))
    else none)
   else rec s1 bX (zA (bj+1)) af ah ai ag r2 r3 m4 r5)
  else rec s1 bX (zA (bj+1)) af ah ai ag r2 r3 m4 r5)
 else some r5
def EB (k:Nat):Nat→Z8
 |0,_,_,_,_,_,_,_,_,_,_,_=>none
 |n+1,s1,bX,bj,af,ah,ai,ag,r2,r3,m4,r5=>EC k (EB k n) s1 bX bj af ah ai ag r2 r3 m4 r5
def AZ (k:Nat)(au:List zI)(az:EQ)(ay:AC)(ax:EQ)(a1:List zC):Option AC:=
 (NQ k (au.length:Int) a1).bind fun x0=>
 (EB k k a1 (au.length:Int) 0 au az ay ax x0.1 x0.2.1 x0.2.2 []).bind fun z=>
 some z
def A0 (k:Nat)(au:List zI)(az:EQ)(ay:AC)(ax:EQ)(a1:List zC):Option Bool:=
 bif decide ((a1.length : Int) ≤ 64) then ((NV k a1 au az ay ax).bind fun x0=>
  bif !x0 then ((AZ k au az ay ax a1).bind fun x1=>
   some (decide ((x1.length:Int)=0)))
  else some false)
 else some false
def UA (k:Nat)(cc bc bB cp bO bZ bS:Int)(cT:List zI)(iT:EQ)(iU:AC)(iV:EQ):Option Bool:=
 (D8 k cT iT iU iV cc bc bB cp bO bZ bS).bind fun x0=>
 some (!x0)
def D9 (k:Nat)(rec:ZK)(s0:List zC)(s7 s8:Int)(af:List zI)(ah:EQ)(ai:AC)(ag:EQ):Option (Unit⊕Int):=
 bif decide (s8 < s7) then (bif zB s8 s0.length then ((UA k (s0.getD s8.toNat (0,0,0,0,0,0,0)).1 (s0.getD s8.toNat (0,0,0,0,0,0,0)).2.1 (s0.getD s8.toNat (0,0,0,0,0,0,0)).2.2.1 (s0.getD s8.toNat (0,0,0,0,0,0,0)).2.2.2.1 (s0.getD s8.toNat (0,0,0,0,0,0,0)).2.2.2.2.1 (s0.getD s8.toNat (0,0,0,0,0,0,0)).2.2.2.2.2.1 (s0.getD s8.toNat (0,0,0,0,0,0,0)).2.2.2.2.2.2 af ah ai ag).bind fun x0=>
   bif x0 then some (.inr s8)
   else rec s0 s7 (zA (s8+1)) af ah ai ag)
  else none)
 else some (.inl ())
def I7 (k:Nat):Nat→ZK
 |0,_,_,_,_,_,_,_=>none
 |n+1,s0,s7,s8,af,ah,ai,ag=>D9 k (I7 k n) s0 s7 s8 af ah ai ag
def UB (k:Nat)(a0:List zC)(bJ:List zI)(ct:EQ)(cw:AC)(cy:EQ):Option Int:=
 (I7 k k a0 (a0.length:Int) 0 bJ ct cw cy).bind fun z=>
 match z with
 |.inl z1=>some (-1)
 |.inr z2=>some z2
def Nx (k:Nat)(a0:List zC)(bJ:List zI)(ct:EQ)(cw:AC)(cy:EQ):Option Bool:=
 (UB k a0 bJ ct cw cy).bind fun x0=>
 some (decide (x0≥0))
def Un (k:Nat)(bq bD aT:Int):Option Bool:=
 (Nj k bq bD aT).bind fun x0=>
 some (!x0)
abbrev qXn:Type:=List zI→Int→Int→Option (Unit⊕Int)
def DP (k:Nat)(rec:qXn)(s0:List zI)(s7 s8:Int):Option (Unit⊕Int):=
 bif decide (s8 < s7) then (bif zB s8 s0.length then ((Un k (s0.getD s8.toNat (0,0,0)).1 (s0.getD s8.toNat (0,0,0)).2.1 (s0.getD s8.toNat (0,0,0)).2.2).bind fun x0=>
   bif x0 then some (.inr s8)
   else rec s0 s7 (zA (s8+1)))
  else none)
 else some (.inl ())
def IN (k:Nat):Nat→qXn
 |0,_,_,_=>none
 |n+1,s0,s7,s8=>DP k (IN k n) s0 s7 s8
def Uo (k:Nat)(a0:List zI):Option Int:=
 (IN k k a0 (a0.length:Int) 0).bind fun z=>
 match z with
 |.inl z1=>some (-1)
 |.inr z2=>some z2
def Nm (k:Nat)(a0:List zI):Option Bool:=
 (Uo k a0).bind fun x0=>
 some (decide (x0≥0))
def qOp (k:Nat)(a0:Int):Option Bool:=
 bif decide (a0≥(-1)) then some (decide (a0≤2305843009213693952))
 else some false
def Uq (k:Nat)(a0:Int):Option Bool:=
 (qOp k a0).bind fun x0=>
 some (!x0)
abbrev qWg:Type:=AC→Int→Int→Option (Unit⊕Int)
def DQ (k:Nat)(rec:qWg)(s0:AC)(s7 s8:Int):Option (Unit⊕Int):=
 bif decide (s8 < s7) then (bif zB s8 s0.length then ((Uq k (s0.getD s8.toNat 0)).bind fun x0=>
   bif x0 then some (.inr s8)
   else rec s0 s7 (zA (s8+1)))
  else none)
 else some (.inl ())
def IP (k:Nat):Nat→qWg
 |0,_,_,_=>none
 |n+1,s0,s7,s8=>DQ k (IP k n) s0 s7 s8
def Ur (k:Nat)(a0:AC):Option Int:=
 (IP k k a0 (a0.length:Int) 0).bind fun z=>
 match z with
 |.inl z1=>some (-1)
 |.inr z2=>some z2
def Nn (k:Nat)(a0:AC):Option Bool:=
 (Ur k a0).bind fun x0=>
 some (decide (x0≥0))
def IS (k:Nat)(a0:AC)(a1:Int):Option Bool:=
 bif decide ((a0.length : Int) = a1) then ((Nn k a0).bind fun x0=>
  some (!x0))
 else some false
abbrev qUj:Type:=Int→EQ→Int→Int→Option (Unit⊕Bool)
def DS (k:Nat)(rec:qUj)(s1:Int)(bz:EQ)(bC aN:Int):Option (Unit⊕Bool):=
 bif decide (aN < bC) then (bif zB aN bz.length then ((IS k (bz.getD aN.toNat []) s1).bind fun x0=>
   bif !x0 then some (.inr false)
   else rec s1 bz bC (zA (aN+1)))
  else none)
 else some (.inl ())
def IT (k:Nat):Nat→qUj
 |0,_,_,_,_=>none
 |n+1,s1,bz,bC,aN=>DS k (IT k n) s1 bz bC aN
def Nq (k:Nat)(a0:EQ)(a1:Int):Option Bool:=
 bif !(decide ((a0.length:Int)=a1)) then some false
 else(IT k k a1 a0 (a0.length:Int) 0).bind fun z=>
 match z with
 |.inl z1=>some true
 |.inr z2=>some z2
def Nk (k:Nat)(a0:Int):Option Bool:=
 bif decide (a0>(-72057594037927936)) then some (decide (a0<72057594037927936))
 else some false
def Us (k:Nat)(a0:Int):Option Bool:=
 (Nk k a0).bind fun x0=>
 some (!x0)
def DR (k:Nat)(rec:qWg)(s0:AC)(s7 s8:Int):Option (Unit⊕Int):=
 bif decide (s8 < s7) then (bif zB s8 s0.length then ((Us k (s0.getD s8.toNat 0)).bind fun x0=>
   bif x0 then some (.inr s8)
   else rec s0 s7 (zA (s8+1)))
  else none)
 else some (.inl ())
def IQ (k:Nat):Nat→qWg
 |0,_,_,_=>none
 |n+1,s0,s7,s8=>DR k (IQ k n) s0 s7 s8
def Ut (k:Nat)(a0:AC):Option Int:=
 (IQ k k a0 (a0.length:Int) 0).bind fun z=>
 match z with
 |.inl z1=>some (-1)
 |.inr z2=>some z2
def No (k:Nat)(a0:AC):Option Bool:=
 (Ut k a0).bind fun x0=>
 some (decide (x0≥0))
def Np (k:Nat)(a0:AC)(a1:Int):Option Bool:=
 bif decide ((a0.length : Int) = a1) then ((No k a0).bind fun x0=>
  some (!x0))
 else some false
def DT (k:Nat)(rec:qUj)(s1:Int)(bz:EQ)(bC aN:Int):Option (Unit⊕Bool):=
 bif decide (aN < bC) then (bif zB aN bz.length then ((Np k (bz.getD aN.toNat []) s1).bind fun x0=>
   bif !x0 then some (.inr false)
   else rec s1 bz bC (zA (aN+1)))
  else none)
 else some (.inl ())
def IU (k:Nat):Nat→qUj
 |0,_,_,_,_=>none
 |n+1,s1,bz,bC,aN=>DT k (IU k n) s1 bz bC aN
def Nr (k:Nat)(a0:EQ)(a1:Int):Option Bool:=
 bif !(decide ((a0.length:Int)=a1)) then some false
 else(IU k k a1 a0 (a0.length:Int) 0).bind fun z=>
 match z with
 |.inl z1=>some true
 |.inr z2=>some z2
abbrev qOq:Type:=(EQ×EQ×Int×Int)⊕Bool
abbrev qR7:Type:=EQ→Int→EQ→Int→Int→AC→Int→Int→Option qOq
def DV (k:Nat)(rec:qR7)(s0:EQ)(s3:Int)(s7:EQ)(s8 s9:Int)(bC:AC)(aN bX:Int):Option qOq:=
 bif decide (bX < aN) then (bif zB bX bC.length then (bif zB bX s0.length then (bif zB s3 (s0.getD bX.toNat []).length then (bif !(decide (((s0.getD bX.toNat []).getD s3.toNat 0)=(zA (0-(bC.getD bX.toNat 0))))) then some (.inr false)
     else rec s0 s3 s7 s8 s9 bC aN (zA (bX+1)))
    else none)
   else none)
  else none)
 else some (.inl (s0,s7,s8,s9))
def DU (k:Nat):Nat→qR7
 |0,_,_,_,_,_,_,_,_=>none
 |n+1,s0,s3,s7,s8,s9,bC,aN,bX=>DV k (DU k n) s0 s3 s7 s8 s9 bC aN bX
abbrev qPu:Type:=EQ→EQ→Int→Int→Option (Unit⊕Bool)
def DW (k:Nat)(rec:qPu)(s0 s7:EQ)(s8 s9:Int):Option (Unit⊕Bool):=
 bif decide (s9 < s8) then (bif zB s9 s7.length then ((DU k k s0 s9 s7 s8 s9 (s7.getD s9.toNat []) ((s7.getD s9.toNat []).length:Int) 0).bind fun z=>
   match z with
   |.inl z1=>rec z1.1 z1.2.1 z1.2.2.1 (zA (z1.2.2.2+1))
   |.inr z2=>some (.inr z2))
  else none)
 else some (.inl ())
def IV (k:Nat):Nat→qPu
 |0,_,_,_,_=>none
 |n+1,s0,s7,s8,s9=>DW k (IV k n) s0 s7 s8 s9
def Ns (k:Nat)(a0:EQ):Option Bool:=
 (IV k k a0 a0 (a0.length:Int) 0).bind fun z3=>
 match z3 with
 |.inl z4=>some true
 |.inr z5=>some z5
def AP (k:Nat)(au:List zI)(az:EQ)(ay:AC)(ax:EQ):Option Bool:=
 bif decide ((au.length:Int)<1) then some false
 else bif decide ((au.length:Int)>6) then some false
 else(Nm k au).bind fun x0=>
 bif x0 then some false
 else(Nq k az (au.length:Int)).bind fun x1=>
 bif x1 then ((IS k ay (au.length:Int)).bind fun x2=>
  bif x2 then ((Nr k ax (au.length:Int)).bind fun x3=>
   bif x3 then ((Ns k ax).bind fun x4=>
    some x4)
   else some false)
  else some false)
 else some false
abbrev qKv:Type:=(List zI)×EQ×AC×EQ×(List zI)×EQ×AC×EQ
abbrev qOa:Type:=List zC→Int→Int→List zI→EQ→AC→EQ→List zI→EQ→AC→EQ→Option qKv
def Ed (k:Nat)(rec:qOa)(bx:List zC)(kg aV:Int)(af:List zI)(ah:EQ)(ai:AC)(ag:EQ)(r3:List zI)(m4:EQ)(r5:AC)(m6:EQ):Option qKv:=
 bif decide (aV < kg) then (bif zB aV bx.length then (bif zB (bx.getD aV.toNat (0, 0, 0, 0, 0, 0, 0)).2.1 r3.length then (bif zB (bx.getD aV.toNat (0, 0, 0, 0, 0, 0, 0)).2.2.1 r3.length then (let y0:List zI:=(r3.set (bx.getD aV.toNat (0,0,0,0,0,0,0)).2.1.toNat ((zA ((r3.getD (bx.getD aV.toNat (0,0,0,0,0,0,0)).2.1.toNat (0,0,0)).1-(bx.getD aV.toNat (0,0,0,0,0,0,0)).2.2.2.1)),(r3.getD (bx.getD aV.toNat (0,0,0,0,0,0,0)).2.1.toNat (0,0,0)).2))
     let y1:List zI:=(y0.set (bx.getD aV.toNat (0,0,0,0,0,0,0)).2.2.1.toNat ((zA ((y0.getD (bx.getD aV.toNat (0,0,0,0,0,0,0)).2.2.1.toNat (0,0,0)).1+(bx.getD aV.toNat (0,0,0,0,0,0,0)).2.2.2.1)),(y0.getD (bx.getD aV.toNat (0,0,0,0,0,0,0)).2.2.1.toNat (0,0,0)).2))
     bif !(decide ((bx.getD aV.toNat (0, 0, 0, 0, 0, 0, 0)).2.2.2.2.1 = 3)) then ((xe k (y1.getD (bx.getD aV.toNat (0,0,0,0,0,0,0)).2.1.toNat (0,0,0)).1 (y1.getD (bx.getD aV.toNat (0,0,0,0,0,0,0)).2.1.toNat (0,0,0)).2.1 (y1.getD (bx.getD aV.toNat (0,0,0,0,0,0,0)).2.1.toNat (0,0,0)).2.2 (bx.getD aV.toNat (0,0,0,0,0,0,0)).2.2.2.1).bind fun x2=>
      let y2:List zI:=(y1.set (bx.getD aV.toNat (0,0,0,0,0,0,0)).2.1.toNat ((y1.getD (bx.getD aV.toNat (0,0,0,0,0,0,0)).2.1.toNat (0,0,0)).1,(y1.getD (bx.getD aV.toNat (0,0,0,0,0,0,0)).2.1.toNat (0,0,0)).2.1,x2))
      bif zB (bx.getD aV.toNat (0, 0, 0, 0, 0, 0, 0)).2.1 m6.length then (bif zB (bx.getD aV.toNat (0, 0, 0, 0, 0, 0, 0)).2.2.1 (m6.getD (bx.getD aV.toNat (0, 0, 0, 0, 0, 0, 0)).2.1.toNat []).length then (bif zB (bx.getD aV.toNat (0, 0, 0, 0, 0, 0, 0)).2.2.1 (m6.getD (bx.getD aV.toNat (0, 0, 0, 0, 0, 0, 0)).2.1.toNat []).length then (let y3:EQ:=(m6.set (bx.getD aV.toNat (0,0,0,0,0,0,0)).2.1.toNat ((m6.getD (bx.getD aV.toNat (0,0,0,0,0,0,0)).2.1.toNat []).set (bx.getD aV.toNat (0,0,0,0,0,0,0)).2.2.1.toNat (zA (((m6.getD (bx.getD aV.toNat (0,0,0,0,0,0,0)).2.1.toNat []).getD (bx.getD aV.toNat (0,0,0,0,0,0,0)).2.2.1.toNat 0)+(bx.getD aV.toNat (0,0,0,0,0,0,0)).2.2.2.1))))
         bif zB (bx.getD aV.toNat (0, 0, 0, 0, 0, 0, 0)).2.2.1 y3.length then (bif zB (bx.getD aV.toNat (0, 0, 0, 0, 0, 0, 0)).2.1 (y3.getD (bx.getD aV.toNat (0, 0, 0, 0, 0, 0, 0)).2.2.1.toNat []).length then (bif zB (bx.getD aV.toNat (0, 0, 0, 0, 0, 0, 0)).2.1 (y3.getD (bx.getD aV.toNat (0, 0, 0, 0, 0, 0, 0)).2.2.1.toNat []).length then (let y4:EQ:=(y3.set (bx.getD aV.toNat (0,0,0,0,0,0,0)).2.2.1.toNat ((y3.getD (bx.getD aV.toNat (0,0,0,0,0,0,0)).2.2.1.toNat []).set (bx.getD aV.toNat (0,0,0,0,0,0,0)).2.1.toNat (zA (((y3.getD (bx.getD aV.toNat (0,0,0,0,0,0,0)).2.2.1.toNat []).getD (bx.getD aV.toNat (0,0,0,0,0,0,0)).2.1.toNat 0)-(bx.getD aV.toNat (0,0,0,0,0,0,0)).2.2.2.1))))
            rec bx kg (zA (aV+1)) af ah ai ag y2 m4 r5 y4)
           else none)
          else none)
         else none)
        else none)
       else none)
      else none)
     else bif zB (bx.getD aV.toNat (0, 0, 0, 0, 0, 0, 0)).2.1 m6.length then (bif zB (bx.getD aV.toNat (0, 0, 0, 0, 0, 0, 0)).2.2.1 (m6.getD (bx.getD aV.toNat (0, 0, 0, 0, 0, 0, 0)).2.1.toNat []).length then (bif zB (bx.getD aV.toNat (0, 0, 0, 0, 0, 0, 0)).2.2.1 (m6.getD (bx.getD aV.toNat (0, 0, 0, 0, 0, 0, 0)).2.1.toNat []).length then (let y5:EQ:=(m6.set (bx.getD aV.toNat (0,0,0,0,0,0,0)).2.1.toNat ((m6.getD (bx.getD aV.toNat (0,0,0,0,0,0,0)).2.1.toNat []).set (bx.getD aV.toNat (0,0,0,0,0,0,0)).2.2.1.toNat (zA (((m6.getD (bx.getD aV.toNat (0,0,0,0,0,0,0)).2.1.toNat []).getD (bx.getD aV.toNat (0,0,0,0,0,0,0)).2.2.1.toNat 0)+(bx.getD aV.toNat (0,0,0,0,0,0,0)).2.2.2.1))))
        bif zB (bx.getD aV.toNat (0, 0, 0, 0, 0, 0, 0)).2.2.1 y5.length then (bif zB (bx.getD aV.toNat (0, 0, 0, 0, 0, 0, 0)).2.1 (y5.getD (bx.getD aV.toNat (0, 0, 0, 0, 0, 0, 0)).2.2.1.toNat []).length then (bif zB (bx.getD aV.toNat (0, 0, 0, 0, 0, 0, 0)).2.1 (y5.getD (bx.getD aV.toNat (0, 0, 0, 0, 0, 0, 0)).2.2.1.toNat []).length then (let y6:EQ:=(y5.set (bx.getD aV.toNat (0,0,0,0,0,0,0)).2.2.1.toNat ((y5.getD (bx.getD aV.toNat (0,0,0,0,0,0,0)).2.2.1.toNat []).set (bx.getD aV.toNat (0,0,0,0,0,0,0)).2.1.toNat (zA (((y5.getD (bx.getD aV.toNat (0,0,0,0,0,0,0)).2.2.1.toNat []).getD (bx.getD aV.toNat (0,0,0,0,0,0,0)).2.1.toNat 0)-(bx.getD aV.toNat (0,0,0,0,0,0,0)).2.2.2.1))))
           rec bx kg (zA (aV+1)) af ah ai ag y1 m4 r5 y6)
          else none)
         else none)
        else none)
       else none)
      else none)
     else none)
    else none)
   else none)
  else none)
 else some (af,ah,ai,ag,r3,m4,r5,m6)
def Ec (k:Nat):Nat→qOa
 |0,_,_,_,_,_,_,_,_,_,_,_=>none
 |n+1,bx,kg,aV,af,ah,ai,ag,r3,m4,r5,m6=>Ed k (Ec k n) bx kg aV af ah ai ag r3 m4 r5 m6
def pL (k:Nat)(au:List zI)(az:EQ)(ay:AC)(ax:EQ)(a1:List zC):Option ((List zI)×EQ×AC×EQ×Int):=
 bif decide ((a1.length:Int)>64) then some (au,az,ay,ax,1)
 else(Nx k a1 au az ay ax).bind fun x0=>
 bif x0 then some (au,az,ay,ax,1)
 else(gk k au az ay ax).bind fun x1=>
 (Ec k k a1 (a1.length:Int) 0 au az ay ax x1.1 x1.2.1 x1.2.2.1 x1.2.2.2).bind fun z=>
 (AP k z.2.2.2.2.1 z.2.2.2.2.2.1 z.2.2.2.2.2.2.1 z.2.2.2.2.2.2.2).bind fun x3=>
 bif !x3 then some (vX z 8)
 else some (yMv z 0)
abbrev qW7:Type:=((List zI)×EQ×AC×EQ×Int×Int×Int×Int×Int×Int×Int)⊕(Bool×Int×Int×Int×Int×Int×Int×Int×(List zI)×EQ×AC×EQ)
abbrev qRz:Type:=Int→Int→List zI→EQ→AC→EQ→Int→Int→Int→Int→Int→Int→Int→List zC→Option qW7
def Ff (k:Nat)(rec:qRz)(bX bj:Int)(af:List zI)(ah:EQ)(ai:AC)(ag:EQ)(av aB aC aE aG aH aI:Int)(r3:List zC):Option qW7:=
 bif decide (bj < bX) then (bif zB bj r3.length then ((A0 k af ah ai ag [(r3.getD bj.toNat (0,0,0,0,0,0,0))]).bind fun x1=>
   bif !x1 then(rec bX (zA (bj+1)) af ah ai ag av aB aC aE aG aH aI r3)
   else(pL k af ah ai ag [(r3.getD bj.toNat (0,0,0,0,0,0,0))]).bind fun x2=>
   bif decide (x2.2.2.2.2=0) then some (.inr (true,(iw (r3.getD bj.toNat (0,0,0,0,0,0,0)) (fL x2))))
   else rec bX (zA (bj+1)) af ah ai ag av aB aC aE aG aH aI r3)
  else none)
 else some (.inl (af,ah,ai,ag,av,aB,aC,aE,aG,aH,aI))
def JL (k:Nat):Nat→qRz
 |0,_,_,_,_,_,_,_,_,_,_,_,_,_,_=>none
 |n+1,bX,bj,af,ah,ai,ag,av,aB,aC,aE,aG,aH,aI,r3=>Ff k (JL k n) bX bj af ah ai ag av aB aC aE aG aH aI r3
def Oi (k:Nat)(au:List zI)(az:EQ)(ay:AC)(ax:EQ)(a1:List zC)(a2:Int):Option (Int×Int×Int×Int×Int×Int×Int×(List zI)×EQ×AC×EQ×Bool):=
 (Jx k a1 a2).bind fun x0=>
 (JL k k (x0.length:Int) 0 au az ay ax 0 0 0 0 0 0 0 x0).bind fun z=>
 match z with
 |.inl z1=>some (0,0,0,0,0,0,0,(vX z1 false))
 |.inr z2=>some (vCr z2 z2.1)
abbrev qV6:Type:=(List zC)×(List zI)×EQ×AC×EQ×(List zC)
abbrev qOj:Type:=Int→List zC→List zI→EQ→AC→EQ→List zC→Option qV6
def Fh (k:Nat)(rec:qOj)(s2:Int)(s7:List zC)(af:List zI)(ah:EQ)(ai:AC)(ag:EQ)(r1:List zC):Option qV6:=
 (Oi k af ah ai ag s7 s2).bind fun x0=>
 bif !x0.2.2.2.2.2.2.2.2.2.2.2 then some (s7,af,ah,ai,ag,r1)
 else(pM k s7 x0.1).bind fun x1=>
 bif zP (r1.length + 1) 56 then (let y0:List zC:=(r1++[(wM x0)])
  rec s2 x1.1 x0.2.2.2.2.2.2.2.1 x0.2.2.2.2.2.2.2.2.1 x0.2.2.2.2.2.2.2.2.2.1 x0.2.2.2.2.2.2.2.2.2.2.1 y0)
 else none
def JM (k:Nat):Nat→qOj
 |0,_,_,_,_,_,_,_=>none
 |n+1,s2,s7,af,ah,ai,ag,r1=>Fh k (JM k n) s2 s7 af ah ai ag r1
def Oj (k:Nat)(au:List zI)(az:EQ)(ay:AC)(ax:EQ)(a1:List zC)(a2:Int):Option sM:=
 (JM k k a2 a1 au az ay ax []).bind fun z=>
 some (iy z (z.1,z.2.2.2.2.2))
abbrev qUw:Type:=(Int×Int×(List zI)×EQ×AC×EQ×Int×Int×Int×Int×Int×Int×Int×Int×Int×Int×Int×Int×Int×Int×(List zC))⊕yQu
abbrev qXs:Type:=Int→Int→Int→Int→List zI→EQ→AC→EQ→Int→Int→Int→Int→Int→Int→Int→Int→Int→Int→Int→Int→Int→Int→List zC→Int→Int→Int→Int→Int→Int→Int→Option qUw
def Fk (k:Nat)(rec:qXs)(dI cI kg aV:Int)(af:List zI)(ah:EQ)(ai:AC)(ag:EQ)(av aB aC aE aG aH aI cz cB bE aU cg cj cm:Int)(r2:List zC)(cf cX di gU gV gW gX:Int):Option qUw:=
 bif decide (aV < kg) then (bif zB aV r2.length then (bif !(decide ((r2.getD aV.toNat (0,0,0,0,0,0,0)).2.1=di)) then(rec dI cI kg (zA (aV+1)) af ah ai ag av aB aC aE aG aH aI cz cB bE aU cg cj cm r2 cf cX di gU gV gW gX)
   else bif !(decide ((r2.getD aV.toNat (0,0,0,0,0,0,0)).2.2.1=cX)) then(rec dI cI kg (zA (aV+1)) af ah ai ag av aB aC aE aG aH aI cz cB bE aU cg cj cm r2 cf cX di gU gV gW gX)
   else bif decide (cX≥(r2.getD aV.toNat (0,0,0,0,0,0,0)).2.1) then(rec dI cI kg (zA (aV+1)) af ah ai ag av aB aC aE aG aH aI cz cB bE aU cg cj cm r2 cf cX di gU gV gW gX)
   else(A0 k af ah ai ag [(cf,cX,di,gU,gV,gW,gX),(r2.getD aV.toNat (0,0,0,0,0,0,0))]).bind fun x1=>
   bif !x1 then(rec dI cI kg (zA (aV+1)) af ah ai ag av aB aC aE aG aH aI cz cB bE aU cg cj cm r2 cf cX di gU gV gW gX)
   else(pL k af ah ai ag [(cf,cX,di,gU,gV,gW,gX),(r2.getD aV.toNat (0,0,0,0,0,0,0))]).bind fun x2=>
   bif decide (x2.2.2.2.2=0) then some (.inr (true,cf,cX,di,gU,gV,gW,gX,(iw (r2.getD aV.toNat (0,0,0,0,0,0,0)) (fL x2))))
   else rec dI cI kg (zA (aV+1)) af ah ai ag av aB aC aE aG aH aI cz cB bE aU cg cj cm r2 cf cX di gU gV gW gX)
  else none)
 else some (.inl (dI,cI,af,ah,ai,ag,av,aB,aC,aE,aG,aH,aI,cz,cB,bE,aU,cg,cj,cm,r2))
def JN (k:Nat):Nat→qXs
 |0,_,_,_,_,_,_,_,_,_,_,_,_,_,_,_,_,_,_,_,_,_,_,_,_,_,_,_,_,_,_=>none
 |n+1,dI,cI,kg,aV,af,ah,ai,ag,av,aB,aC,aE,aG,aH,aI,cz,cB,bE,aU,cg,cj,cm,r2,cf,cX,di,gU,gV,gW,gX=>Fk k (JN k n) dI cI kg aV af ah ai ag av aB aC aE aG aH aI cz cB bE aU cg cj cm r2 cf cX di gU gV gW gX
abbrev qO9:Type:=(Int×Int×Int×Int×Int×Int×Int×Int×Int×Int×Int×Int×Int×Int)⊕yQu
abbrev qVh:Type:=Int→Int→List zI→EQ→AC→EQ→Int→Int→Int→Int→Int→Int→Int→Int→Int→Int→Int→Int→Int→Int→List zC→Option qO9
def Fl (k:Nat)(rec:qVh)(dI cI:Int)(af:List zI)(ah:EQ)(ai:AC)(ag:EQ)(av aB aC aE aG aH aI cz cB bE aU cg cj cm:Int)(r2:List zC):Option qO9:=
 bif decide (cI < dI) then (bif zB cI r2.length then ((JN k k dI cI (r2.length:Int) 0 af ah ai ag av aB aC aE aG aH aI cz cB bE aU cg cj cm r2 (r2.getD cI.toNat (0,0,0,0,0,0,0)).1 (r2.getD cI.toNat (0,0,0,0,0,0,0)).2.1 (r2.getD cI.toNat (0,0,0,0,0,0,0)).2.2.1 (r2.getD cI.toNat (0,0,0,0,0,0,0)).2.2.2.1 (r2.getD cI.toNat (0,0,0,0,0,0,0)).2.2.2.2.1 (r2.getD cI.toNat (0,0,0,0,0,0,0)).2.2.2.2.2.1 (r2.getD cI.toNat (0,0,0,0,0,0,0)).2.2.2.2.2.2).bind fun z=>
   match z with
   |.inl z1=>rec z1.1 (zA (z1.2.1+1)) z1.2.2.1 z1.2.2.2.1 z1.2.2.2.2.1 z1.2.2.2.2.2.1 z1.2.2.2.2.2.2.1 z1.2.2.2.2.2.2.2.1 z1.2.2.2.2.2.2.2.2.1 z1.2.2.2.2.2.2.2.2.2.1 z1.2.2.2.2.2.2.2.2.2.2.1 z1.2.2.2.2.2.2.2.2.2.2.2.1 z1.2.2.2.2.2.2.2.2.2.2.2.2.1 z1.2.2.2.2.2.2.2.2.2.2.2.2.2.1 z1.2.2.2.2.2.2.2.2.2.2.2.2.2.2.1 z1.2.2.2.2.2.2.2.2.2.2.2.2.2.2.2.1 z1.2.2.2.2.2.2.2.2.2.2.2.2.2.2.2.2.1 z1.2.2.2.2.2.2.2.2.2.2.2.2.2.2.2.2.2.1 z1.2.2.2.2.2.2.2.2.2.2.2.2.2.2.2.2.2.2.1 z1.2.2.2.2.2.2.2.2.2.2.2.2.2.2.2.2.2.2.2.1 z1.2.2.2.2.2.2.2.2.2.2.2.2.2.2.2.2.2.2.2.2
   |.inr z2=>some (.inr (z2.1,z2.2.1,z2.2.2.1,z2.2.2.2.1,z2.2.2.2.2.1,z2.2.2.2.2.2.1,z2.2.2.2.2.2.2.1,z2.2.2.2.2.2.2.2.1,z2.2.2.2.2.2.2.2.2.1,z2.2.2.2.2.2.2.2.2.2.1,z2.2.2.2.2.2.2.2.2.2.2.1,z2.2.2.2.2.2.2.2.2.2.2.2.1,z2.2.2.2.2.2.2.2.2.2.2.2.2.1,z2.2.2.2.2.2.2.2.2.2.2.2.2.2.1,z2.2.2.2.2.2.2.2.2.2.2.2.2.2.2.1,z2.2.2.2.2.2.2.2.2.2.2.2.2.2.2.2.1,z2.2.2.2.2.2.2.2.2.2.2.2.2.2.2.2.2.1,z2.2.2.2.2.2.2.2.2.2.2.2.2.2.2.2.2.2.1,z2.2.2.2.2.2.2.2.2.2.2.2.2.2.2.2.2.2.2)))
  else none)
 else some (.inl (av,aB,aC,aE,aG,aH,aI,cz,cB,bE,aU,cg,cj,cm))
def JP (k:Nat):Nat→qVh
 |0,_,_,_,_,_,_,_,_,_,_,_,_,_,_,_,_,_,_,_,_,_=>none
 |n+1,dI,cI,af,ah,ai,ag,av,aB,aC,aE,aG,aH,aI,cz,cB,bE,aU,cg,cj,cm,r2=>Fl k (JP k n) dI cI af ah ai ag av aB aC aE aG aH aI cz cB bE aU cg cj cm r2
def Om (k:Nat)(au:List zI)(az:EQ)(ay:AC)(ax:EQ)(a1:List zC)(a2:Int):Option (Int×Int×Int×Int×Int×Int×Int×Int×Int×Int×Int×Int×Int×Int×(List zI)×EQ×AC×EQ×Bool):=
 (Jx k a1 a2).bind fun x0=>
 (JP k k (x0.length:Int) 0 au az ay ax 0 0 0 0 0 0 0 0 0 0 0 0 0 0 x0).bind fun z3=>
 match z3 with
 |.inl z4=>some (0,0,0,0,0,0,0,0,0,0,0,0,0,0,[],[],[],[],false)
 |.inr z5=>some (qJd z5 z5.1)
abbrev qIk:Type:=Int×(List zC)×(List zI)×EQ×AC×EQ×(List zC)
abbrev qOt:Type:=Int→List zC→Int→Int→List zI→EQ→AC→EQ→List zC→List zC→Option qIk
def xp (k:Nat)(rec:qOt)(s2:Int)(s7:List zC)(B8 sR:Int)(af:List zI)(ah:EQ)(ai:AC)(ag:EQ)(r1 r2:List zC):Option qIk:=
 bif decide (sR < B8) then (bif zB sR r2.length then ((pM k s7 (r2.getD sR.toNat (0,0,0,0,0,0,0)).1).bind fun x1=>
   bif zP (r1.length + 1) 56 then (let y0:List zC:=(r1++[(r2.getD sR.toNat (0,0,0,0,0,0,0))])
    rec s2 x1.1 B8 (zA (sR+1)) af ah ai ag y0 r2)
   else none)
  else none)
 else some (s2,s7,af,ah,ai,ag,r1)
def xo (k:Nat):Nat→qOt
 |0,_,_,_,_,_,_,_,_,_,_=>none
 |n+1,s2,s7,B8,sR,af,ah,ai,ag,r1,r2=>xp k (xo k n) s2 s7 B8 sR af ah ai ag r1 r2
def Fm (k:Nat)(rec:qOj)(s2:Int)(s7:List zC)(af:List zI)(ah:EQ)(ai:AC)(ag:EQ)(r1:List zC):Option qV6:=
 (Om k af ah ai ag s7 s2).bind fun x0=>
 bif !x0.2.2.2.2.2.2.2.2.2.2.2.2.2.2.2.2.2.2 then some (s7,af,ah,ai,ag,r1)
 else(xo k k s2 s7 2 0 x0.2.2.2.2.2.2.2.2.2.2.2.2.2.2.1 x0.2.2.2.2.2.2.2.2.2.2.2.2.2.2.2.1 x0.2.2.2.2.2.2.2.2.2.2.2.2.2.2.2.2.1 x0.2.2.2.2.2.2.2.2.2.2.2.2.2.2.2.2.2.1 r1 [(wM x0),(qRh x0)]).bind fun z=>
 rec z.1 z.2.1 z.2.2.1 z.2.2.2.1 z.2.2.2.2.1 z.2.2.2.2.2.1 z.2.2.2.2.2.2
def JQ (k:Nat):Nat→qOj
 |0,_,_,_,_,_,_,_=>none
 |n+1,s2,s7,af,ah,ai,ag,r1=>Fm k (JQ k n) s2 s7 af ah ai ag r1
def On (k:Nat)(au:List zI)(az:EQ)(ay:AC)(ax:EQ)(a1:List zC)(a2:Int):Option sM:=
 (JQ k k a2 a1 au az ay ax []).bind fun z1=>
 some (iy z1 (z1.1,z1.2.2.2.2.2))
def Ox (k:Nat)(rec:qOj)(s2:Int)(s7:List zC)(af:List zI)(ah:EQ)(ai:AC)(ag:EQ)(r1:List zC):Option qV6:=
 (Oj k af ah ai ag s7 s2).bind fun x0=>
 (On k x0.1 x0.2.1 x0.2.2.1 x0.2.2.2.1 x0.2.2.2.2.1 s2).bind fun x1=>
 bif zP (r1.length + x0.2.2.2.2.2.length) 56 then (bif zP ((r1 ++ x0.2.2.2.2.2).length + x1.2.2.2.2.2.length) 56 then (let y0:List zC:=((r1++x0.2.2.2.2.2)++x1.2.2.2.2.2)
   bif decide ((x1.2.2.2.2.2.length:Int)=0) then some (x1.2.2.2.2.1,(vX x1 y0))
   else rec s2 x1.2.2.2.2.1 x1.1 x1.2.1 x1.2.2.1 x1.2.2.2.1 y0)
  else none)
 else none
def JX (k:Nat):Nat→qOj
 |0,_,_,_,_,_,_,_=>none
 |n+1,s2,s7,af,ah,ai,ag,r1=>Ox k (JX k n) s2 s7 af ah ai ag r1
def JY (k:Nat)(au:List zI)(az:EQ)(ay:AC)(ax:EQ)(a1:List zC)(a2:Int):Option sM:=
 (JX k k a2 a1 au az ay ax []).bind fun z=>
 some (iy z (z.1,z.2.2.2.2.2))
def VE (k:Nat)(a0:AC):Option AC:=
 bif zP (0+a0.length) 8 then some a0
 else none
def VG (k:Nat)(cc bc bB cp bO bZ bS:Int)(a1:AC):Option (Bool×AC):=
 bif decide (bc<0) then some (false,a1)
 else bif decide (bc≥(a1.length:Int)) then some (false,a1)
 else bif zB bc a1.length then (bif decide ((a1.getD bc.toNat 0)<1) then some (false,a1)
  else bif zB bc a1.length then (bif zB bc a1.length then some (true,(a1.set bc.toNat (zA ((a1.getD bc.toNat 0)-1))))
   else none)
  else none)
 else none
abbrev qTn:Type:=AC×(List zC)
abbrev qXg:Type:=List zC→Int→Int→AC→List zC→Option qTn
def Fs (k:Nat)(rec:qXg)(s8:List zC)(s9 aw:Int)(r1:AC)(r2:List zC):Option qTn:=
 bif decide (aw < s9) then (bif zB aw s8.length then ((VG k (s8.getD aw.toNat (0,0,0,0,0,0,0)).1 (s8.getD aw.toNat (0,0,0,0,0,0,0)).2.1 (s8.getD aw.toNat (0,0,0,0,0,0,0)).2.2.1 (s8.getD aw.toNat (0,0,0,0,0,0,0)).2.2.2.1 (s8.getD aw.toNat (0,0,0,0,0,0,0)).2.2.2.2.1 (s8.getD aw.toNat (0,0,0,0,0,0,0)).2.2.2.2.2.1 (s8.getD aw.toNat (0,0,0,0,0,0,0)).2.2.2.2.2.2 r1).bind fun x0=>
   bif x0.1 then (bif zP (r2.length + 1) 56 then (let y0:List zC:=(r2++[(s8.getD aw.toNat (0,0,0,0,0,0,0))])
     rec s8 s9 (zA (aw+1)) x0.2 y0)
    else none)
   else rec s8 s9 (zA (aw+1)) x0.2 r2)
  else none)
 else some (r1,r2)
def Fq (k:Nat):Nat→qXg
 |0,_,_,_,_,_=>none
 |n+1,s8,s9,aw,r1,r2=>Fs k (Fq k n) s8 s9 aw r1 r2
def VF (k:Nat)(a0:List zC)(cU:AC):Option ((List zC)×AC):=
 (Fq k k a0 (a0.length:Int) 0 cU []).bind fun z=>
 some (z.2,z.1)
def Fp (k:Nat)(a0:List zC)(a1:AC):Option (List zC):=
 (VE k a1).bind fun x0=>
 (VF k a0 x0).bind fun x1=>
 some x1.1
abbrev qI4:Type:=Int×(List zI)×EQ×AC×EQ×AC×(List zC)
abbrev qJg:Type:=Int→Int→Int→List zI→EQ→AC→EQ→AC→List zC→Option qI4
def Fu (k:Nat)(rec:qJg)(s7 kT dI:Int)(af:List zI)(ah:EQ)(ai:AC)(ag:EQ)(r1:AC)(r2:List zC):Option qI4:=
 bif decide (dI < kT) then ((JU k r2 dI).bind fun x1=>
  bif zP (r1.length+1) 8 then(rec s7 kT (zA (dI+1)) af ah ai ag (r1++[(x1.length:Int)]) r2)
  else none)
 else some (s7,af,ah,ai,ag,r1,r2)
def Bc (k:Nat):Nat→qJg
 |0,_,_,_,_,_,_,_,_,_=>none
 |n+1,s7,kT,dI,af,ah,ai,ag,r1,r2=>Fu k (Bc k n) s7 kT dI af ah ai ag r1 r2
abbrev qTi:Type:=Int→Int→Int→List zI→EQ→AC→EQ→AC→List zC→AC→Option qI4
def Fw (k:Nat)(rec:qTi)(s7 Q5 nY:Int)(af:List zI)(ah:EQ)(ai:AC)(ag:EQ)(r1:AC)(r2:List zC)(r3:AC):Option qI4:=
 bif decide (nY < Q5) then (bif zB nY r3.length then (bif zB (r3.getD nY.toNat 0) r1.length then (bif zB (r3.getD nY.toNat 0) r1.length then (let y0:AC:=(r1.set (r3.getD nY.toNat 0).toNat (zA ((r1.getD (r3.getD nY.toNat 0).toNat 0)-1)))
     rec s7 Q5 (zA (nY+1)) af ah ai ag y0 r2 r3)
    else none)
   else none)
  else none)
 else some (s7,af,ah,ai,ag,r1,r2)
def Fv (k:Nat):Nat→qTi
 |0,_,_,_,_,_,_,_,_,_,_=>none
 |n+1,s7,Q5,nY,af,ah,ai,ag,r1,r2,r3=>Fw k (Fv k n) s7 Q5 nY af ah ai ag r1 r2 r3
abbrev qJz:Type:=Int→List zI→EQ→AC→EQ→AC→List zC→Option (Int×AC)
def Fx (k:Nat)(rec:qJz)(s7:Int)(af:List zI)(ah:EQ)(ai:AC)(ag:EQ)(r1:AC)(r2:List zC):Option (Int×AC):=
 (Fp k r2 r1).bind fun x2=>
 (AZ k af ah ai ag x2).bind fun x3=>
 bif decide ((x3.length:Int)=0) then some ((zA (s7+1)),r1)
 else(Fv k k (zA (s7+1)) (x3.length:Int) 0 af ah ai ag r1 r2 x3).bind fun z1=>
 rec z1.1 z1.2.1 z1.2.2.1 z1.2.2.2.1 z1.2.2.2.2.1 z1.2.2.2.2.2.1 z1.2.2.2.2.2.2
def JW (k:Nat):Nat→qJz
 |0,_,_,_,_,_,_,_=>none
 |n+1,s7,af,ah,ai,ag,r1,r2=>Fx k (JW k n) s7 af ah ai ag r1 r2
def Ou (k:Nat)(au:List zI)(az:EQ)(ay:AC)(ax:EQ)(a1:List zC)(a2:Int):Option (AC×Int):=
 (EE k a1 a2).bind fun x0=>
 (Bc k k 0 (au.length:Int) 0 au az ay ax [] x0).bind fun z=>
 (JW k k z.1 z.2.1 z.2.2.1 z.2.2.2.1 z.2.2.2.2.1 z.2.2.2.2.2.1 z.2.2.2.2.2.2).bind fun z2=>
 some (z2.2,z2.1)
abbrev qMy:Type:=List zC→Int→Int→List zI→EQ→AC→EQ→List zC→Option qV6
def Fy (k:Nat)(rec:qMy)(s7:List zC)(lv gw:Int)(af:List zI)(ah:EQ)(ai:AC)(ag:EQ)(r1:List zC):Option qV6:=
 bif decide (gw < lv) then (bif zB gw r1.length then ((pM k s7 (r1.getD gw.toNat (0,0,0,0,0,0,0)).1).bind fun x4=>
   rec x4.1 lv (zA (gw+1)) af ah ai ag r1)
  else none)
 else some (s7,af,ah,ai,ag,r1)
def Bd (k:Nat):Nat→qMy
 |0,_,_,_,_,_,_,_,_=>none
 |n+1,s7,lv,gw,af,ah,ai,ag,r1=>Fy k (Bd k n) s7 lv gw af ah ai ag r1
def Be (k:Nat)(au:List zI)(az:EQ)(ay:AC)(ax:EQ)(a1:List zC)(a2:Int):Option sM:=
 (Ou k au az ay ax a1 a2).bind fun x0=>
 (EE k a1 a2).bind fun x1=>
 (Fp k x1 x0.1).bind fun x2=>
 (pL k au az ay ax x2).bind fun x3=>
 bif !(decide (x3.2.2.2.2=0)) then some (au,az,ay,ax,a1,[])
 else(Bd k k a1 (x2.length:Int) 0 x3.1 x3.2.1 x3.2.2.1 x3.2.2.2.1 x2).bind fun z=>
 some (iy z (z.1,z.2.2.2.2.2))
def uv (k:Nat)(au:List zI)(az:EQ)(ay:AC)(ax:EQ)(a1:List zC)(a2:Int)(a3:Bool):Option sM:=
 (JY k au az ay ax a1 a2).bind fun x0=>
 bif !a3 then some (x0.1,x0.2.1,x0.2.2.1,x0.2.2.2.1,x0.2.2.2.2.1,x0.2.2.2.2.2)
 else(Be k x0.1 x0.2.1 x0.2.2.1 x0.2.2.2.1 x0.2.2.2.2.1 a2).bind fun x1=>
 bif decide ((x1.2.2.2.2.2.length:Int)=0) then some (qd x1 x0.2.2.2.2.2)
 else(JY k x1.1 x1.2.1 x1.2.2.1 x1.2.2.2.1 x1.2.2.2.2.1 a2).bind fun x2=>
 bif zP (x0.2.2.2.2.2.length + x1.2.2.2.2.2.length) 56 then (bif zP ((x0.2.2.2.2.2 ++ x1.2.2.2.2.2).length + x2.2.2.2.2.2.length) 56 then (let y0:List zC:=((x0.2.2.2.2.2++x1.2.2.2.2.2)++x2.2.2.2.2.2)
   some (qd x2 y0))
  else none)
 else none
abbrev qMj:Type:=(List zC)×Int×Int×(List qS)
abbrev qK8:Type:=List zC→Int→Int→Int→Int→List qS→Int→Int→Int→Int→Int→Int→Int→AC→Option qMj
def xx (k:Nat)(rec:qK8)(s8:List zC)(s9 aw dI cI:Int)(r0:List qS)(av aB aC aE aG aH aI:Int)(r2:AC):Option qMj:=
 bif decide (cI < dI) then (bif zB cI r2.length then ((pR k (r2.getD cI.toNat 0) 18 [av,aB,aC,aE]).bind fun x0=>
   bif zP (r0.length+1) 64 then(rec s8 s9 aw dI (zA (cI+1)) (r0++[x0]) av aB aC aE aG aH aI r2)
   else none)
  else none)
 else some (s8,s9,aw,r0)
def xw (k:Nat):Nat→qK8
 |0,_,_,_,_,_,_,_,_,_,_,_,_,_,_=>none
 |n+1,s8,s9,aw,dI,cI,r0,av,aB,aC,aE,aG,aH,aI,r2=>xx k (xw k n) s8 s9 aw dI cI r0 av aB aC aE aG aH aI r2
abbrev qHv:Type:=List qS
abbrev qKt:Type:=List zC→Int→Int→List qS→Option qHv
def FA (k:Nat)(rec:qKt)(s8:List zC)(s9 aw:Int)(r0:List qS):Option qHv:=
 bif decide (aw < s9) then (bif zB aw s8.length then ((xw k k s8 s9 aw 2 0 r0 (s8.getD aw.toNat (0,0,0,0,0,0,0)).1 (s8.getD aw.toNat (0,0,0,0,0,0,0)).2.1 (s8.getD aw.toNat (0,0,0,0,0,0,0)).2.2.1 (s8.getD aw.toNat (0,0,0,0,0,0,0)).2.2.2.1 (s8.getD aw.toNat (0,0,0,0,0,0,0)).2.2.2.2.1 (s8.getD aw.toNat (0,0,0,0,0,0,0)).2.2.2.2.2.1 (s8.getD aw.toNat (0,0,0,0,0,0,0)).2.2.2.2.2.2 [(s8.getD aw.toNat (0,0,0,0,0,0,0)).2.1,(s8.getD aw.toNat (0,0,0,0,0,0,0)).2.2.1]).bind fun z=>
   rec z.1 z.2.1 (zA (z.2.2.1+1)) z.2.2.2)
  else none)
 else some r0
def JZ (k:Nat):Nat→qKt
 |0,_,_,_,_=>none
 |n+1,s8,s9,aw,r0=>FA k (JZ k n) s8 s9 aw r0
def Oy (k:Nat)(a0:List zC):Option (List qS):=
 (JZ k k a0 (a0.length:Int) 0 []).bind fun z1=>
 some z1
def oU (k:Nat)(mg:Int)(qe:List zI)(qg:EQ)(qh:AC)(qi:EQ)(ql:AC)(qm:EQ)(mh:List zC)(qn:AC)(qo:Int)(qp a1:Bool):Option QY:=
 (uv k qe qg qh qi mh mg a1).bind fun x0=>
 (Oy k x0.2.2.2.2.2).bind fun x1=>
 some (mg,(vX x0 (ql,qm,x0.2.2.2.2.1,qn,qo,qp,x1)))
abbrev qPp:Type:=Int×(List vU)×Int×Int×Int×Int×(List zI)×EQ×AC×EQ×AC×EQ×(List zC)×AC×Int×Bool×Int×Int×Bool×(List qS)×(List zC)
abbrev qJf:Type:=List zC→Int→Int→Int→List vU→Int→Int→Int→Int→List zI→EQ→AC→EQ→AC→EQ→List zC→AC→Int→Bool→Int→Int→Bool→List qS→List zC→Option qPp
def FI (k:Nat)(rec:qJf)(fx:List zC)(lz fy af:Int)(ah:List vU)(ai ag aY av:Int)(aB:List zI)(aC:EQ)(aE:AC)(aG:EQ)(aH:AC)(aI:EQ)(cz:List zC)(cB:AC)(bE:Int)(aU:Bool)(aZ qu:Int)(kV:Bool)(r3:List qS)(r4:List zC):Option qPp:=
 bif decide (fy < lz) then (bif zB fy fx.length then ((VQ k (fx.getD fy.toNat (0,0,0,0,0,0,0)).1 (fx.getD fy.toNat (0,0,0,0,0,0,0)).2.1 (fx.getD fy.toNat (0,0,0,0,0,0,0)).2.2.1 (fx.getD fy.toNat (0,0,0,0,0,0,0)).2.2.2.1 (fx.getD fy.toNat (0,0,0,0,0,0,0)).2.2.2.2.1 (fx.getD fy.toNat (0,0,0,0,0,0,0)).2.2.2.2.2.1 (fx.getD fy.toNat (0,0,0,0,0,0,0)).2.2.2.2.2.2 av).bind fun x2=>
   bif x2 then ((pR k (fx.getD fy.toNat (0,0,0,0,0,0,0)).2.1 21 [(fx.getD fy.toNat (0,0,0,0,0,0,0)).1]).bind fun x3=>
    bif zP (r3.length+1) 64 then(rec fx lz (zA (fy+1)) af ah ai ag aY av aB aC aE aG aH aI cz cB bE aU aZ qu kV (r3++[x3]) r4)
    else none)
   else bif zP (r4.length + 1) 56 then (let y0:List zC:=(r4++[(fx.getD fy.toNat (0,0,0,0,0,0,0))])
    rec fx lz (zA (fy+1)) af ah ai ag aY av aB aC aE aG aH aI cz cB bE aU aZ qu kV r3 y0)
   else none)
  else none)
 else some (af,ah,ai,ag,aY,av,aB,aC,aE,aG,aH,aI,cz,cB,bE,aU,aZ,qu,kV,r3,r4)
def FH (k:Nat):Nat→qJf
 |0,_,_,_,_,_,_,_,_,_,_,_,_,_,_,_,_,_,_,_,_,_,_,_,_=>none
 |n+1,fx,lz,fy,af,ah,ai,ag,aY,av,aB,aC,aE,aG,aH,aI,cz,cB,bE,aU,aZ,qu,kV,r3,r4=>FI k (FH k n) fx lz fy af ah ai ag aY av aB aC aE aG aH aI cz cB bE aU aZ qu kV r3 r4
def uw (k:Nat)(df:Int)(dO:List vU)(dP dh cd je:Int)(cC:List zI)(dz:EQ)(dA:AC)(dB:EQ)(fR:AC)(jg:EQ)(fS:List zC)(qw:AC)(jh:Int)(jk:Bool):Option QY:=
 bif jk then some (je,cC,dz,dA,dB,fR,jg,fS,qw,jh,jk,[])
 else(Bi k df dO dP dh cd (zA (je+1))).bind fun x0=>
 bif x0 then ((OB k (zA (je+1)) cC dz dA dB fR jg fS qw jh jk).bind fun x1=>
  some (x1.1,x1.2.1,x1.2.2.1,x1.2.2.2.1,x1.2.2.2.2.1,x1.2.2.2.2.2.1,x1.2.2.2.2.2.2.1,x1.2.2.2.2.2.2.2.1,x1.2.2.2.2.2.2.2.2.1,x1.2.2.2.2.2.2.2.2.2.1,x1.2.2.2.2.2.2.2.2.2.2.1,x1.2.2.2.2.2.2.2.2.2.2.2))
 else(FH k k fS (fS.length:Int) 0 df dO dP dh cd (zA (je+1)) cC dz dA dB fR jg fS qw jh jk 0 0 false [] []).bind fun z=>
 (FJ k z.1 z.2.1 z.2.2.1 z.2.2.2.1 z.2.2.2.2.1 z.2.2.2.2.2.1).bind fun x4=>
 (oU k z.2.2.2.2.2.1 z.2.2.2.2.2.2.1 z.2.2.2.2.2.2.2.1 z.2.2.2.2.2.2.2.2.1 z.2.2.2.2.2.2.2.2.2.1 z.2.2.2.2.2.2.2.2.2.2.1 z.2.2.2.2.2.2.2.2.2.2.2.1 z.2.2.2.2.2.2.2.2.2.2.2.2.2.2.2.2.2.2.2.2 z.2.2.2.2.2.2.2.2.2.2.2.2.2.1 z.2.2.2.2.2.2.2.2.2.2.2.2.2.2.1 z.2.2.2.2.2.2.2.2.2.2.2.2.2.2.2.1 x4).bind fun x5=>
 bif zP (z.2.2.2.2.2.2.2.2.2.2.2.2.2.2.2.2.2.2.2.1.length + x5.2.2.2.2.2.2.2.2.2.2.2.length) 64 then (let y1:List qS:=(z.2.2.2.2.2.2.2.2.2.2.2.2.2.2.2.2.2.2.2.1++x5.2.2.2.2.2.2.2.2.2.2.2)
  some (yi x5 y1))
 else none
def yD5 (k:Nat)(a0:lu)(a1:Lr):Option (Int×jH):=
 (vH k a1.2.1 0 (zA (a0.1-1))).bind fun x0=>
 bif !x0 then some (1,(vT a0 []))
 else(vH k a1.2.2.2.1 1 3).bind fun x1=>
 bif !x1 then some (1,(vT a0 []))
 else(FK k (yZ a0) a0.2.2.2.2.2.1 (a1.1,a0.2.2.2.2.2.2.2.2.2.2.2.2.2.2.2.2,a1.2)).bind fun x2=>
 bif !(decide (x2=0)) then some (x2,(vT a0 []))
 else(E3 k a0.2.2.2.2.2.2.2.2.2.2.2.2.2.1 a1.1).bind fun x3=>
 bif !(decide (x3.2=0)) then some (x3.2,(vT a0 []))
 else(xk k a0.2.2.2.2.2.2.2.2.2.2.2.2.1 (a1.1,a0.2.2.2.2.2.2.2.2.2.2.2.2.2.2.2.2,a1.2)).bind fun x4=>
 bif !(decide (x4.2=0)) then some (x4.2,(vT a0 []))
 else some (0,(kf a0 (x4.1,x3.1,a0.2.2.2.2.2.2.2.2.2.2.2.2.2.2.1,a0.2.2.2.2.2.2.2.2.2.2.2.2.2.2.2.1,a0.2.2.2.2.2.2.2.2.2.2.2.2.2.2.2.2,[])))
def Qo (k:Nat)(a0:lu)(a1:zC):Option (Int×jH):=
 (YV k (vT a0 []) a1.2.1).bind fun x0=>
 bif !(decide (x0.2=0)) then some (x0.2,(vT a0 []))
 else bif decide (a1.1 = 2) then ((pM k a0.2.2.2.2.2.2.2.2.2.2.2.2.1 a1.2.1).bind fun x1=>
  (KH k (kf a0 (x1.1,a0.2.2.2.2.2.2.2.2.2.2.2.2.2)) 20 [a1.2.1]).bind fun x2=>
  some (x1.2.2.2.2.2.2.2.2,x2))
 else bif decide (a1.1 = 4) then ((vH k a1.2.2.1 1 3).bind fun x3=>
  bif !x3 then some (1,(vT a0 []))
  else(Bj k (yZ a0) a0.2.2.2.2.2.1 a1.2.2.1).bind fun x4=>
  bif !(decide (x4=0)) then some (x4,(vT a0 []))
  else(EY k a0.2.2.2.2.2.2.2.2.2.2.2.2.1 a1.2.1 a1.2.2.1).bind fun x5=>
  some (x5.2,(kf a0 (x5.1,(qOg a0 [])))))
 else bif decide (a1.2.2.1 = 0) then ((E1 k a0.2.2.2.2.2.2.2.2.2.2.2.2.1 a1.2.1).bind fun x6=>
  some (x6.2,(kf a0 (x6.1,(qOg a0 [])))))
 else bif decide (a1.2.2.1 = 1) then ((EZ k a0.2.2.2.2.2.2.2.2.2.2.2.2.1 a1.2.1).bind fun x7=>
  some (x7.2,(kf a0 (x7.1,(qOg a0 [])))))
 else some (1,(vT a0 []))
def Qp (k:Nat)(a0:lu)(a1:zC):Option (Int×jH):=
 (gk k a0.2.2.2.2.2.2.1 a0.2.2.2.2.2.2.2.1 a0.2.2.2.2.2.2.2.2.1 a0.2.2.2.2.2.2.2.2.2.1).bind fun x0=>
 bif decide (a1.1 = 5) then ((Y4 k (vT a0 []) a1.2.1).bind fun x1=>
  bif !x1 then some (1,(vT a0 []))
  else(vH k a1.2.2.1 (-1) 1152921504606846976).bind fun x2=>
  bif !x2 then some (1,(vT a0 []))
  else bif zB a0.2.2.2.2.2.2.2.2.2.2.2.2.2.2.2.2 x0.2.1.length then (bif zB a1.2.1 (x0.2.1.getD a0.2.2.2.2.2.2.2.2.2.2.2.2.2.2.2.2.toNat []).length then (let y0:EQ:=(x0.2.1.set a0.2.2.2.2.2.2.2.2.2.2.2.2.2.2.2.2.toNat ((x0.2.1.getD a0.2.2.2.2.2.2.2.2.2.2.2.2.2.2.2.2.toNat []).set a1.2.1.toNat a1.2.2.1))
    some (0,(jN a0 (x0.1,y0,x0.2.2.1,x0.2.2.2,(qKp a0 [])))))
   else none)
  else none)
 else bif decide (a1.1 = 6) then ((vH k a1.2.1 (-1) 1152921504606846976).bind fun x3=>
  bif !x3 then some (1,(vT a0 []))
  else bif zB a0.2.2.2.2.2.2.2.2.2.2.2.2.2.2.2.2 x0.2.2.1.length then (let y1:AC:=(x0.2.2.1.set a0.2.2.2.2.2.2.2.2.2.2.2.2.2.2.2.2.toNat a1.2.1)
   some (0,(jN a0 (x0.1,x0.2.1,y1,x0.2.2.2,(qKp a0 [])))))
  else none)
 else(vH k a1.2.1 0 1152921504606846976).bind fun x4=>
 bif !x4 then some (1,(vT a0 []))
 else bif zB a0.2.2.2.2.2.2.2.2.2.2.2.2.2.2.2.2 x0.1.length then (let y2:List zI:=(x0.1.set a0.2.2.2.2.2.2.2.2.2.2.2.2.2.2.2.2.toNat ((x0.1.getD a0.2.2.2.2.2.2.2.2.2.2.2.2.2.2.2.2.toNat (0,0,0)).1,(x0.1.getD a0.2.2.2.2.2.2.2.2.2.2.2.2.2.2.2.2.toNat (0,0,0)).2.1,a1.2.1))
  some (0,(jN a0 (y2,x0.2.1,x0.2.2.1,x0.2.2.2,(qKp a0 [])))))
 else none
def yW2 (k:Nat)(a0:lu)(a1 a2:Int):Option (Int×jH):=
 (Lb k (vT a0 []) a1).bind fun x0=>
 bif !x0 then some (1,(vT a0 []))
 else(vH k a2 0 1099511627776).bind fun x1=>
 bif !x1 then some (1,(vT a0 []))
 else(FL k a0.2.2.2.2.2.2.2.2.2.2.2.1).bind fun x2=>
 bif zB a0.2.2.2.2.2.2.2.2.2.2.2.2.2.2.2.2 x2.length then ((pP k (x2.getD a0.2.2.2.2.2.2.2.2.2.2.2.2.2.2.2.2.toNat []) a1 a2).bind fun x3=>
  bif zB a0.2.2.2.2.2.2.2.2.2.2.2.2.2.2.2.2 x2.length then (let y0:EQ:=(x2.set a0.2.2.2.2.2.2.2.2.2.2.2.2.2.2.2.2.toNat x3)
   bif zB a0.2.2.2.2.2.2.2.2.2.2.2.2.2.2.2.2 y0.length then ((so k a0.2.1 a0.2.2.2.2.2.2.2.2.2.2.1 (y0.getD a0.2.2.2.2.2.2.2.2.2.2.2.2.2.2.2.2.toNat [])).bind fun x4=>
    bif zB a0.2.2.2.2.2.2.2.2.2.2.2.2.2.2.2.2 a0.2.2.2.2.2.2.1.length then (bif !x4.2 then some (8,(vT a0 []))
     else bif decide (x4.1>1152921504606846976) then some (8,(vT a0 []))
     else bif decide (x4.1 < (a0.2.2.2.2.2.2.1.getD a0.2.2.2.2.2.2.2.2.2.2.2.2.2.2.2.2.toNat (0, 0, 0)).2.1) then (bif decide ((zA ((a0.2.2.2.2.2.2.1.getD a0.2.2.2.2.2.2.2.2.2.2.2.2.2.2.2.2.toNat (0,0,0)).1+x4.1))<0) then some (9,(vT a0 []))
      else(gk k a0.2.2.2.2.2.2.1 a0.2.2.2.2.2.2.2.1 a0.2.2.2.2.2.2.2.2.1 a0.2.2.2.2.2.2.2.2.2.1).bind fun x5=>
      bif zB a0.2.2.2.2.2.2.2.2.2.2.2.2.2.2.2.2 x5.1.length then (let y1:List zI:=(x5.1.set a0.2.2.2.2.2.2.2.2.2.2.2.2.2.2.2.2.toNat ((x5.1.getD a0.2.2.2.2.2.2.2.2.2.2.2.2.2.2.2.2.toNat (0,0,0)).1,x4.1,(x5.1.getD a0.2.2.2.2.2.2.2.2.2.2.2.2.2.2.2.2.toNat (0,0,0)).2.2))
       some (0,(jN a0 (y1,x5.2.1,x5.2.2.1,x5.2.2.2,a0.2.2.2.2.2.2.2.2.2.2.1,y0,(yEj a0 [])))))
      else none)
     else(gk k a0.2.2.2.2.2.2.1 a0.2.2.2.2.2.2.2.1 a0.2.2.2.2.2.2.2.2.1 a0.2.2.2.2.2.2.2.2.2.1).bind fun x6=>
     bif zB a0.2.2.2.2.2.2.2.2.2.2.2.2.2.2.2.2 x6.1.length then (let y2:List zI:=(x6.1.set a0.2.2.2.2.2.2.2.2.2.2.2.2.2.2.2.2.toNat ((x6.1.getD a0.2.2.2.2.2.2.2.2.2.2.2.2.2.2.2.2.toNat (0,0,0)).1,x4.1,(x6.1.getD a0.2.2.2.2.2.2.2.2.2.2.2.2.2.2.2.2.toNat (0,0,0)).2.2))
      some (0,(jN a0 (y2,x6.2.1,x6.2.2.1,x6.2.2.2,a0.2.2.2.2.2.2.2.2.2.2.1,y0,(yEj a0 [])))))
     else none)
    else none)
   else none)
  else none)
 else none
def Bq (k:Nat)(a0:lu)(a1 a2 a3:Int):Option (Int×jH):=
 (vH k a2 0 (zA (a0.1-1))).bind fun x0=>
 bif !x0 then some (1,(vT a0 []))
 else(vH k a3 1 1099511627776).bind fun x1=>
 bif !x1 then some (1,(vT a0 []))
 else bif zB a2 a0.2.2.2.2.2.2.1.length then ((F7 k (a0.2.2.2.2.2.2.1.getD a2.toNat (0,0,0)) a3).bind fun x2=>
  bif decide (a1 = 11) then ((F8 k (a0.2.2.2.2.2.2.1.getD a2.toNat (0,0,0)) a3 3).bind fun x3=>
   (F9 k (a0.2.2.2.2.2.2.1.getD a2.toNat (0,0,0)) 3).bind fun x4=>
   bif decide (x4<a3) then some (9,(vT a0 []))
   else bif decide ((zA (a0.2.2.2.2.2.2.2.2.2.2.2.2.2.2.1-a3))<0) then some (9,(vT a0 []))
   else bif !(decide (x3.2=0)) then some (x3.2,(vT a0 []))
   else bif decide ((zA (a0.2.2.2.2.2.2.2.2.2.2.2.2.2.2.1-a3))>1152921504606846976) then some (8,(vT a0 []))
   else(gk k a0.2.2.2.2.2.2.1 a0.2.2.2.2.2.2.2.1 a0.2.2.2.2.2.2.2.2.1 a0.2.2.2.2.2.2.2.2.2.1).bind fun x5=>
   bif zB a2 x5.1.length then some (0,(jN a0 ((x5.1.set a2.toNat x3.1),x5.2.1,x5.2.2.1,x5.2.2.2,(G9 a0 ((zA (a0.2.2.2.2.2.2.2.2.2.2.2.2.2.2.1-a3)),a0.2.2.2.2.2.2.2.2.2.2.2.2.2.2.2.1,a0.2.2.2.2.2.2.2.2.2.2.2.2.2.2.2.2,[])))))
   else none)
  else bif !(decide (x2.2=0)) then some (x2.2,(vT a0 []))
  else bif decide ((zA (a0.2.2.2.2.2.2.2.2.2.2.2.2.2.2.1+a3))>1152921504606846976) then some (8,(vT a0 []))
  else(gk k a0.2.2.2.2.2.2.1 a0.2.2.2.2.2.2.2.1 a0.2.2.2.2.2.2.2.2.1 a0.2.2.2.2.2.2.2.2.2.1).bind fun x6=>
  bif zB a2 x6.1.length then some (0,(jN a0 ((x6.1.set a2.toNat x2.1),x6.2.1,x6.2.2.1,x6.2.2.2,(G9 a0 ((zA (a0.2.2.2.2.2.2.2.2.2.2.2.2.2.2.1+a3)),a0.2.2.2.2.2.2.2.2.2.2.2.2.2.2.2.1,a0.2.2.2.2.2.2.2.2.2.2.2.2.2.2.2.2,[])))))
  else none)
 else none
abbrev qYf:Type:=(lu×AC×(List zI)×EQ×AC×EQ)⊕(Int×lu)
abbrev qS3:Type:=EQ→Int→Int→lu→AC→List zI→EQ→AC→EQ→Option qYf
def Ga (k:Nat)(rec:qS3)(gw:EQ)(iW kU:Int)(b0:lu)(r1:AC)(r3:List zI)(m4:EQ)(r5:AC)(m6:EQ):Option qYf:=
 bif decide (kU < iW) then (bif zB kU gw.length then ((so k b0.2.1 r1 (gw.getD kU.toNat [])).bind fun x4=>
   bif !x4.2 then some (.inr (8,b0))
   else bif decide (x4.1>1152921504606846976) then some (.inr (8,b0))
   else bif zB kU r3.length then (let y0:List zI:=(r3.set kU.toNat ((r3.getD kU.toNat (0,0,0)).1,x4.1,(r3.getD kU.toNat (0,0,0)).2.2))
    rec gw iW (zA (kU+1)) b0 r1 y0 m4 r5 m6)
   else none)
  else none)
 else some (.inl (b0,r1,r3,m4,r5,m6))
def uE (k:Nat):Nat→qS3:=yS (fun _ _ _ _ _ _ _ _ _=>none) (Ga k)
def O8 (k:Nat)(a0:lu)(a1 a2:Int):Option (Int×jH):=
 (Lb k (vT a0 []) a1).bind fun x0=>
 bif !x0 then some (1,(vT a0 []))
 else(vH k a2 0 1048576).bind fun x1=>
 bif !x1 then some (1,(vT a0 []))
 else(pP k a0.2.2.2.2.2.2.2.2.2.2.1 a1 a2).bind fun x2=>
 (gk k a0.2.2.2.2.2.2.1 a0.2.2.2.2.2.2.2.1 a0.2.2.2.2.2.2.2.2.1 a0.2.2.2.2.2.2.2.2.2.1).bind fun x3=>
 (uE k k a0.2.2.2.2.2.2.2.2.2.2.2.1 (a0.2.2.2.2.2.2.2.2.2.2.2.1.length:Int) 0 a0 x2 x3.1 x3.2.1 x3.2.2.1 x3.2.2.2).bind fun z=>
 match z with
 |.inl z1=>some (0,(jN z1.1 (Bt z1 (z1.2.1,(Wr z1.1 [])))))
 |.inr z2=>some (jI z2 [])
def xS (k:Nat)(a0:lu)(a1:zC):Option (Int×jH):=
 bif decide (a1.1 = 1) then ((yD5 k a0 a1.2).bind fun x0=>
  some (x0.1,x0.2))
 else bif decide (a1.1 = 2) then ((Qo k a0 a1).bind fun x1=>
  some (x1.1,x1.2))
 else bif decide (a1.1 = 3) then ((Qo k a0 a1).bind fun x2=>
  some (x2.1,x2.2))
 else bif decide (a1.1 = 4) then ((Qo k a0 a1).bind fun x3=>
  some (x3.1,x3.2))
 else bif decide (a1.1 = 5) then ((Qp k a0 a1).bind fun x4=>
  some (x4.1,x4.2))
 else bif decide (a1.1 = 6) then ((Qp k a0 a1).bind fun x5=>
  some (x5.1,x5.2))
 else bif decide (a1.1 = 7) then ((Qp k a0 a1).bind fun x6=>
  some (x6.1,x6.2))
 else bif decide (a1.1 = 8) then ((yW2 k a0 a1.2.1 a1.2.2.1).bind fun x7=>
  some (x7.1,x7.2))
 else bif decide (a1.1 = 10) then ((Bq k a0 a1.1 a1.2.1 a1.2.2.1).bind fun x8=>
  some (x8.1,x8.2))
 else bif decide (a1.1 = 11) then ((Bq k a0 a1.1 a1.2.1 a1.2.2.1).bind fun x9=>
  some (x9.1,x9.2))
 else bif decide (a1.1 = 12) then ((O8 k a0 a1.2.1 a1.2.2.1).bind fun dm=>
  some (dm.1,dm.2))
 else some (0,(vT a0 []))
def gM (k:Nat)(a0:vP)(a1:yY)(a2:qS):Option (yY×(List qS)×Int):=
 (uA k a0 a1 a2).bind fun x0=>
 bif !(decide (x0=0)) then some (a1,[],x0)
 else bif decide (a2.2.1 = 9) then ((BE k a1 a2.1).bind fun x1=>
  some (a1,x1,0))
 else bif !(decide (a2.1 = (-1))) then ((KH k (jE a0 (wP a1 a2.1)) 15 []).bind fun x2=>
  (GD k x2 a2.2).bind fun x3=>
  bif !(decide (x3.1=0)) then some (a1,[],x3.1)
  else bif decide (a2.2.1 = 14) then ((uw k a0.1 a0.2.1 a0.2.2.1 a0.2.2.2.1 a0.2.2.2.2 a1.1 a1.2.1 a1.2.2.1 a1.2.2.2.1 a1.2.2.2.2.1 a1.2.2.2.2.2.1 a1.2.2.2.2.2.2.1 a1.2.2.2.2.2.2.2.1 a1.2.2.2.2.2.2.2.2.1 a1.2.2.2.2.2.2.2.2.2.1 a1.2.2.2.2.2.2.2.2.2.2).bind fun x4=>
   some ((qQ x4),x4.2.2.2.2.2.2.2.2.2.2.2,0))
  else(oU k x3.2.2.2.2.2.2.1 x3.2.2.2.2.2.2.2.1 x3.2.2.2.2.2.2.2.2.1 x3.2.2.2.2.2.2.2.2.2.1 x3.2.2.2.2.2.2.2.2.2.2.1 x3.2.2.2.2.2.2.2.2.2.2.2.1 x3.2.2.2.2.2.2.2.2.2.2.2.2.1 x3.2.2.2.2.2.2.2.2.2.2.2.2.2.1 x3.2.2.2.2.2.2.2.2.2.2.2.2.2.2.1 x3.2.2.2.2.2.2.2.2.2.2.2.2.2.2.2.1 x3.2.2.2.2.2.2.2.2.2.2.2.2.2.2.2.2.1 (decide (a2.2.1=13))).bind fun x5=>
  bif zP (x3.2.2.2.2.2.2.2.2.2.2.2.2.2.2.2.2.2.2.length + x5.2.2.2.2.2.2.2.2.2.2.2.length) 64 then (let y0:List qS:=(x3.2.2.2.2.2.2.2.2.2.2.2.2.2.2.2.2.2.2++x5.2.2.2.2.2.2.2.2.2.2.2)
   bif decide (a2.2.1 = 1) then ((nM k x5.2.2.2.2.2.2.2.1 a2.2.2.1).bind fun x6=>
    bif decide (x6 ≥ 0) then ((uz k (GH x3 y0) 19 [a2.2.2.1]).bind fun x7=>
     some ((qQ x5),x7.2.2.2.2.2.2.2.2.2.2.2.2.2.2.2.2.2,0))
    else some ((qQ x5),y0,0))
   else some ((qQ x5),y0,0))
  else none)
 else(xS k (jE a0 (wP a1 a2.1)) a2.2).bind fun x8=>
 bif !(decide (x8.1=0)) then some (a1,[],x8.1)
 else bif decide (a2.2.1 = 14) then ((uw k a0.1 a0.2.1 a0.2.2.1 a0.2.2.2.1 a0.2.2.2.2 a1.1 a1.2.1 a1.2.2.1 a1.2.2.2.1 a1.2.2.2.2.1 a1.2.2.2.2.2.1 a1.2.2.2.2.2.2.1 a1.2.2.2.2.2.2.2.1 a1.2.2.2.2.2.2.2.2.1 a1.2.2.2.2.2.2.2.2.2.1 a1.2.2.2.2.2.2.2.2.2.2).bind fun x9=>
  some ((qQ x9),x9.2.2.2.2.2.2.2.2.2.2.2,0))
 else(oU k x8.2.2.2.2.2.2.1 x8.2.2.2.2.2.2.2.1 x8.2.2.2.2.2.2.2.2.1 x8.2.2.2.2.2.2.2.2.2.1 x8.2.2.2.2.2.2.2.2.2.2.1 x8.2.2.2.2.2.2.2.2.2.2.2.1 x8.2.2.2.2.2.2.2.2.2.2.2.2.1 x8.2.2.2.2.2.2.2.2.2.2.2.2.2.1 x8.2.2.2.2.2.2.2.2.2.2.2.2.2.2.1 x8.2.2.2.2.2.2.2.2.2.2.2.2.2.2.2.1 x8.2.2.2.2.2.2.2.2.2.2.2.2.2.2.2.2.1 (decide (a2.2.1=13))).bind fun dm=>
 bif zP (x8.2.2.2.2.2.2.2.2.2.2.2.2.2.2.2.2.2.2.length + dm.2.2.2.2.2.2.2.2.2.2.2.length) 64 then (let y1:List qS:=(x8.2.2.2.2.2.2.2.2.2.2.2.2.2.2.2.2.2.2++dm.2.2.2.2.2.2.2.2.2.2.2)
  bif decide (a2.2.1 = 1) then ((nM k dm.2.2.2.2.2.2.2.1 a2.2.2.1).bind fun cR=>
   bif decide (cR ≥ 0) then ((uz k (GH x8 y1) 19 [a2.2.2.1]).bind fun sN=>
    some ((qQ dm),sN.2.2.2.2.2.2.2.2.2.2.2.2.2.2.2.2.2,0))
   else some ((qQ dm),y1,0))
  else some ((qQ dm),y1,0))
 else none
def uN (k:Nat)(bg:gT)(dv:vQ)(a1:AC):Option (Int×gT×vQ):=
 (KU k dv (zA (1-bg.1)) (zA (bg.2.1+1)) a1).bind fun x0=>
 bif decide (x0.1=0) then some (x0.1,((zA (1-bg.1)),(zA (bg.2.1+1)),0,false),x0.2)
 else some (x0.1,bg,x0.2)
def WX (k:Nat)(a0:Int):Option Bool:=
 (vH k a0 0 1048576).bind fun x0=>
 some (!x0)
def GM (k:Nat)(rec:qWg)(s0:AC)(s7 s8:Int):Option (Unit⊕Int):=
 bif decide (s8 < s7) then (bif zB s8 s0.length then ((WX k (s0.getD s8.toNat 0)).bind fun x0=>
   bif x0 then some (.inr s8)
   else rec s0 s7 (zA (s8+1)))
  else none)
 else some (.inl ())
def BJ (k:Nat):Nat→qWg
 |0,_,_,_=>none
 |n+1,s0,s7,s8=>GM k (BJ k n) s0 s7 s8
def WY (k:Nat)(a0:AC):Option Int:=
 (BJ k k a0 (a0.length:Int) 0).bind fun z=>
 match z with
 |.inl z1=>some (-1)
 |.inr z2=>some z2
def KO (k:Nat)(a0:AC):Option Bool:=
 (WY k a0).bind fun x0=>
 some (decide (x0≥0))
def WZ (k:Nat)(a0:Int):Option Bool:=
 some (decide (a0>1099511627776))
def GN (k:Nat)(rec:qWg)(s0:AC)(s7 s8:Int):Option (Unit⊕Int):=
 bif decide (s8 < s7) then (bif zB s8 s0.length then ((WZ k (s0.getD s8.toNat 0)).bind fun x0=>
   bif x0 then some (.inr s8)
   else rec s0 s7 (zA (s8+1)))
  else none)
 else some (.inl ())
def BK (k:Nat):Nat→qWg
 |0,_,_,_=>none
 |n+1,s0,s7,s8=>GN k (BK k n) s0 s7 s8
def W0 (k:Nat)(a0:AC):Option Int:=
 (BK k k a0 (a0.length:Int) 0).bind fun z=>
 match z with
 |.inl z1=>some (-1)
 |.inr z2=>some z2
def Px (k:Nat)(a0:AC):Option Bool:=
 (W0 k a0).bind fun x0=>
 some (decide (x0≥0))
abbrev qTv:Type:=EQ→Int→Int→vP→yY→Option (Unit⊕Bool)
def GO (k:Nat)(rec:qTv)(lz:EQ)(fy mj:Int)(b0:vP)(b1:yY):Option (Unit⊕Bool):=
 bif decide (mj < fy) then (bif zB mj lz.length then ((so k b0.2.1 b1.2.2.2.2.2.1 (lz.getD mj.toNat [])).bind fun x1=>
   bif !x1.2 then some (.inr false)
   else bif decide (x1.1>1152921504606846976) then some (.inr false)
   else bif zB mj b1.2.1.length then (bif !(decide (x1.1=(b1.2.1.getD mj.toNat (0,0,0)).2.1)) then some (.inr false)
    else(Px k (lz.getD mj.toNat [])).bind fun x2=>
    bif x2 then some (.inr false)
    else rec lz fy (zA (mj+1)) b0 b1)
   else none)
  else none)
 else some (.inl ())
def xT (k:Nat):Nat→qTv:=yS (fun _ _ _ _ _=>none) (GO k)
def KP (k:Nat)(a0:vP)(a1:yY):Option Bool:=
 bif !(decide ((a1.2.2.2.2.2.1.length:Int)=(a0.2.1.length:Int))) then some false
 else bif !(decide ((a1.2.2.2.2.2.2.1.length:Int)=a0.1)) then some false
 else(KO k a1.2.2.2.2.2.1).bind fun x0=>
 bif x0 then some false
 else(xT k k a1.2.2.2.2.2.2.1 (a1.2.2.2.2.2.2.1.length:Int) 0 a0 a1).bind fun z=>
 match z with
 |.inl z1=>some true
 |.inr z2=>some z2
abbrev qP8:Type:=List zC→Int→Option (Unit⊕Bool)
def Pu (k:Nat)(rec:qP8)(s0:List zC)(s5:Int):Option (Unit⊕Bool):=
 bif decide (s5 > 0) then (bif zB s5 s0.length then (bif zB (zA (s5 - 1)) s0.length then ((EU k (s0.getD s5.toNat (0,0,0,0,0,0,0)).1 (s0.getD s5.toNat (0,0,0,0,0,0,0)).2.1 (s0.getD s5.toNat (0,0,0,0,0,0,0)).2.2.1 (s0.getD s5.toNat (0,0,0,0,0,0,0)).2.2.2.1 (s0.getD s5.toNat (0,0,0,0,0,0,0)).2.2.2.2.1 (s0.getD s5.toNat (0,0,0,0,0,0,0)).2.2.2.2.2.1 (s0.getD s5.toNat (0,0,0,0,0,0,0)).2.2.2.2.2.2 (s0.getD (zA (s5-1)).toNat (0,0,0,0,0,0,0)).1 (s0.getD (zA (s5-1)).toNat (0,0,0,0,0,0,0)).2.1 (s0.getD (zA (s5-1)).toNat (0,0,0,0,0,0,0)).2.2.1 (s0.getD (zA (s5-1)).toNat (0,0,0,0,0,0,0)).2.2.2.1 (s0.getD (zA (s5-1)).toNat (0,0,0,0,0,0,0)).2.2.2.2.1 (s0.getD (zA (s5-1)).toNat (0,0,0,0,0,0,0)).2.2.2.2.2.1 (s0.getD (zA (s5-1)).toNat (0,0,0,0,0,0,0)).2.2.2.2.2.2).bind fun x0=>
    bif decide (x0<0) then some (.inr false)
    else rec s0 (zA (s5-1)))
   else none)
  else none)
 else some (.inl ())
def KJ (k:Nat):Nat→qP8:=yS (fun _ _=>none) (Pu k)
def Pt (k:Nat)(a0:List zC):Option Bool:=
 (KJ k k a0 (zA ((a0.length:Int)-1))).bind fun z=>
 match z with
 |.inl z1=>some true
 |.inr z2=>some z2
abbrev qLt:Type:=(List zC)⊕Bool
abbrev qPh:Type:=List zC→List zC→Int→Int→Option qLt
def GJ (k:Nat)(rec:qPh)(s0 s5:List zC)(s6 s7:Int):Option qLt:=
 bif decide (s7 < s6) then (bif zB s7 s5.length then ((nM k s0 (s5.getD s7.toNat (0,0,0,0,0,0,0)).1).bind fun x0=>
   bif !(decide (x0=s7)) then some (.inr false)
   else rec s0 s5 s6 (zA (s7+1)))
  else none)
 else some (.inl s0)
def BH (k:Nat):Nat→qPh
 |0,_,_,_,_=>none
 |n+1,s0,s5,s6,s7=>GJ k (BH k n) s0 s5 s6 s7
def KI (k:Nat)(a0:List zC):Option Bool:=
 (BH k k a0 a0 (a0.length:Int) 0).bind fun z=>
 match z with
 | .inl z1 => bif decide ((z1.length : Int) ≤ 40) then ((Pt k z1).bind fun x1=>
   some x1)
  else some false
 |.inr z2=>some z2
abbrev qTt:Type:=AC→Int→AC→Int→Int→Option (AC⊕Bool)
def GK (k:Nat)(rec:qTt)(s0:AC)(s3:Int)(s6:AC)(s7 s8:Int):Option (AC⊕Bool):=
 bif decide (s8 < s7) then (bif zB s8 s6.length then (bif decide ((s6.getD s8.toNat 0)≤s3) then some (.inr false)
   else rec s0 (s6.getD s8.toNat 0) s6 s7 (zA (s8+1)))
  else none)
 else some (.inl s0)
def KL (k:Nat):Nat→qTt:=yS (fun _ _ _ _ _=>none) (GK k)
def KK (k:Nat)(a0:AC):Option Bool:=
 (KL k k a0 0 a0 (a0.length:Int) 0).bind fun z=>
 match z with
 |.inl z1=>some (decide ((z1.length:Int)≤200))
 |.inr z2=>some z2
def Ob (k:Nat)(a0:AC)(a1:Int):Option Bool:=
 (E2 k a0 a1).bind fun x0=>
 some x0.2
def Pw (k:Nat)(a0:zC)(a1:yY):Option Bool:=
 (D8 k a1.2.1 a1.2.2.1 a1.2.2.2.1 a1.2.2.2.2.1 a0.1 a0.2.1 a0.2.2.1 a0.2.2.2.1 a0.2.2.2.2.1 a0.2.2.2.2.2.1 a0.2.2.2.2.2.2).bind fun x0=>
 bif !x0 then some true
 else bif decide (a0.2.2.2.2.2.1<0) then some true
 else(vH k a0.2.2.2.2.2.2 a0.2.2.2.2.2.1 1048576).bind fun x1=>
 bif !x1 then some true
 else(Ob k a1.2.2.2.2.2.2.2.2.1 a0.1).bind fun x2=>
 some (!x2)
abbrev qPs:Type:=List zC→Int→Int→Int→List zI→EQ→AC→EQ→AC→EQ→List zC→AC→Int→Bool→Option (Unit⊕Int)
def GL (k:Nat)(rec:qPs)(s0:List zC)(s7 s8 af:Int)(ah:List zI)(ai:EQ)(ag:AC)(aY:EQ)(bo:AC)(bp:EQ)(dQ:List zC)(dR:AC)(dU:Int)(bY:Bool):Option (Unit⊕Int):=
 bif decide (s8 < s7) then (bif zB s8 s0.length then ((Pw k (s0.getD s8.toNat (0,0,0,0,0,0,0)) (af,ah,ai,ag,aY,bo,bp,dQ,dR,dU,bY)).bind fun x0=>
   bif x0 then some (.inr s8)
   else rec s0 s7 (zA (s8+1)) af ah ai ag aY bo bp dQ dR dU bY)
  else none)
 else some (.inl ())
def BI (k:Nat):Nat→qPs
 |0,_,_,_,_,_,_,_,_,_,_,_,_,_,_=>none
 |n+1,s0,s7,s8,af,ah,ai,ag,aY,bo,bp,dQ,dR,dU,bY=>GL k (BI k n) s0 s7 s8 af ah ai ag aY bo bp dQ dR dU bY
def WW (k:Nat)(a0:List zC)(fT:Int)(bT:List zI)(cD:EQ)(cE:AC)(cF:EQ)(dC:AC)(eG:EQ)(fU:List zC)(jl:AC)(eH:Int)(fV:Bool):Option Int:=
 (BI k k a0 (a0.length:Int) 0 fT bT cD cE cF dC eG fU jl eH fV).bind fun z=>
 match z with
 |.inl z1=>some (-1)
 |.inr z2=>some z2
def Pv (k:Nat)(a0:List zC)(fT:Int)(bT:List zI)(cD:EQ)(cE:AC)(cF:EQ)(dC:AC)(eG:EQ)(fU:List zC)(jl:AC)(eH:Int)(fV:Bool):Option Bool:=
 (WW k a0 fT bT cD cE cF dC eG fU jl eH fV).bind fun x0=>
 some (decide (x0≥0))
def KM (k:Nat)(a0:yY):Option Bool:=
 (KI k a0.2.2.2.2.2.2.2.1).bind fun x0=>
 bif x0 then ((KK k a0.2.2.2.2.2.2.2.2.1).bind fun x1=>
  bif x1 then ((Pv k a0.2.2.2.2.2.2.2.1 a0.1 a0.2.1 a0.2.2.1 a0.2.2.2.1 a0.2.2.2.2.1 a0.2.2.2.2.2.1 a0.2.2.2.2.2.2.1 a0.2.2.2.2.2.2.2.1 a0.2.2.2.2.2.2.2.2.1 a0.2.2.2.2.2.2.2.2.2.1 a0.2.2.2.2.2.2.2.2.2.2).bind fun x2=>
   some (!x2))
  else some false)
 else some false
abbrev qNo:Type:=vP×yY×AC
abbrev qY6:Type:=List zI→Int→Int→vP→yY→AC→Option qNo
def GQ (k:Nat)(rec:qY6)(nY:List zI)(s45 Q6:Int)(b0:vP)(b1:yY)(r2:AC):Option qNo:=
 bif decide (Q6 < s45) then (bif zB Q6 nY.length then (bif zP (r2.length+1) 8 then(rec nY s45 (zA (Q6+1)) b0 b1 (r2++[(nY.getD Q6.toNat (0,0,0)).1]))
   else none)
  else none)
 else some (b0,b1,r2)
def GP (k:Nat):Nat→qY6:=yS (fun _ _ _ _ _ _=>none) (GQ k)
def KQ (k:Nat)(a0:vP)(a1:yY):Option Bool:=
 (vH k a1.1 0 a0.2.2.2.1).bind fun x0=>
 bif !x0 then some false
 else(AP k a1.2.1 a1.2.2.1 a1.2.2.2.1 a1.2.2.2.2.1).bind fun x1=>
 bif !x1 then some false
 else bif !(decide ((a1.2.1.length:Int)=a0.1)) then some false
 else(KP k a0 a1).bind fun x2=>
 bif !x2 then some false
 else(KM k a1).bind fun x3=>
 bif !x3 then some false
 else(GP k k a1.2.1 (a1.2.1.length:Int) 0 a0 a1 []).bind fun z=>
 (E4 k z.2.2).bind fun x4=>
 bif !x4.2 then some false
 else bif !(decide (x4.1=z.2.1.2.2.2.2.2.2.2.2.2.1)) then some false
 else(vH k x4.1 0 1152921504606846976).bind fun x5=>
 bif !x5 then some false
 else(Bi k z.1.1 z.1.2.1 z.1.2.2.1 z.1.2.2.2.1 z.1.2.2.2.2 z.2.1.1).bind fun x6=>
 bif mq z.2.1.2.2.2.2.2.2.2.2.2.2 x6 then (bif !z.2.1.2.2.2.2.2.2.2.2.2.2 then some true
  else some (decide ((z.2.1.2.2.2.2.2.2.2.1.length:Int)=0)))
 else some false
abbrev qTh:Type:=Int×Bool×Hd×AC×AC×vP×gT×yY
abbrev qS4:Type:=Int→Bool→EQ→Int→Int→Hd→AC→AC→vP→gT→yY→Option qTh
def xX (k:Nat)(rec:qS4)(s2:Int)(de:Bool)(Q7:EQ)(s73 Lw:Int)(b0:Hd)(r1 r2:AC)(b3:vP)(b4:gT)(b5:yY):Option qTh:=
 bif decide (Lw < s73) then (bif zB Lw Q7.length then ((sw k (Q7.getD Lw.toNat [])).bind fun x8=>
   bif decide (x8.2 = 0) then ((gM k b3 b5 x8.1).bind fun x9=>
    rec s2 de Q7 s73 (zA (Lw+1)) b0 r1 r2 b3 b4 x9.1)
   else rec s2 de Q7 s73 (zA (Lw+1)) b0 r1 r2 b3 b4 b5)
  else none)
 else some (s2,de,b0,r1,r2,b3,b4,b5)
def xW (k:Nat):Nat→qS4:=yS (fun _ _ _ _ _ _ _ _ _ _ _=>none) (xX k)
def jJ (k:Nat)(a0:vP)(a1:vQ)(a2:Int):Option ((Int×vQ×qs×gT)⊕(Int×vQ)):=
 (pW k a0).bind fun x0=>
 bif !x0 then some (.inr (1,a1))
 else bif decide (a2<1) then some (.inr (1,a1))
 else bif decide (a2>1000) then some (.inr (1,a1))
 else(KY k a1).bind fun x1=>
 (pV k a0).bind fun x2=>
 (lV k x2).bind fun x3=>
 (PB k a1 x3).bind fun x4=>
 match x4 with
 |.inl x5=>bif !(decide (x5.2.2.1=0)) then some (.inr (x5.2.2.1,x5.2.2.2.1))
  else(Ka k x5.1).bind fun x6=>
  bif !x6.2 then ((pV k a0).bind fun x7=>
   (xW k k a2 x1.2.2.2.2 x5.2.1 (x5.2.1.length:Int) 0 (x5.2.2.2.1.1,x5.2.2.2.1.2.2.1,x5.2.2.2.1.2.2.2.2) x5.2.2.2.1.2.1 x5.2.2.2.1.2.2.2.1 a0 x5.2.2.2.2 x7).bind fun z=>
   bif z.2.1 then ((lV k z.2.2.2.2.2.2.2).bind fun dm=>
    (uN k z.2.2.2.2.2.2.1 (z.2.2.1.1,z.2.2.2.1,z.2.2.1.2.1,z.2.2.2.2.1,z.2.2.1.2.2) dm).bind fun cR=>
    bif !(decide (cR.1=0)) then some (.inr (cR.1,cR.2.2))
    else some (.inl (0,cR.2.2,(jE z.2.2.2.2.2.1 (He z (z.1,false))),cR.2.1)))
   else some (.inl (0,(z.2.2.1.1,z.2.2.2.1,z.2.2.1.2.1,z.2.2.2.2.1,z.2.2.1.2.2),(jE z.2.2.2.2.2.1 (He z (z.1,false))),z.2.2.2.2.2.2.1)))
  else(KQ k a0 x6.1).bind fun sN=>
  bif !sN then ((pV k a0).bind fun dX=>
   (xW k k a2 x1.2.2.2.2 x5.2.1 (x5.2.1.length:Int) 0 (x5.2.2.2.1.1,x5.2.2.2.1.2.2.1,x5.2.2.2.1.2.2.2.2) x5.2.2.2.1.2.1 x5.2.2.2.1.2.2.2.1 a0 x5.2.2.2.2 dX).bind fun z1=>
   bif z1.2.1 then ((lV k z1.2.2.2.2.2.2.2).bind fun nc=>
    (uN k z1.2.2.2.2.2.2.1 (z1.2.2.1.1,z1.2.2.2.1,z1.2.2.1.2.1,z1.2.2.2.2.1,z1.2.2.1.2.2) nc).bind fun bG=>
    bif !(decide (bG.1=0)) then some (.inr (bG.1,bG.2.2))
    else some (.inl (0,bG.2.2,(jE z1.2.2.2.2.2.1 (He z1 (z1.1,false))),bG.2.1)))
   else some (.inl (0,(z1.2.2.1.1,z1.2.2.2.1,z1.2.2.1.2.1,z1.2.2.2.2.1,z1.2.2.1.2.2),(jE z1.2.2.2.2.2.1 (He z1 (z1.1,false))),z1.2.2.2.2.2.2.1)))
  else(xW k k a2 x1.2.2.2.2 x5.2.1 (x5.2.1.length:Int) 0 (x5.2.2.2.1.1,x5.2.2.2.1.2.2.1,x5.2.2.2.1.2.2.2.2) x5.2.2.2.1.2.1 x5.2.2.2.1.2.2.2.1 a0 x5.2.2.2.2 x6.1).bind fun z2=>
  bif z2.2.1 then ((lV k z2.2.2.2.2.2.2.2).bind fun gv=>
   (uN k z2.2.2.2.2.2.2.1 (z2.2.2.1.1,z2.2.2.2.1,z2.2.2.1.2.1,z2.2.2.2.2.1,z2.2.2.1.2.2) gv).bind fun iS=>
   bif !(decide (iS.1=0)) then some (.inr (iS.1,iS.2.2))
   else some (.inl (0,iS.2.2,(jE z2.2.2.2.2.2.1 (He z2 (z2.1,false))),iS.2.1)))
  else some (.inl (0,(z2.2.2.1.1,z2.2.2.2.1,z2.2.2.1.2.1,z2.2.2.2.2.1,z2.2.2.1.2.2),(jE z2.2.2.2.2.2.1 (He z2 (z2.1,false))),z2.2.2.2.2.2.2.1))
 |.inr oZ=>bif !(decide (oZ.2.2.1=0)) then some (.inr (oZ.2.2.1,oZ.2.2.2))
  else(Ka k oZ.1).bind fun lq=>
  bif !lq.2 then ((pV k a0).bind fun kS=>
   none)
  else(KQ k a0 lq.1).bind fun B3=>
  bif !B3 then ((pV k a0).bind fun B4=>
   none)
  else none
def yS1 (k:Nat)(rec:XH)(s0 s1 s6:Int)(r0:AC):Option AC:=
 bif decide (s6 < s0) then (bif zB s6 r0.length then(rec s0 s1 (zA (s6+1)) (r0.set s6.toNat s1))
  else none)
 else some r0
def Qw (k:Nat):Nat→XH
 |0,_,_,_,_=>none
 |n+1,s0,s1,s6,r0=>yS1 k (Qw k n) s0 s1 s6 r0
def qQ9 (k:Nat)(a0 a1:Int):Option AC:=
 bif decide (a0<0) then some []
 else bif decide (a0>6) then some []
 else bif rP a0 a0 8 then ((Qw k k a0 a1 0 (List.replicate a0.toNat (0:Int))).bind fun z=>
  some z)
 else none
abbrev qKz:Type:=Int→Int→Int→EQ→Option EQ
def yMc (k:Nat)(rec:qKz)(s0 s1 s6:Int)(m0:EQ):Option EQ:=
 bif decide (s6 < s0) then ((qQ9 k s0 s1).bind fun x0=>
  bif zP (m0.length+1) 24 then(rec s0 s1 (zA (s6+1)) (m0++[x0]))
  else none)
 else some m0
def Qx (k:Nat):Nat→qKz
 |0,_,_,_,_=>none
 |n+1,s0,s1,s6,m0=>yMc k (Qx k n) s0 s1 s6 m0
def qP2 (k:Nat)(a0 a1:Int):Option EQ:=
 bif decide (a0<0) then some []
 else bif decide (a0>6) then some []
 else(Qx k k a0 a1 0 []).bind fun z=>
 some z
abbrev qR2:Type:=Int→Int→vP→vN→vN→List zI→EQ→AC→EQ→AC→Option XO
def yDd (k:Nat)(rec:qR2)(s3 s5:Int)(b0:vP)(b1 b2:vN)(r3:List zI)(m4:EQ)(r5:AC)(m6:EQ)(r7:AC):Option XO:=
 bif decide (s5 < (b0.2.1.length : Int)) then (bif zB s5 b0.2.1.length then (bif zP (r7.length+1) 8 then(rec s3 (zA (s5+1)) b0 b1 b2 r3 m4 r5 m6 (r7++[(b0.2.1.getD s5.toNat (0,0)).1]))
   else none)
  else none)
 else some (s3,b0,b1,b2,r3,m4,r5,m6,r7)
def qWu (k:Nat):Nat→qR2:=yS (fun _ _ _ _ _ _ _ _ _ _=>none) (yDd k)
def yNr (k:Nat)(rec:XQ)(s3 s6:Int)(b0:vP)(b1 b2:vN)(r3:List zI)(m4:EQ)(r5:AC)(m6:EQ)(r7:AC)(m8:EQ):Option XR:=
 bif decide (s6 < s3) then (bif rP (b0.2.1.length : Int) (b0.2.1.length : Int) 8 then (bif zP (m8.length+1) 24 then(rec s3 (zA (s6+1)) b0 b1 b2 r3 m4 r5 m6 r7 (m8++[(List.replicate b0.2.1.length (0:Int))]))
   else none)
  else none)
 else some (b1,b2,r3,m4,r5,m6,r7,m8)
def qLf (k:Nat):Nat→XQ:=yS (fun _ _ _ _ _ _ _ _ _ _ _=>none) (yNr k)
def Xf (k:Nat)(a0:vP):Option yY:=
 bif rP a0.1 a0.1 24 then ((qP2 k a0.1 (-1)).bind fun x0=>
  (qQ9 k a0.1 (-1)).bind fun x1=>
  (qP2 k a0.1 0).bind fun x2=>
  (qWu k k a0.1 0 a0 (0,0,false) (0,0,false) (List.replicate a0.1.toNat ((0,0,0):Int×Int×Int)) x0 x1 x2 []).bind fun z=>
  (qLf k k z.1 0 z.2.1 z.2.2.1 z.2.2.2.1 z.2.2.2.2.1 z.2.2.2.2.2.1 z.2.2.2.2.2.2.1 z.2.2.2.2.2.2.2.1 z.2.2.2.2.2.2.2.2 []).bind fun z1=>
  some (z1.2.1.1,(yDi z1 ([],[],z1.2.1.2))))
 else none
def Xl (k:Nat)(a0:vQ)(a1:vU):Option vQ:=
 some (qd a0 (a1.1,a1.2,true,a0.2.2.2.2.2.2.2.2))
def j7 (k:Nat)(bg:qs)(dv:gT)(mi:vQ):Option (Bool×qs×gT×vQ):=
 some (bg.2.2.2.2.2.2.2.2.2.2.2.2.2.2.2.2.2,bg,dv,mi)
def Lh (k:Nat)(a0 a1:Int):Option (List qS):=
 some [(a0,16,a1,0,0,0,0,0)]
def VZ (k:Nat)(a0:zC):Option AC:=
 (j5 k a0).bind fun x0=>
 bif !x0 then some []
 else(tY k a0.1).bind fun x1=>
 bif (decide (0 ≤ x1)) && (decide (x1 ≤ 6)) then ((w9 k (qR [a0.2.1,a0.2.2.1,a0.2.2.2.1,a0.2.2.2.2.1,a0.2.2.2.2.2.1,a0.2.2.2.2.2.2] 0 (x1.toNat-0))).bind fun x2=>
  bif zP (1+x2.length) 1 then some ([(IntKind.wrap .u8 (a0.1))]++x2)
  else none)
 else none
def OJ (k:Nat)(a0:qS):Option AC:=
 (VZ k a0.2).bind fun x0=>
 bif decide ((x0.length:Int)=0) then some []
 else(w9 k [a0.1]).bind fun x1=>
 bif zP (x1.length+x0.length) 1 then some (x1++x0)
 else none
def KW (k:Nat)(bg:gT)(dv:vQ)(a1:AC):Option (Int×gT×vQ):=
 (IG k a1).bind fun x0=>
 bif !x0.2 then some (10,bg,dv)
 else bif bg.2.2.2 then some (10,bg,dv)
 else(xU k dv bg.1 x0.1).bind fun x1=>
 bif decide (x1.1=3) then some (10,bg,x1.2)
 else bif decide (x1.1 = 0) then ((uM k x1.2).bind fun x2=>
  bif decide (x2.1=0) then some (x2.1,(bg.1,bg.2.1,(zA (bg.2.2.1+1)),bg.2.2.2),x2.2)
  else some (x2.1,bg,x2.2))
 else bif decide (x1.1=0) then some (x1.1,(bg.1,bg.2.1,(zA (bg.2.2.1+1)),bg.2.2.2),x1.2)
 else some (x1.1,bg,x1.2)
def PE (k:Nat)(bg:qs)(dv:gT)(mi:vQ)(a1:AC):Option (Int×qs×gT×vQ):=
 (KW k dv mi a1).bind fun x0=>
 bif !(decide (x0.1=10)) then some (x0.1,bg,x0.2.1,x0.2.2)
 else(lV k (pX bg)).bind fun x1=>
 (uN k x0.2.1 x0.2.2 x1).bind fun x2=>
 bif !(decide (x2.1=0)) then some (x2.1,bg,x2.2.1,x2.2.2)
 else(KW k x2.2.1 x2.2.2 a1).bind fun x3=>
 some (x3.1,bg,x3.2.1,x3.2.2)
def PG (k:Nat)(bg:gT)(dv:vQ):Option (Int×gT×vQ):=
 some (bg.2.2.1,bg,dv)
def BS (k:Nat)(bg:qs)(dv:gT)(mi:vQ)(a1:Int)(a2:AC):Option ((List qS)×qs×gT×vQ):=
 (j7 k bg dv mi).bind fun x0=>
 bif x0.1 then some ([],x0.2.1,x0.2.2.1,x0.2.2.2)
 else(AJ k a2).bind fun x1=>
 bif !(decide (x1.2 = 0)) then ((Lh k a1 x1.2).bind fun x2=>
  some (x2,x0.2.1,x0.2.2.1,x0.2.2.2))
 else(gM k (yZ x0.2.1) (pX x0.2.1) (a1,x1.1)).bind fun x3=>
 bif !(decide (x3.2.2 = 0)) then ((Lh k a1 x3.2.2).bind fun x4=>
  some (x4,x0.2.1,x0.2.2.1,x0.2.2.2))
 else bif decide (x1.1.1=9) then some (x3.2.1,x0.2.1,x0.2.2.1,x0.2.2.2)
 else(OJ k (a1,x1.1)).bind fun x5=>
 (PE k x0.2.1 x0.2.2.1 x0.2.2.2 x5).bind fun x6=>
 bif decide (x6.1 = 0) then ((PG k x6.2.2.1 x6.2.2.2).bind fun x7=>
  bif decide (x7.1 ≥ x6.2.1.2.2.2.2.2.2.2.2.2.2.2.2.2.2.2.2.1) then ((lV k x3.1).bind fun x8=>
   (uN k x7.2.1 x7.2.2 x8).bind fun x9=>
   bif decide (x9.1=11) then some (x3.2.1,(qd x6.2.1 (wP x3.1 (x6.2.1.2.2.2.2.2.2.2.2.2.2.2.2.2.2.2.2.1,true))),x9.2.1,x9.2.2)
   else some (x3.2.1,(qd x6.2.1 (wP x3.1 x6.2.1.2.2.2.2.2.2.2.2.2.2.2.2.2.2.2.2)),x9.2.1,x9.2.2))
  else some (x3.2.1,(qd x6.2.1 (wP x3.1 x6.2.1.2.2.2.2.2.2.2.2.2.2.2.2.2.2.2.2)),x7.2.1,x7.2.2))
 else bif decide (x6.1 = 10) then ((Lh k a1 10).bind fun dm=>
  some (dm,x6.2.1,x6.2.2.1,x6.2.2.2))
 else some ([],(yE x6.2.1 true),x6.2.2.1,x6.2.2.2)
def Dz (k:Nat)(a0:Int):Option Int:=
 bif decide (a0<0) then some (-1)
 else bif decide (a0≥24) then some (-1)
 else bif zB a0 24 then some (List.getD [(-1),6,1,2,2,2,1,1,2,0,2,2,2,0,0,0,1,5,4,1,1,1,1,1] a0.toNat 0)
 else none
def Pq (k:Nat)(a0:Int):Option Bool:=
 bif decide (a0≥1) then some (decide (a0≤14))
 else some false
abbrev qIg:Type:=Int→Int→zC→Option (Int⊕Bool)
def WQ (k:Nat)(rec:qIg)(s3 s4:Int)(b0:zC):Option (Int⊕Bool):=
 bif decide (s4 < 6) then (bif decide (s4 = 0) then (bif !(decide (b0.2.1=0)) then some (.inr false)
   else rec s3 (zA (s4+1)) b0)
  else bif decide (s4 = 1) then (bif !(decide (b0.2.2.1=0)) then some (.inr false)
   else rec s3 (zA (s4+1)) b0)
  else bif decide (s4 = 2) then (bif !(decide (b0.2.2.2.1=0)) then some (.inr false)
   else rec s3 (zA (s4+1)) b0)
  else bif decide (s4 = 3) then (bif !(decide (b0.2.2.2.2.1=0)) then some (.inr false)
   else rec s3 (zA (s4+1)) b0)
  else bif decide (s4 = 4) then (bif !(decide (b0.2.2.2.2.2.1=0)) then some (.inr false)
   else rec s3 (zA (s4+1)) b0)
  else bif decide (s4 = 5) then (bif !(decide (b0.2.2.2.2.2.2=0)) then some (.inr false)
   else rec s3 (zA (s4+1)) b0)
  else none)
 else some (.inl s3)
def xD (k:Nat):Nat→qIg:=yS (fun _ _ _=>none) (WQ k)
def sA (k:Nat)(a0:zC):Option Bool:=
 (Dz k a0.1).bind fun x0=>
 (xD k k x0 (wC false x0 0) a0).bind fun z=>
 match z with
 |.inl z1=>some (decide (z1≥0))
 |.inr z2=>some z2
def Pr (k:Nat)(a0:Int):Option Bool:=
 bif decide (a0≥10) then some (decide (a0≤14))
 else some false
def BB (k:Nat)(a0:vP)(a1:qS):Option Bool:=
 (Pq k a1.2.1).bind fun x0=>
 bif !x0 then some false
 else(sA k a1.2).bind fun x1=>
 bif !x1 then some false
 else(Pr k a1.2.1).bind fun x2=>
 bif x2 then some (decide (a1.1=(-1)))
 else bif decide (a1.1≥0) then some (decide (a1.1<a0.1))
 else some false
abbrev qZc:Type:=List zC→Int→Int→List zC→Option Yy
def EI (k:Nat)(rec:qZc)(s0:List zC)(s1 s6:Int)(r0:List zC):Option Yy:=
 bif decide (s6 < (s0.length : Int)) then (bif zB s6 s0.length then (bif decide ((s0.getD s6.toNat (0, 0, 0, 0, 0, 0, 0)).2.1 = s1) then (bif zB s6 s0.length then (bif zP (r0.length + 1) 56 then (let y0:List zC:=(r0++[(s0.getD s6.toNat (0,0,0,0,0,0,0))])
      rec s0 s1 (zA (s6+1)) y0)
     else none)
    else none)
   else rec s0 s1 (zA (s6+1)) r0)
  else none)
 else some r0
def Jt (k:Nat):Nat→qZc
 |0,_,_,_,_=>none
 |n+1,s0,s1,s6,r0=>EI k (Jt k n) s0 s1 s6 r0
def uh (k:Nat)(a0:List zC)(a1:Int):Option (List zC):=
 (Jt k k a0 a1 0 []).bind fun z=>
 some z
abbrev qSg:Type:=Int×Int×Int×Int×Int×Int×Int×Int×Int×Int×Int×Int×Int×Int
abbrev qJ1:Type:=AC→Int→Int→Int→Int→Int→Int→Int→Int→Int→Int→Int→Int→Int→Int→Int→Option qSg
def yNx (k:Nat)(rec:qJ1)(s1:AC)(s6 af ah ai ag aY bo bp av aB aC aE aG aH aI:Int):Option qSg:=
 bif decide (s6 < (s1.length : Int)) then (bif decide (s6 < 6) then (bif zB s6 s1.length then (bif decide (s6=0) then(rec s1 (zA (s6+1)) af ah ai ag aY bo bp av (s1.getD s6.toNat 0) aC aE aG aH aI)
    else bif decide (s6=1) then(rec s1 (zA (s6+1)) af ah ai ag aY bo bp av aB (s1.getD s6.toNat 0) aE aG aH aI)
    else bif decide (s6=2) then(rec s1 (zA (s6+1)) af ah ai ag aY bo bp av aB aC (s1.getD s6.toNat 0) aG aH aI)
    else bif decide (s6=3) then(rec s1 (zA (s6+1)) af ah ai ag aY bo bp av aB aC aE (s1.getD s6.toNat 0) aH aI)
    else bif decide (s6=4) then(rec s1 (zA (s6+1)) af ah ai ag aY bo bp av aB aC aE aG (s1.getD s6.toNat 0) aI)
    else bif decide (s6=5) then(rec s1 (zA (s6+1)) af ah ai ag aY bo bp av aB aC aE aG aH (s1.getD s6.toNat 0))
    else none)
   else none)
  else some (af,ah,ai,ag,aY,bo,bp,av,aB,aC,aE,aG,aH,aI))
 else some (af,ah,ai,ag,aY,bo,bp,av,aB,aC,aE,aG,aH,aI)
def QG (k:Nat):Nat→qJ1
 |0,_,_,_,_,_,_,_,_,_,_,_,_,_,_,_,_=>none
 |n+1,s1,s6,af,ah,ai,ag,aY,bo,bp,av,aB,aC,aE,aG,aH,aI=>yNx k (QG k n) s1 s6 af ah ai ag aY bo bp av aB aC aE aG aH aI
def eW (k:Nat)(a0:Int)(a1:AC):Option zC:=
 (QG k k a1 0 0 0 0 0 0 0 0 a0 0 0 0 0 0 0).bind fun z=>
 some (z.2.2.2.2.2.2.2.1,z.2.2.2.2.2.2.2.2.1,z.2.2.2.2.2.2.2.2.2.1,z.2.2.2.2.2.2.2.2.2.2.1,z.2.2.2.2.2.2.2.2.2.2.2.1,z.2.2.2.2.2.2.2.2.2.2.2.2.1,z.2.2.2.2.2.2.2.2.2.2.2.2.2)
def Po (k:Nat)(a0:vP)(a1:Int):Option Bool:=
 some (decide (a1=a0.2.2.2.1))
def WL (k:Nat)(cc bc bB cp bO bZ bS a1:Int):Option Bool:=
 some (decide (a1>bS))
abbrev qY0:Type:=List zC→Int→Int→Option (Unit⊕Int)
def ER (k:Nat)(rec:qY0)(s0:List zC)(s1 s5:Int):Option (Unit⊕Int):=
 bif decide (s5 < (s0.length : Int)) then (bif zB s5 s0.length then (bif decide ((s0.getD s5.toNat (0,0,0,0,0,0,0)).1=s1) then some (.inr s5)
   else rec s0 s1 (zA (s5+1)))
  else none)
 else some (.inl ())
def EP (k:Nat):Nat→qY0
 |0,_,_,_=>none
 |n+1,s0,s1,s5=>ER k (EP k n) s0 s1 s5
def mQ (k:Nat)(a0:List zC)(a1:Int):Option Int:=
 (EP k k a0 a1 0).bind fun z=>
 match z with
 |.inl z1=>some (-1)
 |.inr z2=>some z2
def nQ (k:Nat)(a0:List zC)(a1:Int):Option qUt:=
 (mQ k a0 a1).bind fun x0=>
 bif decide (x0<0) then some (a0,0,0,0,0,0,0,0,4)
 else bif (decide (0 ≤ x0)) && (decide (x0 ≤ (a0.length : Int))) then (bif zP (0 + (List.take x0.toNat a0).length) 56 then (bif (decide (0 ≤ (zA (x0 + 1)))) && (decide ((zA (x0 + 1)) ≤ (a0.length : Int))) then (bif zP ((List.take x0.toNat a0).length + (List.drop (zA (x0 + 1)).toNat a0).length) 56 then (bif zB x0 a0.length then some (((List.take x0.toNat a0)++(List.drop (zA (x0+1)).toNat a0)),(iw (a0.getD x0.toNat (0,0,0,0,0,0,0)) 0))
     else none)
    else none)
   else none)
  else none)
 else none
def KF (k:Nat)(a0:vP)(a1:Int):Option Bool:=
 bif decide (a1 > 0) then (bif decide (a1 < a0.2.2.2.1) then (bif !(decide (a0.2.2.2.2=0)) then some (decide ((Int.tmod a1 a0.2.2.2.2)=0))
   else none)
  else some false)
 else some false
def U2 (k:Nat)(cc bc bB cp bO bZ bS a1:Int):Option Bool:=
 bif decide (a1≥bZ) then some (decide (a1≤bS))
 else some false
def EH (k:Nat)(rec:qZc)(s0:List zC)(s1 s6:Int)(r0:List zC):Option Yy:=
 bif decide (s6 < (s0.length : Int)) then (bif zB s6 s0.length then ((U2 k (s0.getD s6.toNat (0,0,0,0,0,0,0)).1 (s0.getD s6.toNat (0,0,0,0,0,0,0)).2.1 (s0.getD s6.toNat (0,0,0,0,0,0,0)).2.2.1 (s0.getD s6.toNat (0,0,0,0,0,0,0)).2.2.2.1 (s0.getD s6.toNat (0,0,0,0,0,0,0)).2.2.2.2.1 (s0.getD s6.toNat (0,0,0,0,0,0,0)).2.2.2.2.2.1 (s0.getD s6.toNat (0,0,0,0,0,0,0)).2.2.2.2.2.2 s1).bind fun x0=>
   bif x0 then (bif zB s6 s0.length then (bif zP (r0.length + 1) 56 then (let y0:List zC:=(r0++[(s0.getD s6.toNat (0,0,0,0,0,0,0))])
      rec s0 s1 (zA (s6+1)) y0)
     else none)
    else none)
   else rec s0 s1 (zA (s6+1)) r0)
  else none)
 else some r0
def Js (k:Nat):Nat→qZc
 |0,_,_,_,_=>none
 |n+1,s0,s1,s6,r0=>EH k (Js k n) s0 s1 s6 r0
def EG (k:Nat)(a0:List zC)(a1:Int):Option (List zC):=
 (Js k k a0 a1 0 []).bind fun z=>
 some z
abbrev qU3:Type:=Int×Bool×(List zC)×(List zC)×(List zC)
abbrev qU4:Type:=Int→Bool→Int→List zC→List zC→List zC→Option qU3
def EK (k:Nat)(rec:qU4)(s7:Int)(s9:Bool)(aw:Int)(r0 r1 r2:List zC):Option qU3:=
 bif decide (aw < (r2.length : Int)) then (bif s9 then (bif zB aw r2.length then(rec s7 (decide ((r2.getD aw.toNat (0,0,0,0,0,0,0)).2.2.2.2.1=3)) (zA (aw+1)) r0 r1 r2)
   else none)
  else rec s7 false (zA (aw+1)) r0 r1 r2)
 else some (s7,s9,r0,r1,r2)
def EJ (k:Nat):Nat→qU4
 |0,_,_,_,_,_,_=>none
 |n+1,s7,s9,aw,r0,r1,r2=>EK k (EJ k n) s7 s9 aw r0 r1 r2
abbrev qIm:Type:=Int→List zC→List zC→Option Yy
def EL (k:Nat)(rec:qIm)(s7:Int)(r0 r1:List zC):Option Yy:=
 bif decide (s7 < (r0.length : Int)) then (bif zB s7 r0.length then ((uh k r0 (r0.getD s7.toNat (0,0,0,0,0,0,0)).2.1).bind fun x1=>
   (EJ k k s7 true 0 r0 r1 x1).bind fun z=>
   bif zB 0 z.2.2.2.2.length then (bif zB z.1 z.2.2.1.length then (bif (decide ((z.2.2.2.2.getD 0 (0, 0, 0, 0, 0, 0, 0)).1 = (z.2.2.1.getD z.1.toNat (0, 0, 0, 0, 0, 0, 0)).1)) && ((decide ((z.2.2.2.2.getD 0 (0, 0, 0, 0, 0, 0, 0)).2.1 = (z.2.2.1.getD z.1.toNat (0, 0, 0, 0, 0, 0, 0)).2.1)) && ((decide ((z.2.2.2.2.getD 0 (0, 0, 0, 0, 0, 0, 0)).2.2.1 = (z.2.2.1.getD z.1.toNat (0, 0, 0, 0, 0, 0, 0)).2.2.1)) && ((decide ((z.2.2.2.2.getD 0 (0, 0, 0, 0, 0, 0, 0)).2.2.2.1 = (z.2.2.1.getD z.1.toNat (0, 0, 0, 0, 0, 0, 0)).2.2.2.1)) && ((decide ((z.2.2.2.2.getD 0 (0, 0, 0, 0, 0, 0, 0)).2.2.2.2.1 = (z.2.2.1.getD z.1.toNat (0, 0, 0, 0, 0, 0, 0)).2.2.2.2.1)) && ((decide ((z.2.2.2.2.getD 0 (0, 0, 0, 0, 0, 0, 0)).2.2.2.2.2.1 = (z.2.2.1.getD z.1.toNat (0, 0, 0, 0, 0, 0, 0)).2.2.2.2.2.1)) && (decide ((z.2.2.2.2.getD 0 (0, 0, 0, 0, 0, 0, 0)).2.2.2.2.2.2 = (z.2.2.1.getD z.1.toNat (0, 0, 0, 0, 0, 0, 0)).2.2.2.2.2.2))))))) then (bif zB z.1 z.2.2.1.length then (bif zP (z.2.2.2.1.length + 1) 56 then (let y0:List zC:=(z.2.2.2.1++[(z.2.2.1.getD z.1.toNat (0,0,0,0,0,0,0))])
        rec (zA (z.1+1)) z.2.2.1 y0)
       else none)
      else none)
     else bif z.2.1 then (bif zB z.1 z.2.2.1.length then (bif zP (z.2.2.2.1.length + 1) 56 then (let y1:List zC:=(z.2.2.2.1++[(z.2.2.1.getD z.1.toNat (0,0,0,0,0,0,0))])
        rec (zA (z.1+1)) z.2.2.1 y1)
       else none)
      else none)
     else rec (zA (z.1+1)) z.2.2.1 z.2.2.2.1)
    else none)
   else none)
  else none)
 else some r1
def Jv (k:Nat):Nat→qIm
 |0,_,_,_=>none
 |n+1,s7,r0,r1=>EL k (Jv k n) s7 r0 r1
def Ju (k:Nat)(a0:List zC)(a1:Int):Option (List zC):=
 (EG k a0 a1).bind fun x0=>
 (Jv k k 0 x0 []).bind fun z1=>
 some z1
def Uz (k:Nat)(au:List zI)(az:EQ)(ay:AC)(ax:EQ)(gQ cq dt eu du iQ iR:Int):Option Bool:=
 bif decide (cq ≥ 0) then (bif decide (cq < (au.length : Int)) then (bif decide (dt ≥ 0) then (bif decide (dt < (au.length : Int)) then (bif !(decide (cq = dt)) then (bif decide (eu ≥ 1) then (bif decide (eu ≤ 1099511627776) then (bif decide (du≥1) then some (decide (du≤3))
        else some false)
       else some false)
      else some false)
     else some false)
    else some false)
   else some false)
  else some false)
 else some false
abbrev qX2:Type:=List zC→Int→List zI→EQ→AC→EQ→Option qLt
def Ea (k:Nat)(rec:qX2)(s1:List zC)(s5:Int)(af:List zI)(ah:EQ)(ai:AC)(ag:EQ):Option qLt:=
 bif decide (s5 < (s1.length : Int)) then (bif zB s5 s1.length then ((Uz k af ah ai ag (s1.getD s5.toNat (0,0,0,0,0,0,0)).1 (s1.getD s5.toNat (0,0,0,0,0,0,0)).2.1 (s1.getD s5.toNat (0,0,0,0,0,0,0)).2.2.1 (s1.getD s5.toNat (0,0,0,0,0,0,0)).2.2.2.1 (s1.getD s5.toNat (0,0,0,0,0,0,0)).2.2.2.2.1 (s1.getD s5.toNat (0,0,0,0,0,0,0)).2.2.2.2.2.1 (s1.getD s5.toNat (0,0,0,0,0,0,0)).2.2.2.2.2.2).bind fun x0=>
   bif !x0 then some (.inr false)
   else rec s1 (zA (s5+1)) af ah ai ag)
  else none)
 else some (.inl s1)
def I9 (k:Nat):Nat→qX2
 |0,_,_,_,_,_,_=>none
 |n+1,s1,s5,af,ah,ai,ag=>Ea k (I9 k n) s1 s5 af ah ai ag
def I8 (k:Nat)(au:List zI)(az:EQ)(ay:AC)(ax:EQ)(a1:List zC):Option Bool:=
 (I9 k k a1 0 au az ay ax).bind fun z=>
 match z with
 |.inl z1=>some (decide ((z1.length:Int)≤64))
 |.inr z2=>some z2
abbrev qIh:Type:=EQ→Int→EQ→Option EQ
def DX (k:Nat)(rec:qIh)(s0:EQ)(s4:Int)(m0:EQ):Option EQ:=
 bif decide (s4 < (s0.length : Int)) then (bif zB s4 s0.length then (bif zP (0 + (s0.getD s4.toNat []).length) 8 then (bif zP (m0.length+1) 24 then(rec s0 (zA (s4+1)) (m0++[(s0.getD s4.toNat [])]))
    else none)
   else none)
  else none)
 else some m0
def IW (k:Nat):Nat→qIh
 |0,_,_,_=>none
 |n+1,s0,s4,m0=>DX k (IW k n) s0 s4 m0
def IX (k:Nat)(a0:EQ):Option EQ:=
 (IW k k a0 0 []).bind fun z=>
 some z
def oM (k:Nat)(au:List zI)(az:EQ)(ay:AC)(ax:EQ):Option Lv:=
 bif zP (0 + au.length) 24 then ((IX k az).bind fun x0=>
  bif zP (0 + ay.length) 8 then ((IX k ax).bind fun x1=>
   some (au,x0,ay,x1))
  else none)
 else none
abbrev qH7:Type:=List zC→Int→Int→Int→Int→Option vU
def Ef (k:Nat)(rec:qH7)(s0:List zC)(s1 s6 s7 s8:Int):Option vU:=
 bif decide (s8 < (s0.length : Int)) then (bif zB s8 s0.length then (bif !(decide ((s0.getD s8.toNat (0,0,0,0,0,0,0)).2.1=s1)) then(rec s0 s1 s6 s7 (zA (s8+1)))
   else bif zB s8 s0.length then (bif decide ((s0.getD s8.toNat (0, 0, 0, 0, 0, 0, 0)).2.2.2.2.1 = 3) then (bif zB s8 s0.length then(rec s0 s1 (zA (s6+(s0.getD s8.toNat (0,0,0,0,0,0,0)).2.2.2.1)) s7 (zA (s8+1)))
     else none)
    else bif zB s8 s0.length then(rec s0 s1 s6 (zA (s7+(s0.getD s8.toNat (0,0,0,0,0,0,0)).2.2.2.1)) (zA (s8+1)))
    else none)
   else none)
  else none)
 else some (s6,s7)
def Jc (k:Nat):Nat→qH7
 |0,_,_,_,_,_=>none
 |n+1,s0,s1,s6,s7,s8=>Ef k (Jc k n) s0 s1 s6 s7 s8
def Jb (k:Nat)(a0:List zC)(a1:Int):Option vU:=
 (Jc k k a0 a1 0 0 0).bind fun z=>
 some (z.1,z.2)
def NF (k:Nat)(a0:List zC)(a1:Int):Option Int:=
 (Jb k a0 a1).bind fun x0=>
 some x0.2
def Jd (k:Nat)(bq bD aT a1:Int):Option Int:=
 bif decide (a1≥aT) then some 0
 else some (zA (aT-a1))
abbrev qNs:Type:=List zC→Int→Int→Int→Int→Option Int
def Ee (k:Nat)(rec:qNs)(s0:List zC)(s1 s2 s7 s8:Int):Option Int:=
 bif decide (s8 < (s0.length : Int)) then (bif zB s8 s0.length then (bif decide ((s0.getD s8.toNat (0, 0, 0, 0, 0, 0, 0)).2.1 = s1) then (bif zB s8 s0.length then (bif decide ((s0.getD s8.toNat (0, 0, 0, 0, 0, 0, 0)).2.2.1 = s2) then (bif zB s8 s0.length then(rec s0 s1 s2 (zA (s7+(s0.getD s8.toNat (0,0,0,0,0,0,0)).2.2.2.1)) (zA (s8+1)))
      else none)
     else rec s0 s1 s2 s7 (zA (s8+1)))
    else none)
   else rec s0 s1 s2 s7 (zA (s8+1)))
  else none)
 else some s7
def Ja (k:Nat):Nat→qNs
 |0,_,_,_,_,_=>none
 |n+1,s0,s1,s2,s7,s8=>Ee k (Ja k n) s0 s1 s2 s7 s8
def xf (k:Nat)(a0:List zC)(a1 a2:Int):Option Int:=
 (Ja k k a0 a1 a2 0 0).bind fun z=>
 some z
def NC (k:Nat)(a0:List zC)(a1 a2:Int):Option Int:=
 (xf k a0 a1 a2).bind fun x0=>
 (xf k a0 a2 a1).bind fun x1=>
 some (zA (x0-x1))
abbrev qLh:Type:=EQ→Int→Int→Option (Unit⊕Bool)
def DK (k:Nat)(rec:qLh)(s0:EQ)(s1 s5:Int):Option (Unit⊕Bool):=
 bif decide (s5 < s1) then (bif zB s5 s0.length then (bif !(decide (((s0.getD s5.toNat []).length:Int)=s1)) then some (.inr false)
   else rec s0 s1 (zA (s5+1)))
  else none)
 else some (.inl ())
def IM (k:Nat):Nat→qLh
 |0,_,_,_=>none
 |n+1,s0,s1,s5=>DK k (IM k n) s0 s1 s5
def IL (k:Nat)(a0:EQ)(a1:Int):Option Bool:=
 bif !(decide ((a0.length:Int)=a1)) then some false
 else(IM k k a0 a1 0).bind fun z=>
 match z with
 |.inl z1=>some true
 |.inr z2=>some z2
def IJ (k:Nat)(bq bD aT:Int):Option Bool:=
 bif decide (bq > (-4611686018427387904)) then (bif decide (bq < 4611686018427387904) then (bif decide (bD ≥ 0) then (bif decide (bD ≤ 2305843009213693952) then (bif decide (aT≥0) then some (decide (aT≤2305843009213693952))
     else some false)
    else some false)
   else some false)
  else some false)
 else some false
def IK (k:Nat)(a0:Int):Option Bool:=
 bif decide (a0≥(-1)) then some (decide (a0≤2305843009213693952))
 else some false
abbrev qO2:Type:=(Int×Int×(List zI)×EQ×AC×EQ)⊕Bool
abbrev qLs:Type:=Int→Int→Int→List zI→EQ→AC→EQ→Option qO2
def DM (k:Nat)(rec:qLs)(s3 s4 s5:Int)(af:List zI)(ah:EQ)(ai:AC)(ag:EQ):Option qO2:=
 bif decide (s5 < s3) then (bif zB s4 ah.length then (bif zB s5 (ah.getD s4.toNat []).length then ((IK k ((ah.getD s4.toNat []).getD s5.toNat 0)).bind fun x4=>
    bif !x4 then some (.inr false)
    else bif zB s4 ag.length then (bif zB s5 (ag.getD s4.toNat []).length then (bif decide (((ag.getD s4.toNat []).getD s5.toNat 0)≤(-72057594037927936)) then some (.inr false)
      else bif zB s4 ag.length then (bif zB s5 (ag.getD s4.toNat []).length then (bif decide (((ag.getD s4.toNat []).getD s5.toNat 0)≥72057594037927936) then some (.inr false)
        else bif zB s4 ag.length then (bif zB s5 (ag.getD s4.toNat []).length then (bif zB s5 ag.length then (bif zB s4 (ag.getD s5.toNat []).length then (bif !(decide (((ag.getD s4.toNat []).getD s5.toNat 0)=(zA (0-((ag.getD s5.toNat []).getD s4.toNat 0))))) then some (.inr false)
            else rec s3 s4 (zA (s5+1)) af ah ai ag)
           else none)
          else none)
         else none)
        else none)
       else none)
      else none)
     else none)
    else none)
   else none)
  else none)
 else some (.inl (s3,s4,af,ah,ai,ag))
def DL (k:Nat):Nat→qLs
 |0,_,_,_,_,_,_,_=>none
 |n+1,s3,s4,s5,af,ah,ai,ag=>DM k (DL k n) s3 s4 s5 af ah ai ag
abbrev qOx:Type:=Int→Int→List zI→EQ→AC→EQ→Option (Unit⊕Bool)
def DO (k:Nat)(rec:qOx)(s3 s4:Int)(af:List zI)(ah:EQ)(ai:AC)(ag:EQ):Option (Unit⊕Bool):=
 bif decide (s4 < s3) then (bif zB s4 af.length then ((IJ k (af.getD s4.toNat (0,0,0)).1 (af.getD s4.toNat (0,0,0)).2.1 (af.getD s4.toNat (0,0,0)).2.2).bind fun x2=>
   bif !x2 then some (.inr false)
   else bif zB s4 ai.length then ((IK k (ai.getD s4.toNat 0)).bind fun x3=>
    bif !x3 then some (.inr false)
    else(DL k k s3 s4 0 af ah ai ag).bind fun z=>
    match z with
    |.inl z1=>rec z1.1 (zA (z1.2.1+1)) z1.2.2.1 z1.2.2.2.1 z1.2.2.2.2.1 z1.2.2.2.2.2
    |.inr z2=>some (.inr z2))
   else none)
  else none)
 else some (.inl ())
def DN (k:Nat):Nat→qOx
 |0,_,_,_,_,_,_=>none
 |n+1,s3,s4,af,ah,ai,ag=>DO k (DN k n) s3 s4 af ah ai ag
def Nl (k:Nat)(au:List zI)(az:EQ)(ay:AC)(ax:EQ):Option Bool:=
 bif decide ((au.length:Int)<1) then some false
 else bif decide ((au.length:Int)>6) then some false
 else(IL k az (au.length:Int)).bind fun x0=>
 bif !x0 then some false
 else(IL k ax (au.length:Int)).bind fun x1=>
 bif !x1 then some false
 else bif !(decide ((ay.length:Int)=(au.length:Int))) then some false
 else(DN k k (au.length:Int) 0 au az ay ax).bind fun z3=>
 match z3 with
 |.inl z4=>some true
 |.inr z5=>some z5
abbrev qUo:Type:=(List zC)×Int×(List zI)×EQ×AC×EQ×(List zI)×EQ×AC×EQ
abbrev qTc:Type:=List zC→Int→Int→List zI→EQ→AC→EQ→List zI→EQ→AC→EQ→Option qUo
def Eh (k:Nat)(rec:qTc)(s1:List zC)(s7 s8:Int)(af:List zI)(ah:EQ)(ai:AC)(ag:EQ)(r3:List zI)(m4:EQ)(r5:AC)(m6:EQ):Option qUo:=
 bif decide (s8 < (r3.length : Int)) then ((NC k s1 s7 s8).bind fun x4=>
  bif zB s7 r3.length then (bif zB s7 r3.length then (let y1:List zI:=(r3.set s7.toNat ((zA ((r3.getD s7.toNat (0,0,0)).1-x4)),(r3.getD s7.toNat (0,0,0)).2))
    bif zB s7 m6.length then (bif zB s7 m6.length then (bif zB s8 (m6.getD s7.toNat []).length then (bif zB s8 (m6.getD s7.toNat []).length then (let y2:EQ:=(m6.set s7.toNat ((m6.getD s7.toNat []).set s8.toNat (zA (((m6.getD s7.toNat []).getD s8.toNat 0)+x4))))
        rec s1 s7 (zA (s8+1)) af ah ai ag y1 m4 r5 y2)
       else none)
      else none)
     else none)
    else none)
   else none)
  else none)
 else some (s1,s7,af,ah,ai,ag,r3,m4,r5,m6)
def Eg (k:Nat):Nat→qTc
 |0,_,_,_,_,_,_,_,_,_,_,_=>none
 |n+1,s1,s7,s8,af,ah,ai,ag,r3,m4,r5,m6=>Eh k (Eg k n) s1 s7 s8 af ah ai ag r3 m4 r5 m6
abbrev qMz:Type:=List zC→Int→List zI→EQ→AC→EQ→List zI→EQ→AC→EQ→Option qKv
def Ej (k:Nat)(rec:qMz)(s1:List zC)(s7:Int)(af:List zI)(ah:EQ)(ai:AC)(ag:EQ)(r3:List zI)(m4:EQ)(r5:AC)(m6:EQ):Option qKv:=
 bif decide (s7 < (r3.length : Int)) then (bif zB s7 r3.length then ((NF k s1 s7).bind fun x2=>
   (Jd k (r3.getD s7.toNat (0,0,0)).1 (r3.getD s7.toNat (0,0,0)).2.1 (r3.getD s7.toNat (0,0,0)).2.2 x2).bind fun x3=>
   bif zB s7 r3.length then (let y0:List zI:=(r3.set s7.toNat ((r3.getD s7.toNat (0,0,0)).1,(r3.getD s7.toNat (0,0,0)).2.1,x3))
    (Eg k k s1 s7 0 af ah ai ag y0 m4 r5 m6).bind fun z=>
    rec z.1 (zA (z.2.1+1)) z.2.2.1 z.2.2.2.1 z.2.2.2.2.1 z.2.2.2.2.2.1 z.2.2.2.2.2.2.1 z.2.2.2.2.2.2.2.1 z.2.2.2.2.2.2.2.2.1 z.2.2.2.2.2.2.2.2.2)
   else none)
  else none)
 else some (af,ah,ai,ag,r3,m4,r5,m6)
def Ei (k:Nat):Nat→qMz
 |0,_,_,_,_,_,_,_,_,_,_=>none
 |n+1,s1,s7,af,ah,ai,ag,r3,m4,r5,m6=>Ej k (Ei k n) s1 s7 af ah ai ag r3 m4 r5 m6
def AT (k:Nat)(au:List zI)(az:EQ)(ay:AC)(ax:EQ)(a1:List zC):Option ((List zI)×EQ×AC×EQ×Int):=
 (I8 k au az ay ax a1).bind fun x0=>
 bif !x0 then some (au,az,ay,ax,1)
 else(oM k au az ay ax).bind fun x1=>
 (Ei k k a1 0 au az ay ax x1.1 x1.2.1 x1.2.2.1 x1.2.2.2).bind fun z1=>
 (Nl k z1.2.2.2.2.1 z1.2.2.2.2.2.1 z1.2.2.2.2.2.2.1 z1.2.2.2.2.2.2.2).bind fun x5=>
 bif !x5 then some (vX z1 8)
 else some (yMv z1 0)
abbrev qKu:Type:=Int→Int→Int→List zI→EQ→AC→EQ→Option Int
def El (k:Nat)(rec:qKu)(s1 s5 s6:Int)(af:List zI)(ah:EQ)(ai:AC)(ag:EQ):Option Int:=
 bif zB s1 ag.length then (bif decide (s6 < ((ag.getD s1.toNat []).length : Int)) then (bif zB s1 ag.length then (bif zB s6 (ag.getD s1.toNat []).length then(rec s1 (zA (s5+((ag.getD s1.toNat []).getD s6.toNat 0))) (zA (s6+1)) af ah ai ag)
    else none)
   else none)
  else some s5)
 else none
def Ek (k:Nat):Nat→qKu
 |0,_,_,_,_,_,_,_=>none
 |n+1,s1,s5,s6,af,ah,ai,ag=>El k (Ek k n) s1 s5 s6 af ah ai ag
def NI (k:Nat)(au:List zI)(az:EQ)(ay:AC)(ax:EQ)(a1:Int):Option Int:=
 (Ek k k a1 0 0 au az ay ax).bind fun z=>
 some z
abbrev qTd:Type:=(Int×Int×Int×Int×Int×(List zI)×EQ×AC×EQ)⊕Bool
abbrev qS7:Type:=List zC→Int→Int→Int→Int→Int→Int→List zI→EQ→AC→EQ→Option qTd
def En (k:Nat)(rec:qS7)(s1:List zC)(s2 s7 s8 s9 aw aR:Int)(af:List zI)(ah:EQ)(ai:AC)(ag:EQ):Option qTd:=
 bif decide (aR < (af.length : Int)) then ((xf k s1 s2 aR).bind fun x2=>
  (xf k s1 aR s2).bind fun x3=>
  (xf k s1 s2 aR).bind fun x4=>
  bif decide (x4 > 0) then (bif zB s2 ah.length then (bif zB aR (ah.getD s2.toNat []).length then (bif !(decide (((ah.getD s2.toNat []).getD aR.toNat 0) = (-1))) then (bif zB s2 ag.length then (bif zB aR (ag.getD s2.toNat []).length then (bif zB s2 ah.length then (bif zB aR (ah.getD s2.toNat []).length then (bif decide ((zA (((ag.getD s2.toNat []).getD aR.toNat 0)+(zA (x2-x3))))>((ah.getD s2.toNat []).getD aR.toNat 0)) then some (.inr true)
          else rec s1 s2 s7 s8 (zA (s9-(zA (x2-x3)))) (zA (aw+(zA (x2-x3)))) (zA (aR+1)) af ah ai ag)
         else none)
        else none)
       else none)
      else none)
     else rec s1 s2 s7 s8 (zA (s9-(zA (x2-x3)))) (zA (aw+(zA (x2-x3)))) (zA (aR+1)) af ah ai ag)
    else none)
   else none)
  else rec s1 s2 s7 s8 (zA (s9-(zA (x2-x3)))) (zA (aw+(zA (x2-x3)))) (zA (aR+1)) af ah ai ag)
 else some (.inl (s2,s7,s8,s9,aw,af,ah,ai,ag))
def sk (k:Nat):Nat→qS7
 |0,_,_,_,_,_,_,_,_,_,_,_=>none
 |n+1,s1,s2,s7,s8,s9,aw,aR,af,ah,ai,ag=>En k (sk k n) s1 s2 s7 s8 s9 aw aR af ah ai ag
def NM (k:Nat)(au:List zI)(az:EQ)(ay:AC)(ax:EQ)(a1:List zC)(a2:Int):Option Bool:=
 (Jb k a1 a2).bind fun x0=>
 bif decide ((zA (x0.1+x0.2))=0) then some false
 else bif zB a2 au.length then (bif zB a2 au.length then ((NI k au az ay ax a2).bind fun x1=>
   (sk k k a1 a2 x0.1 x0.2 (zA ((au.getD a2.toNat (0,0,0)).1+(au.getD a2.toNat (0,0,0)).2.1)) x1 0 au az ay ax).bind fun z=>
   match z with
   |.inl z1=>bif decide (z1.2.2.2.1<0) then some true
    else bif decide (z1.2.1 > 0) then (bif zB z1.1 z1.2.2.2.2.2.1.length then ((Jd k (z1.2.2.2.2.2.1.getD z1.1.toNat (0,0,0)).1 (z1.2.2.2.2.2.1.getD z1.1.toNat (0,0,0)).2.1 (z1.2.2.2.2.2.1.getD z1.1.toNat (0,0,0)).2.2 z1.2.2.1).bind fun x5=>
      bif decide (z1.2.2.2.1<x5) then some true
      else bif zB z1.1 z1.2.2.2.2.2.2.2.1.length then (bif !(decide ((z1.2.2.2.2.2.2.2.1.getD z1.1.toNat 0) = (-1))) then (bif zB z1.1 z1.2.2.2.2.2.2.2.1.length then some (decide (z1.2.2.2.2.1>(z1.2.2.2.2.2.2.2.1.getD z1.1.toNat 0)))
        else none)
       else some false)
      else none)
     else none)
    else bif zB z1.1 z1.2.2.2.2.2.2.2.1.length then (bif !(decide ((z1.2.2.2.2.2.2.2.1.getD z1.1.toNat 0) = (-1))) then (bif zB z1.1 z1.2.2.2.2.2.2.2.1.length then some (decide (z1.2.2.2.2.1>(z1.2.2.2.2.2.2.2.1.getD z1.1.toNat 0)))
      else none)
     else some false)
    else none
   |.inr z2=>some z2)
  else none)
 else none
abbrev qH8:Type:=List zC→Int→List zI→EQ→AC→EQ→AC→Option AC
def sm (k:Nat)(rec:qH8)(s1:List zC)(s6:Int)(af:List zI)(ah:EQ)(ai:AC)(ag:EQ)(r1:AC):Option AC:=
 bif decide (s6 < (af.length : Int)) then ((NM k af ah ai ag s1 s6).bind fun x0=>
  bif x0 then (bif zP (r1.length+1) 8 then(rec s1 (zA (s6+1)) af ah ai ag (r1++[s6]))
   else none)
  else rec s1 (zA (s6+1)) af ah ai ag r1)
 else some r1
def uf (k:Nat):Nat→qH8
 |0,_,_,_,_,_,_,_=>none
 |n+1,s1,s6,af,ah,ai,ag,r1=>sm k (uf k n) s1 s6 af ah ai ag r1
def ue (k:Nat)(au:List zI)(az:EQ)(ay:AC)(ax:EQ)(a1:List zC):Option AC:=
 (uf k k a1 0 au az ay ax []).bind fun z=>
 some z
def Jf (k:Nat)(au:List zI)(az:EQ)(ay:AC)(ax:EQ)(a1:List zC):Option Bool:=
 (I8 k au az ay ax a1).bind fun x0=>
 bif x0 then ((ue k au az ay ax a1).bind fun x1=>
  some (decide ((x1.length:Int)=0)))
 else some false
def uI (k:Nat)(au:List zI)(az:EQ)(ay:AC)(ax:EQ)(a1:List zC):Option ((List zI)×EQ×AC×EQ×Bool):=
 (AT k au az ay ax a1).bind fun x0=>
 bif decide (x0.2.2.2.2 = 0) then ((Jf k au az ay ax a1).bind fun x1=>
  some (vX x0 x1))
 else some (vX x0 false)
abbrev qWi:Type:=zC⊕(Bool×Int×Int×Int×Int×Int×Int×Int)
abbrev qNx:Type:=Int→List zI→EQ→AC→EQ→Int→Int→Int→Int→Int→Int→Int→List zC→Option qWi
def Gh (k:Nat)(rec:qNx)(s9:Int)(af:List zI)(ah:EQ)(ai:AC)(ag:EQ)(av aB aC aE aG aH aI:Int)(r2:List zC):Option qWi:=
 bif decide (s9 < (r2.length : Int)) then (bif ((decide (0 ≤ s9)) && (decide (s9 ≤ (zA (s9 + 1))))) && (decide ((zA (s9 + 1)) ≤ (r2.length : Int))) then ((uI k af ah ai ag (qR r2 (0+s9.toNat) ((zA (s9+1)).toNat-s9.toNat))).bind fun x1=>
   bif x1.2.2.2.2 then (bif zB s9 r2.length then some (.inr (true,(r2.getD s9.toNat (0,0,0,0,0,0,0)).1,(r2.getD s9.toNat (0,0,0,0,0,0,0)).2.1,(r2.getD s9.toNat (0,0,0,0,0,0,0)).2.2.1,(r2.getD s9.toNat (0,0,0,0,0,0,0)).2.2.2.1,(r2.getD s9.toNat (0,0,0,0,0,0,0)).2.2.2.2.1,(r2.getD s9.toNat (0,0,0,0,0,0,0)).2.2.2.2.2.1,(r2.getD s9.toNat (0,0,0,0,0,0,0)).2.2.2.2.2.2))
    else none)
   else rec (zA (s9+1)) af ah ai ag av aB aC aE aG aH aI r2)
  else none)
 else some (.inl (av,aB,aC,aE,aG,aH,aI))
def Kv (k:Nat):Nat→qNx
 |0,_,_,_,_,_,_,_,_,_,_,_,_,_=>none
 |n+1,s9,af,ah,ai,ag,av,aB,aC,aE,aG,aH,aI,r2=>Gh k (Kv k n) s9 af ah ai ag av aB aC aE aG aH aI r2
def Pg (k:Nat)(au:List zI)(az:EQ)(ay:AC)(ax:EQ)(a1:List zC)(a2:Int):Option (Int×Int×Int×Int×Int×Int×Int×Bool):=
 (Ju k a1 a2).bind fun x0=>
 (Kv k k 0 au az ay ax 0 0 0 0 0 0 0 x0).bind fun z=>
 match z with
 |.inl z1=>some (0,0,0,0,0,0,0,false)
 |.inr z2=>some (yS8 z2 z2.1)
end Go.Ab.Gi
