/- part 6 -/
import Derived.Test.YtnojdbmhfbhdjaaGreatGiAbD
set_option linter.unusedVariables false
set_option maxRecDepth 100000
abbrev Go.Ab.Ty.i:Go.Ab.Ty:=.int .i64
abbrev Go.Ab.CS.i:Go.Ab.CS:=.int .i64
abbrev Go.Ab.PC.i:Go.Ab.PC:=.int .i64
abbrev Go.Ab.RC.i:Go.Ab.RC:=.int .i64
namespace Go.Ab.Gi
abbrev AC:=List Int
abbrev EQ:=List AC
abbrev jG:Type:=AC×AC×Int×Int×Int×Int×Int×Int×Bool×Bool
abbrev wW:Type:=AC×Bool
abbrev wQ:Go.Ab.Ty:=.pair .i .i
abbrev wJ:Type:=Int×AC×Int×AC×Int×Int×Int×Bool×Bool×Int
abbrev fa:Type:=Int×Bool
abbrev yQ:Type:=Int×Int×Bool
abbrev vS:Type:=Int×Int×Int×Bool
abbrev Ds:Type:=Int×Int×Int×Int×Int×Bool×Bool×Int
abbrev Dn:Type:=Int×Int×Int×Int×Int×Int×Bool×Bool
abbrev qJ:Type:=Int×Int×Int×Int×Int×Int×Int×Int
abbrev zD:Type:=Int×Int×Int×Int×Int×Int×Int
abbrev NT:Type:=Int×Int×Int×Int×Int×Int
abbrev zJ:Type:=Int×Int×Int
abbrev vX:Type:=Int×Int
abbrev yAv:Type:=(List zD)×Int×Int×Int×Int×Int×Int×Int×Int
abbrev tA:Type:=(List zJ)×EQ×AC×EQ×(List zD)×(List zD)
abbrev AH:Type:=(List zJ)×EQ×AC×EQ
abbrev qQ:Go.Ab.Ty:=.pair .i wQ
abbrev yZd:Type:=Bool×Int×Int×Int×Int×Int×Int×Int×Int×Int×Int×Int×Int×Int×Int×(List zJ)×EQ×AC×EQ
abbrev Tp:Type:=Int×(List zJ)×EQ×AC×EQ×AC×EQ×(List zD)×AC×Int×Bool×(List qJ)
abbrev qV:Type:=Int×(List zJ)×EQ×AC×EQ×AC×EQ×(List zD)×AC×Int×Bool
abbrev vy:Type:=Int×(List vX)×Int×Int×Int×Int×(List zJ)×EQ×AC×EQ×AC×EQ×(List zD)×AC×Int×Bool×Int×(List qJ)×Int
abbrev jO:Type:=Int×(List vX)×Int×Int×Int×Int×(List zJ)×EQ×AC×EQ×AC×EQ×(List zD)×AC×Int×Bool×Int×(List qJ)
abbrev gP:Type:=Int×(List vX)×Int×Int×Int×Int×(List zJ)×EQ×AC×EQ×AC×EQ×(List zD)×AC×Int×Bool×Int×Bool
abbrev rG:Type:=Int×(List vX)×Int×Int×Int×Int×(List zJ)×EQ×AC×EQ×AC×EQ×(List zD)×AC×Int×Bool×Int×Int
abbrev lM:Type:=Int×(List vX)×Int×Int×Int×Int×(List zJ)×EQ×AC×EQ×AC×EQ×(List zD)×AC×Int×Bool×Int
abbrev yA:Type:=Int×(List vX)×Int×Int×Int
abbrev agA:Go.Ab.Ty:=.pair .i qQ
abbrev vLy:Go.Ab.Ty:=.pair .i agA
abbrev vW2:Go.Ab.Ty:=.pair .i vLy
abbrev zG:Go.Ab.Ty:=.pair .i vW2
abbrev yE:Go.Ab.Ty:=.pair .i zG
abbrev yCi:List Go.Ab.CS:=[.dat false .i,.dat false .i,.dat false (.sl .i)]
abbrev jP:List Go.Ab.CS:=[.dat false qQ,.dat false (.sl .i),.dat false .i,.dat false (.sl .i)]
abbrev pF:List Go.Ab.CS:=[.dat true (.int .u8),.bool]
abbrev wC:List Go.Ab.CS:=[.dat true qQ,.dat true (.sl .i),.dat true .i,.dat true (.sl .i)]
abbrev lK:List Go.Ab.CS:=[.i,.dat false qQ,.dat false (.sl .i),.dat false .i,.dat false (.sl .i),.dat false .i,.dat false (.sl .i),.dat false zG,.dat false .i,.i,.bool]
abbrev iH:List Go.Ab.CS:=[.i,.dat false wQ,.i,.i,.i]
abbrev iI:List Go.Ab.CS:=[.i,.dat true qQ,.dat true (.sl .i),.dat true .i,.dat true (.sl .i),.dat true .i,.dat true (.sl .i),.dat true zG,.dat true .i,.i,.bool]
abbrev I3:List Go.Ab.CS:=[.i,.dat true wQ,.i,.i,.i]
abbrev qTx:List Go.Ab.CS:=[.i,.dat true wQ,.i,.i,.i,.i,.dat true qQ,.dat true (.sl .i),.dat true .i,.dat true (.sl .i),.dat true .i,.dat true (.sl .i),.dat true zG,.dat true .i,.i,.bool,.i,.lit (.osl 1001001 none)]
abbrev qRx:List Go.Ab.CS:=[.i,.dat true wQ,.i,.i,.i,.i,.dat true qQ,.dat true (.sl .i),.dat true .i,.dat true (.sl .i),.dat true .i,.dat true (.sl .i),.dat true zG,.dat true .i,.i,.bool,.i,.lit .nsl]
abbrev qWt:List Go.Ab.CS:=[.i,.dat true wQ,.i,.i,.i,.i,.dat true qQ,.dat true (.sl .i),.dat true .i,.dat true (.sl .i),.dat true .i,.dat true (.sl .i),.dat true zG,.dat true .i,.i,.bool,.i,.lit .nsl,.i]
abbrev vY:List Go.Ab.CS:=[.i,.i,.i,.i,.i,.i,.i]
abbrev yIr:List Go.Ab.CS:=[.i,.i,.i,.i,.i,.i,.i,.i,.i,.i,.i,.i,.i,.i,.dat true qQ,.dat true (.sl .i),.dat true .i,.dat true (.sl .i)]
abbrev SJ:List Go.Ab.CS:=[.i,.i,.i,.i,.i,.i,.i,.i,.i,.i,.i,.i,.i,.i,.lit .nsl,.lit .nsl,.lit .nsl,.lit .nsl]
abbrev yO0:List Go.Ab.CS:=[.i,.lit (.osl 1001001 none),.i,.lit (.osl 1001002 none),.i,.i,.i,.bool,.bool,.i]
abbrev yL1:List Go.Ab.CS:=[.i,.lit (.osl 1001002 none),.lit (.osl 1001003 none),.lit (.osl 1001004 none),.lit (.osl 1001005 none),.lit (.osl 1001006 none),.lit (.osl 1001007 none),.lit .nsl,.lit .nsl,.i,.bool]
abbrev yG1:List Go.Ab.CS:=[.i,.lit (.osl 1001003 none),.i,.lit (.osl 1001004 none),.i,.i,.i,.bool,.bool,.i]
abbrev qRi:List Go.Ab.CS:=[.i,.lit (.osl 1001003 none),.lit (.osl 1001004 none),.lit (.osl 1001005 none),.lit (.osl 1001006 none),.lit (.osl 1001007 none),.lit (.osl 1001008 none),.lit (.osl 1001009 none),.lit .nsl,.i,.bool]
abbrev vG8:List Go.Ab.CS:=[.i,.lit (.osl 1001003 none),.lit (.osl 1001004 none),.lit (.osl 1001005 none),.lit (.osl 1001006 none),.lit (.osl 1001007 none),.lit (.osl 1001008 none),.lit .nsl,.lit .nsl,.i,.bool]
abbrev Sf:List Go.Ab.CS:=[.i,.lit (.osl 1001003 none),.lit (.osl 1001004 none),.lit (.osl 1001005 none),.lit (.osl 1001006 none),.lit (.osl 1001007 none),.lit .nsl,.lit .nsl,.lit .nsl,.i,.bool]
abbrev Sn:List Go.Ab.CS:=[.i,.lit (.osl 1001004 none),.lit .nsl,.lit .nsl,.lit .nsl,.lit .nsl,.lit .nsl,.lit .nsl,.lit .nsl,.i,.bool]
abbrev jN:List Go.Ab.CS:=[.i,.lit .nsl,.lit .nsl,.lit .nsl,.lit .nsl,.lit .nsl,.lit .nsl,.lit .nsl,.lit .nsl,.i,.bool]
abbrev vHl:List Go.Ab.CS:=[.lit (.osl 1001001 none),.lit (.osl 1001002 none),.i,.i,.i,.i,.i,.i,.bool,.bool]
abbrev qU6:List Go.Ab.CS:=[.lit (.osl 1001002 none),.lit (.osl 1001003 none),.lit (.osl 1001004 none)]
abbrev tz:List Go.Ab.CS:=[.lit (.osl 1001003 none),.lit (.osl 1001004 none),.lit (.osl 1001005 none),.lit (.osl 1001006 none)]
abbrev vJg:List Go.Ab.CS:=[.lit (.osl 1001004 none),.lit (.osl 1001005 none),.lit (.osl 1001006 none),.lit (.osl 1001007 none)]
abbrev SR:List Go.Ab.CS:=[.lit (.ptr 1001000 0),.i,.i,.i,.bool]
abbrev yMe:List Go.Ab.CS:=[.lit (.ptr 1001001 0),.i,.dat true wQ,.i,.i,.i,.i,.dat true qQ,.dat true (.sl .i),.dat true .i,.dat true (.sl .i),.dat true .i,.dat true (.sl .i),.dat true zG,.dat true .i,.i,.bool,.i,.bool]
abbrev yEa:List Go.Ab.CS:=[.lit (.ptr 1001002 0),.i,.i,.i,.bool]
abbrev oD:List Go.Ab.CS:=[.lit .nsl,.lit .nsl,.lit .nsl,.lit .nsl]
abbrev SH:List Go.Ab.PC:=[.dat false .i,.dat false .i,.dat false (.sl .i)]
abbrev SU:List Go.Ab.PC:=[.dat false (.int .u8),.dat false (.int .u8),.i,.i,.i,.i,.i,.i,.bool,.bool]
abbrev jZ:List Go.Ab.PC:=[.dat false qQ,.dat false (.sl .i),.dat false .i,.dat false (.sl .i)]
abbrev lg:List Go.Ab.PC:=[.dat true qQ,.dat true (.sl .i),.dat true .i,.dat true (.sl .i)]
abbrev Nu:List Go.Ab.PC:=[.i,.dat false (.int .u8),.i,.dat false (.int .u8),.i,.i,.i,.bool,.bool,.i]
abbrev nx:List Go.Ab.PC:=[.i,.dat false qQ,.dat false (.sl .i),.dat false .i,.dat false (.sl .i),.dat false .i,.dat false (.sl .i),.dat false zG,.dat false .i,.i,.bool]
abbrev ig:List Go.Ab.PC:=[.i,.dat false wQ,.i,.i,.i]
abbrev qXv:List Go.Ab.PC:=[.i,.dat false wQ,.i,.i,.i,.i,.dat false qQ,.dat false (.sl .i),.dat false .i,.dat false (.sl .i),.dat false .i,.dat false (.sl .i),.dat false zG,.dat false .i,.i,.bool,.i,.dat false yE]
abbrev vDs:List Go.Ab.PC:=[.i,.dat false wQ,.i,.i,.i,.i,.dat false qQ,.dat false (.sl .i),.dat false .i,.dat false (.sl .i),.dat false .i,.dat false (.sl .i),.dat false zG,.dat false .i,.i,.bool,.i,.dat false yE,.i]
abbrev Av:List Go.Ab.PC:=[.i,.dat true qQ,.dat true (.sl .i),.dat true .i,.dat true (.sl .i),.dat true .i,.dat true (.sl .i),.dat true zG,.dat true .i,.i,.bool]
abbrev NG:List Go.Ab.PC:=[.i,.dat true wQ,.i,.i,.i]
abbrev oC:List Go.Ab.PC:=[.i,.i,.i]
abbrev Ny:List Go.Ab.PC:=[.i,.i,.i,.i,.i,.i]
abbrev vM:List Go.Ab.PC:=[.i,.i,.i,.i,.i,.i,.i]
abbrev C7:List Go.Ab.PC:=[.i,.i,.i,.i,.i,.i,.i,.i]
abbrev ny:List Go.Ab.RC:=[.fro qQ,.fro (.sl .i),.fro .i,.fro (.sl .i)]
abbrev yF:List Go.Ab.RC:=[.i]
abbrev Au:List Go.Ab.RC:=[.i,.fro qQ,.fro (.sl .i),.fro .i,.fro (.sl .i),.fro .i,.fro (.sl .i),.fro zG,.fro .i,.i,.bool]
abbrev lH:List Go.Ab.RC:=[.i,.fro wQ,.i,.i,.i,.i,.fro qQ,.fro (.sl .i),.fro .i,.fro (.sl .i),.fro .i,.fro (.sl .i),.fro zG,.fro .i,.i,.bool,.i,.own yE]
abbrev Dg:List Go.Ab.RC:=[.i,.fro wQ,.i,.i,.i,.i,.fro qQ,.fro (.sl .i),.fro .i,.fro (.sl .i),.fro .i,.fro (.sl .i),.fro zG,.fro .i,.i,.bool,.i,.own yE,.i]
abbrev yGa:List Go.Ab.RC:=[.i,.fro wQ,.i,.i,.i,.link 1,.i,.fro qQ,.fro (.sl .i),.fro .i,.fro (.sl .i),.fro .i,.fro (.sl .i),.fro zG,.fro .i,.i,.bool,.i,.bool]
abbrev pG:List Go.Ab.RC:=[.i,.i,.i,.i,.i,.i,.i]
abbrev yDs:List Go.Ab.RC:=[.i,.i,.i,.i,.i,.i,.i,.i]
abbrev lf:List Go.Ab.RC:=[.i,.own (.int .u8),.i,.own (.int .u8),.i,.i,.i,.bool,.bool,.i]
abbrev qYw:List Go.Ab.RC:=[.i,.own qQ,.mat,.own .i,.mat,.own .i,.mat,.own zG,.own .i,.i,.bool]
abbrev Sl:List Go.Ab.RC:=[.link 0,.i,.i,.i,.bool]
abbrev R6:List Go.Ab.RC:=[.link 1,.i,.fro wQ,.i,.i,.i,.i,.fro qQ,.fro (.sl .i),.fro .i,.fro (.sl .i),.fro .i,.fro (.sl .i),.fro zG,.fro .i,.i,.bool,.i,.bool]
abbrev Nq:List Go.Ab.RC:=[.link 1,.i,.i,.i,.bool]
abbrev IN:List Go.Ab.RC:=[.link 2,.i,.i,.i,.bool]
abbrev nv:List Go.Ab.RC:=[.own (.int .u8),.own (.int .u8),.i,.i,.i,.i,.i,.i,.bool,.bool]
abbrev R5:List Go.Ab.XC:=[.link 1,.p .i,.p (.dat true wQ),.p .i,.p .i,.p .i,.p .i,.p (.dat true qQ),.p (.dat true (.sl .i)),.p (.dat true .i),.p (.dat true (.sl .i)),.p (.dat true .i),.p (.dat true (.sl .i)),.p (.dat true zG),.p (.dat true .i),.p .i,.p .bool,.p .i,.p .bool]
abbrev Np:List Go.Ab.XC:=[.link 1,.p .i,.p .i,.p .i,.p .bool]
abbrev IM:List Go.Ab.XC:=[.link 2,.p .i,.p .i,.p .i,.p .bool]
abbrev rj:List Go.Ab.XC:=[.own (.int .u8),.own (.int .u8),.p .i,.p .i,.p .i,.p .i,.p .i,.p .i,.p .bool,.p .bool]
abbrev IS:List Go.Ab.XC:=[.p (.dat true (.int .u8)),.p .bool]
abbrev nu:List Go.Ab.XC:=[.p .i,.own (.int .u8),.p .i,.own (.int .u8),.p .i,.p .i,.p .i,.p .bool,.p .bool,.p .i]
abbrev vI5:List Go.Ab.XC:=[.p .i,.p (.dat true wQ),.p .i,.p .i,.p .i,.link 1,.p .i,.p (.dat true qQ),.p (.dat true (.sl .i)),.p (.dat true .i),.p (.dat true (.sl .i)),.p (.dat true .i),.p (.dat true (.sl .i)),.p (.dat true zG),.p (.dat true .i),.p .i,.p .bool,.p .i,.p .bool]
abbrev Ay:List Go.Ab.XC:=[.p .i,.p (.dat true wQ),.p .i,.p .i,.p .i,.p .i,.p (.dat true qQ),.p (.dat true (.sl .i)),.p (.dat true .i),.p (.dat true (.sl .i)),.p (.dat true .i),.p (.dat true (.sl .i)),.p (.dat true zG),.p (.dat true .i),.p .i,.p .bool,.p .i,.own yE]
abbrev Aw:List Go.Ab.XC:=[.p .i,.p (.dat true wQ),.p .i,.p .i,.p .i,.p .i,.p (.dat true qQ),.p (.dat true (.sl .i)),.p (.dat true .i),.p (.dat true (.sl .i)),.p (.dat true .i),.p (.dat true (.sl .i)),.p (.dat true zG),.p (.dat true .i),.p .i,.p .bool,.p .i,.p (.nil)]
abbrev Df:List Go.Ab.XC:=[.p .i,.p (.dat true wQ),.p .i,.p .i,.p .i,.p .i,.p (.dat true qQ),.p (.dat true (.sl .i)),.p (.dat true .i),.p (.dat true (.sl .i)),.p (.dat true .i),.p (.dat true (.sl .i)),.p (.dat true zG),.p (.dat true .i),.p .i,.p .bool,.p .i,.p (.nil),.p .i]
section
variable {A B C D E F G H I J K L M N O P Q R S U V W X Z a b Aa Ab Ac Ad Ae Af Ag Ah Ai Aj Ak Al Am An Ao Ap Aq Ar As At T Y:Type}
abbrev jI (x:A×B×C×D)(t:T):=(x.1,x.2.1,x.2.2.1,x.2.2.2,t)
abbrev vK (x:A×B×C×D×E)(t:T):=(x.1,jI x.2 t)
abbrev oE (x:A×B×C×D×E×F)(t:T):=(x.1,vK x.2 t)
abbrev gh (x:A×B×C×D×E×F×G)(t:T):=(x.1,oE x.2 t)
abbrev Db (x:A×B×C×D×E×F×G×H)(t:T):=(x.1,gh x.2 t)
abbrev Sx (x:A×B×C×D×E×F×G×H×I)(t:T):=(x.1,Db x.2 t)
abbrev wY (x:A×B×C×D×E×F×G×H×I×J)(t:T):=(x.1,Sx x.2 t)
abbrev vP (x:A×B×C×D×E×F×G×H×I×J×K)(t:T):=(x.1,wY x.2 t)
abbrev IZ (x:A×B×C×D×E×F×G×H×I×J×K×L)(t:T):=(x.1,vP x.2 t)
abbrev yXi (x:A×B×C×D×E×F×G×H×I×J×K×L×M)(t:T):=(x.1,IZ x.2 t)
abbrev qTu (x:A×B×C×D×E×F×G×H×I×J×K×L×M×N)(t:T):=(x.1,yXi x.2 t)
abbrev vBr (x:A×B×C×D×E×F×G×H×I×J×K×L×M×N×O)(t:T):=(x.1,qTu x.2 t)
abbrev vZ8 (x:A×B×C×D×E×F×G×H×I×J×K×L×M×N×O×P)(t:T):=(x.1,vBr x.2 t)
abbrev vR (x:A×B×C×D×E×F×G×H×I×J×K×L×M×N×O×P×Q)(t:T):=(x.1,vZ8 x.2 t)
abbrev jR (x:A×B×C×D×E×F×G×H×I×J×K×L×M×N×O×P×Q×R)(t:T):=(x.1,vR x.2 t)
abbrev AE (x:A×B×C×D×E×F×G×H×I×J×K×L×M×N×O×P×Q×R×S)(t:T):=(x.1,jR x.2 t)
abbrev jM (x:A×B×C×D×E):=(x.1,x.2.1,x.2.2.1,x.2.2.2.1)
abbrev qZ (x:A×B×C×D×E×F):=(x.1,jM x.2)
abbrev nz (x:A×B×C×D×E×F×G):=(x.1,qZ x.2)
abbrev vO (x:A×B×C×D×E×F×G×H):=(x.1,nz x.2)
abbrev kp (x:A×B×C×D×E×F×G×H×I):=(x.1,vO x.2)
abbrev Sy (x:A×B×C×D×E×F×G×H×I×J):=(x.1,kp x.2)
abbrev jC (x:A×B×C×D×E×F×G×H×I×J×K):=(x.1,Sy x.2)
abbrev qO (x:A×B×C×D×E×F×G×H×I×J×K×L):=(x.1,jC x.2)
abbrev I1 (x:A×B×C×D×E×F×G×H×I×J×K×L×M):=(x.1,qO x.2)
abbrev Tx (x:A×B×C×D×E×F×G×H×I×J×K×L×M×N):=(x.1,I1 x.2)
abbrev yMz (x:A×B×C×D×E×F×G×H×I×J×K×L×M×N×O):=(x.1,Tx x.2)
abbrev yY7 (x:A×B×C×D×E×F×G×H×I×J×K×L×M×N×O×P):=(x.1,yMz x.2)
abbrev agB (x:A×B×C×D×E×F×G×H×I×J×K×L×M×N×O×P×Q):=(x.1,yY7 x.2)
abbrev lI (x:A×B×C×D×E×F×G×H×I×J×K×L×M×N×O×P×Q×R):=(x.1,agB x.2)
abbrev jQ (x:A×B×C×D×E×F×G×H×I×J×K×L×M×N×O×P×Q×R×S):=(x.1,lI x.2)
abbrev SK (x:A×B×C×D×E×F×G×H×I×J×K×L×M×N×O×P×Q×R×S×U):=(x.1,jQ x.2)
abbrev vV (x:A×B×C×D×E)(t:T):=(x.1,x.2.1,x.2.2.1,x.2.2.2.1,t)
abbrev gg (x:A×B×C×D×E×F)(t:T):=(x.1,vV x.2 t)
abbrev jH (x:A×B×C×D×E×F×G)(t:T):=(x.1,gg x.2 t)
abbrev kk (x:A×B×C×D×E×F×G×H)(t:T):=(x.1,jH x.2 t)
abbrev agC (x:A×B×C×D×E×F×G×H×I)(t:T):=(x.1,kk x.2 t)
abbrev yA4 (x:A×B×C×D×E×F×G×H×I×J)(t:T):=(x.1,agC x.2 t)
abbrev agD (x:A×B×C×D×E×F×G×H×I×J×K)(t:T):=(x.1,yA4 x.2 t)
abbrev AB (x:A×B×C×D×E×F×G×H×I×J×K×L)(t:T):=(x.1,agD x.2 t)
abbrev kt (x:A×B×C×D×E×F×G×H×I×J×K×L×M)(t:T):=(x.1,AB x.2 t)
abbrev vXj (x:A×B×C×D×E×F×G×H×I×J×K×L×M×N)(t:T):=(x.1,kt x.2 t)
abbrev qPf (x:A×B×C×D×E×F×G×H×I×J×K×L×M×N×O)(t:T):=(x.1,vXj x.2 t)
abbrev vY5 (x:A×B×C×D×E×F×G×H×I×J×K×L×M×N×O×P)(t:T):=(x.1,qPf x.2 t)
abbrev vUz (x:A×B×C×D×E×F×G×H×I×J×K×L×M×N×O×P×Q)(t:T):=(x.1,vY5 x.2 t)
abbrev yH (x:A×B×C×D×E×F×G×H×I×J×K×L×M×N×O×P×Q×R)(t:T):=(x.1,vUz x.2 t)
abbrev yMm (x:A×B×C×D×E×F×G×H×I×J×K×L×M×N×O×P×Q×R×S)(t:T):=(x.1,yH x.2 t)
abbrev vF (f:A→B→C→D→Y)(x:A×B×C×D×E):Y:=f x.1 x.2.1 x.2.2.1 x.2.2.2.1
abbrev lJ (f:A→B→C→D→E→Y)(x:A×B×C×D×E×F):Y:=vF (f x.1) x.2
abbrev kq (f:A→B→C→D→E→F→Y)(x:A×B×C×D×E×F×G):Y:=lJ (f x.1) x.2
abbrev mA (f:A→B→C→D→E→F→G→Y)(x:A×B×C×D×E×F×G×H):Y:=kq (f x.1) x.2
abbrev mz (f:A→B→C→D→E→F→G→H→Y)(x:A×B×C×D×E×F×G×H×I):Y:=mA (f x.1) x.2
abbrev SG (f:A→B→C→D→E→F→G→H→I→Y)(x:A×B×C×D×E×F×G×H×I×J):Y:=mz (f x.1) x.2
abbrev agE (f:A→B→C→D→E→F→G→H→I→J→Y)(x:A×B×C×D×E×F×G×H×I×J×K):Y:=SG (f x.1) x.2
abbrev tx (f:A→B→C→D→E→F→G→H→I→J→K→Y)(x:A×B×C×D×E×F×G×H×I×J×K×L):Y:=agE (f x.1) x.2
abbrev NF (f:A→B→C→D→E→F→G→H→I→J→K→L→Y)(x:A×B×C×D×E×F×G×H×I×J×K×L×M):Y:=tx (f x.1) x.2
abbrev qSb (f:A→B→C→D→E→F→G→H→I→J→K→L→M→Y)(x:A×B×C×D×E×F×G×H×I×J×K×L×M×N):Y:=NF (f x.1) x.2
abbrev IU (f:A→B→C→D→E→F→G→H→I→J→K→L→M→N→Y)(x:A×B×C×D×E×F×G×H×I×J×K×L×M×N×O):Y:=qSb (f x.1) x.2
abbrev vPk (f:A→B→C→D→E→F→G→H→I→J→K→L→M→N→O→Y)(x:A×B×C×D×E×F×G×H×I×J×K×L×M×N×O×P):Y:=IU (f x.1) x.2
abbrev yV4 (f:A→B→C→D→E→F→G→H→I→J→K→L→M→N→O→P→Y)(x:A×B×C×D×E×F×G×H×I×J×K×L×M×N×O×P×Q):Y:=vPk (f x.1) x.2
abbrev vKo (f:A→B→C→D→E→F→G→H→I→J→K→L→M→N→O→P→Q→Y)(x:A×B×C×D×E×F×G×H×I×J×K×L×M×N×O×P×Q×R):Y:=yV4 (f x.1) x.2
abbrev agF (f:A→B→C→D→E→F→G→H→I→J→K→L→M→N→O→P→Q→R→Y)(x:A×B×C×D×E×F×G×H×I×J×K×L×M×N×O×P×Q×R×S):Y:=vKo (f x.1) x.2
abbrev vMr (f:A→B→C→D→E→F→G→H→I→J→K→L→M→N→O→P→Q→R→S→Y)(x:A×B×C×D×E×F×G×H×I×J×K×L×M×N×O×P×Q×R×S×U):Y:=agF (f x.1) x.2
abbrev qYy (x:A×B×C×D×E×F×G×H×I×J×K×L×M×N×O×P×Q)(t:T):=jI x.2.2.2.2.2.2.2.2.2.2.2.2.2 t
abbrev Cx (x:A×B×C×D×E×F)(t:T):=jI x.2.2 t
abbrev vN7 (x:A×B×C×D×E×F×G)(t:T):=jI x.2.2.2 t
abbrev yWs (x:A×B×C×D×E×F×G×H)(t:T):=jI x.2.2.2.2 t
abbrev vT9 (x:A×B×C×D×E×F×G×H×I)(t:T):=jI x.2.2.2.2.2 t
abbrev vPz (x:A×B×C×D×E×F×G×H×I×J×K×L)(t:T):=jI x.2.2.2.2.2.2.2.2 t
abbrev yRw (x:A×B×C×D×E×F×G×H×I×J×K×L×M×N×O×P×Q)(t:T):=vK x.2.2.2.2.2.2.2.2.2.2.2.2 t
abbrev qQ4 (x:A×B×C×D×E×F×G×H×I×J×K×L×M×N×O×P×Q)(t:T):=oE x.2.2.2.2.2.2.2.2.2.2.2 t
abbrev yQ6 (x:A×B×C×D×E×F×G×H)(t:T):=oE x.2.2 t
abbrev qOc (x:A×B×C×D×E×F×G×H×I×J×K×L×M×N×O×P×Q)(t:T):=gh x.2.2.2.2.2.2.2.2.2.2 t
abbrev yKg (x:A×B×C×D×E×F×G×H)(t:T):=gh x.2 t
abbrev ND (x:A×B×C×D×E×F×G×H×I×J×K)(t:T):=gh x.2.2.2.2 t
abbrev yRa (x:A×B×C×D×E×F×G×H×I×J×K×L×M×N)(t:T):=gh x.2.2.2.2.2.2.2 t
abbrev vAe (x:A×B×C×D×E×F×G×H×I×J×K×L×M×N×O)(t:T):=gh x.2.2.2.2.2.2.2.2 t
abbrev vNm (x:A×B×C×D×E×F×G×H×I×J×K×L)(t:T):=vP x.2 t
abbrev lF (x:A×B×C×D×E×F×G×H×I×J×K×L×M×N×O×P×Q×R)(t:T):=vP x.2.2.2.2.2.2.2 t
abbrev yAo (x:A×B×C×D×E×F×G×H×I×J×K×L×M×N×O×P×Q×R)(t:T):=yXi x.2.2.2.2.2 t
abbrev vU2 (x:A×B×C×D×E×F×G×H×I×J×K×L×M×N×O)(t:T):=qTu x.2 t
abbrev yBv (x:A×B×C×D×E×F×G×H×I×J×K×L×M×N×O×P×Q×R×S)(t:T):=jR x.2 t
abbrev yFr (x:A×B×C×D×E×F×G×H×I×J×K×L×M×N×O×P×Q×R×S×U):=jM x.2.2.2.2.2.2.2.2.2.2.2.2.2.2.2
abbrev zz (x:A×B×C×D×E×F):=jM x.2
abbrev IP (x:A×B×C×D×E×F×G×H×I×J×K×L×M×N×O×P×Q×R×S×U×V×W×X×Z×a):=jM x.2.2.2.2.2.2.2.2.2.2.2.2.2.2.2.2.2.2.2.2
abbrev Nn (x:A×B×C×D×E×F×G×H×I×J×K×L×M×N×O×P×Q×R×S×U×V×W×X×Z×a×b):=jM x.2.2.2.2.2.2.2.2.2.2.2.2.2.2.2.2.2.2.2.2.2
abbrev Nr (x:A×B×C×D×E×F×G):=jM x.2.2
abbrev abC (x:A×B×C×D×E×F×G×H×I×J×K×L×M×N×O×P×Q×R×S×U×V×W×X×Z×a×b×Aa×Ab×Ac×Ad×Ae×Af×Ag×Ah×Ai×Aj):=jM x.2.2.2.2.2.2.2.2.2.2.2.2.2.2.2.2.2.2.2.2.2.2.2.2.2.2.2.2.2.2.2
abbrev vI8 (x:A×B×C×D×E×F×G×H×I×J×K×L×M×N×O×P×Q×R×S×U×V×W×X×Z×a×b×Aa×Ab×Ac×Ad×Ae×Af×Ag×Ah×Ai×Aj×Ak):=jM x.2.2.2.2.2.2.2.2.2.2.2.2.2.2.2.2.2.2.2.2.2.2.2.2.2.2.2.2.2.2.2.2
abbrev yXv (x:A×B×C×D×E×F×G×H×I×J×K×L×M×N×O×P×Q×R×S×U×V×W×X×Z×a):=nz x.2.2.2.2.2.2.2.2.2.2.2.2.2.2.2.2.2.2
abbrev afU (x:A×B×C×D×E×F×G×H×I×J×K×L×M×N×O×P×Q×R×S×U×V×W×X×Z×a×b):=nz x.2.2.2.2.2.2.2.2.2.2.2.2.2.2.2.2.2.2.2
abbrev yHz (x:A×B×C×D×E×F×G×H×I×J×K×L×M×N×O×P×Q×R×S×U×V×W×X×Z×a×b×Aa):=nz x.2.2.2.2.2.2.2.2.2.2.2.2.2.2.2.2.2.2.2.2
abbrev IW (x:A×B×C×D×E×F×G×H×I×J×K×L×M×N×O×P×Q×R×S×U×V×W×X×Z×a×b):=vO x.2.2.2.2.2.2.2.2.2.2.2.2.2.2.2.2.2.2
abbrev vLt (x:A×B×C×D×E×F×G×H×I×J×K×L×M×N×O×P×Q×R×S×U×V×W×X×Z×a×b×Aa):=vO x.2.2.2.2.2.2.2.2.2.2.2.2.2.2.2.2.2.2.2
abbrev Sv (x:A×B×C×D×E×F×G×H×I):=vO x.2
abbrev yDq (x:A×B×C×D×E×F×G×H×I×J×K×L×M×N):=vO x.2.2.2.2.2.2
abbrev qR2 (x:A×B×C×D×E×F×G×H×I×J×K×L×M×N×O):=vO x.2.2.2.2.2.2.2
abbrev qNt (x:A×B×C×D×E×F×G×H×I×J×K×L×M×N×O×P×Q×R×S×U×V×W×X×Z×a):=kp x.2.2.2.2.2.2.2.2.2.2.2.2.2.2.2.2
abbrev vV4 (x:A×B×C×D×E×F×G×H×I×J×K×L×M×N×O×P×Q×R×S×U×V×W×X×Z×a×b×Aa×Ab×Ac×Ad×Ae×Af×Ag×Ah×Ai×Aj×Ak×Al×Am×An×Ao×Ap×Aq):=kp x.2.2.2.2.2.2.2.2.2.2.2.2.2.2.2.2.2.2.2.2.2.2.2.2.2.2.2.2.2.2.2.2.2.2
abbrev vTz (x:A×B×C×D×E×F×G×H×I×J×K×L×M×N):=kp x.2.2.2.2.2
abbrev pE (x:A×B×C×D×E×F×G×H×I×J×K×L):=jC x.2
abbrev IQ (x:A×B×C×D×E×F×G×H×I×J×K×L×M×N×O×P×Q×R×S×U×V×W×X×Z×a×b×Aa×Ab×Ac×Ad×Ae×Af×Ag×Ah×Ai):=jC x.2.2.2.2.2.2.2.2.2.2.2.2.2.2.2.2.2.2.2.2.2.2.2.2
abbrev No (x:A×B×C×D×E×F×G×H×I×J×K×L×M×N×O×P×Q×R×S×U×V×W×X×Z×a×b×Aa×Ab×Ac×Ad×Ae×Af×Ag×Ah×Ai×Aj):=jC x.2.2.2.2.2.2.2.2.2.2.2.2.2.2.2.2.2.2.2.2.2.2.2.2.2
abbrev SS (x:A×B×C×D×E×F×G×H×I×J×K×L×M):=jC x.2.2
abbrev vL0 (x:A×B×C×D×E×F×G×H×I×J×K×L×M×N×O×P×Q×R×S×U×V×W×X×Z×a×b×Aa×Ab×Ac×Ad×Ae×Af×Ag×Ah×Ai×Aj×Ak×Al×Am×An×Ao×Ap×Aq×Ar×As×At):=jC x.2.2.2.2.2.2.2.2.2.2.2.2.2.2.2.2.2.2.2.2.2.2.2.2.2.2.2.2.2.2.2.2.2.2.2
abbrev Sm (x:A×B×C×D×E×F×G×H×I×J×K×L×M×N×O):=jC x.2.2.2.2
abbrev C6 (x:A×B×C×D×E×F×G×H×I×J×K×L×M×N×O×P):=jC x.2.2.2.2.2
abbrev Ns (x:A×B×C×D×E×F×G×H×I×J×K×L×M×N×O×P×Q):=jC x.2.2.2.2.2.2
abbrev abH (x:A×B×C×D×E×F×G×H×I×J×K×L×M×N×O×P×Q×R×S×U×V×W×X):=qO x.2.2.2.2.2.2.2.2.2.2.2
abbrev gM (x:A×B×C×D×E×F×G×H×I×J×K×L×M×N×O×P×Q):=qO x.2.2.2.2.2
abbrev aeB (x:A×B×C×D×E×F×G×H×I×J×K×L×M×N×O×P×Q×R×S):=qO x.2.2.2.2.2.2.2
abbrev vZn (x:A×B×C×D×E×F×G×H×I×J×K×L×M×N×O×P×Q×R×S×U×V×W×X×Z×a×b×Aa×Ab×Ac×Ad×Ae×Af):=Tx x.2.2.2.2.2.2.2.2.2.2.2.2.2.2.2.2.2.2
abbrev yY8 (x:A×B×C×D×E×F×G×H×I×J×K×L×M×N×O×P×Q×R×S×U):=Tx x.2.2.2.2.2.2
abbrev vGx (x:A×B×C×D×E×F×G×H×I×J×K×L×M×N×O×P×Q×R×S×U×V):=Tx x.2.2.2.2.2.2.2
abbrev vX8 (x:A×B×C×D×E×F×G×H×I×J×K×L×M×N×O×P×Q×R×S×U×V×W×X×Z×a×b×Aa×Ab×Ac×Ad×Ae):=jQ x.2.2.2.2.2.2.2.2.2.2.2.2
abbrev vVk (x:A×B×C×D×E×F×G×H×I×J×K×L×M×N×O×P×Q×R×S×U×V×W×X×Z×a×b×Aa×Ab×Ac×Ad×Ae×Af):=jQ x.2.2.2.2.2.2.2.2.2.2.2.2.2
abbrev ko (x:A×B×C×D×E×F×G×H×I×J×K×L×M×N×O×P×Q×R×S×U):=jQ x.2
abbrev qMt (x:A×B×C×D×E×F×G×H×I×J×K×L×M×N×O×P×Q×R×S×U×V):=jQ x.2.2
abbrev Dh (x:A×B×C×D×E×F×G×H×I×J×K×L×M×N×O×P×Q×R×S×U×V):=SK x.2
abbrev I9 (x:A×B×C×D×E×F×G×H×I×J×K×L×M×N×O)(t:T):=vV x.2.2.2.2.2.2.2.2.2.2 t
abbrev Tq (x:A×B×C×D×E×F×G×H×I×J×K×L×M×N×O×P×Q×R)(t:T):=vV x.2.2.2.2.2.2.2.2.2.2.2.2.2 t
abbrev iK (x:A×B×C×D×E×F)(t:T):=vV x.2 t
abbrev Sr (x:A×B×C×D×E×F×G)(t:T):=vV x.2.2 t
abbrev ady (x:A×B×C×D×E×F×G×H×I×J)(t:T):=vV x.2.2.2.2.2 t
abbrev qSm (x:A×B×C×D×E×F×G×H×I×J×K×L×M×N×O×P×Q×R)(t:T):=gg x.2.2.2.2.2.2.2.2.2.2.2.2 t
abbrev yF1 (x:A×B×C×D×E×F×G)(t:T):=gg x.2 t
abbrev vK4 (x:A×B×C×D×E×F×G×H×I×J)(t:T):=gg x.2.2.2.2 t
abbrev vAp (x:A×B×C×D×E×F×G×H×I×J×K×L×M×N×O×P×Q×R)(t:T):=jH x.2.2.2.2.2.2.2.2.2.2.2 t
abbrev qXx (x:A×B×C×D×E×F×G×H×I×J×K×L×M×N×O×P×Q×R)(t:T):=kk x.2.2.2.2.2.2.2.2.2.2 t
abbrev afy (x:A×B×C×D×E×F×G×H×I×J×K×L×M×N×O×P×Q×R×S×U)(t:T):=kk x.2.2.2.2.2.2.2.2.2.2.2.2 t
abbrev qY9 (x:A×B×C×D×E×F×G×H×I)(t:T):=kk x.2 t
abbrev afx (x:A×B×C×D×E×F×G×H×I×J×K×L×M)(t:T):=kk x.2.2.2.2.2 t
abbrev aee (x:A×B×C×D×E×F×G×H×I×J×K×L×M×N×O×P×Q)(t:T):=AB x.2.2.2.2.2 t
abbrev vQr (x:A×B×C×D×E×F×G×H×I×J×K×L×M×N×O×P×Q×R×S×U×V)(t:T):=qPf x.2.2.2.2.2.2 t
abbrev RR (x:A×B×C×D×E×F×G×H×I×J×K×L×M×N×O×P×Q×R×S)(t:T):=yH x.2 t
end
def lN:AC:=[0,1,2,2,3,3,3,3,4,4,4,4,4,4,4,4,5,5,5,5,5,5,5,5,5,5,5,5,5,5,5,5,6,6,6,6,6,6,6,6,6,6,6,6,6,6,6,6,6,6,6,6,6,6,6,6,6,6,6,6,6,6,6,6,7,7,7,7,7,7,7,7,7,7,7,7,7,7,7,7,7,7,7,7,7,7,7,7,7,7,7,7,7,7,7,7,7,7,7,7,7,7,7,7,7,7,7,7,7,7,7,7,7,7,7,7,7,7,7,7,7,7,7,7,7,7,7,7,8,8,8,8,8,8,8,8,8,8,8,8,8,8,8,8,8,8,8,8,8,8,8,8,8,8,8,8,8,8,8,8,8,8,8,8,8,8,8,8,8,8,8,8,8,8,8,8,8,8,8,8,8,8,8,8,8,8,8,8,8,8,8,8,8,8,8,8,8,8,8,8,8,8,8,8,8,8,8,8,8,8,8,8,8,8,8,8,8,8,8,8,8,8,8,8,8,8,8,8,8,8,8,8,8,8,8,8,8,8,8,8,8,8,8,8,8,8,8,8,8,8,8,8,8,8,8,8]
def lG (k:Nat)(a0:Int):Option yA:=
 cond (decide ((yP .i64 a0 3)=1)) (some (4,[(100,1000),(7,0)],12,20,100))<|cond (decide ((yP .i64 a0 3)=2)) (some (3,[],20,20,4))<|cond (decide ((yP .i64 a0 3)=3)) (some (3,[(100,1000),(7,0)],0,6,1))<|some (3,[(100,1000),(7,0)],12,20,4)
def Ni (k:Nat)(a0:Int):Option wJ:=
 cond (decide (a0<0)) none<|cond (decide (a0>200000)) none<|some (a0,[],0,[],0,0,0,false,false,0)
def qQ5 (k:Nat)(a0:Int):Option jG:=
 cond (decide (a0<0)) none<|cond (decide (a0>200000)) none<|some ([],[],0,0,a0,0,0,0,false,false)
def qz (k:Nat)(a0:wJ):Option Bool:=
 some a0.2.2.2.2.2.2.2.2.1
def Sc (k:Nat)(a0:Int):Option Bool:=
 cond (decide (a0≥0)) (some (decide (a0<2)))<|some false
def eW (k:Nat)(a0:wJ):Option (Bool×wJ):=
 cond (!a0.2.2.2.2.2.2.2.1) (some (false,(yA4 a0 (zA (a0.2.2.2.2.2.2.2.2.2+1)))))<|cond (decide (a0.2.2.2.2.2.2.2.2.2<a0.2.2.2.2.2.1)) (some (false,(yA4 a0 (zA (a0.2.2.2.2.2.2.2.2.2+1)))))<|cond ((decide (0≤(zA (a0.2.2.1+(yC true (yC false a0.2.2.2.2.2.2.1 0) (zA ((a0.2.1.length : Int) - a0.2.2.1)))))))&&(decide ((zA (a0.2.2.1+(yC true (yC false a0.2.2.2.2.2.2.1 0) (zA ((a0.2.1.length : Int) - a0.2.2.1)))))≤(a0.2.1.length : Int)))) (cond ((decide (0≤(zA (a0.2.2.2.2.1+(yC true (zA ((yC false a0.2.2.2.2.2.2.1 0)-(yC true (yC false a0.2.2.2.2.2.2.1 0) (zA ((a0.2.1.length:Int)-a0.2.2.1))))) (zA ((a0.2.2.2.1.length:Int)-a0.2.2.2.2.1)))))))&&(decide ((zA (a0.2.2.2.2.1+(yC true (zA ((yC false a0.2.2.2.2.2.2.1 0)-(yC true (yC false a0.2.2.2.2.2.2.1 0) (zA ((a0.2.1.length:Int)-a0.2.2.1))))) (zA ((a0.2.2.2.1.length:Int)-a0.2.2.2.2.1)))))≤(a0.2.2.2.1.length:Int)))) (some (true,a0.1,(List.take ((zA (a0.2.2.1+(yC true (yC false a0.2.2.2.2.2.2.1 0) (zA ((a0.2.1.length:Int)-a0.2.2.1))))).toNat-0) a0.2.1),(zA (a0.2.2.1+(yC true (yC false a0.2.2.2.2.2.2.1 0) (zA ((a0.2.1.length:Int)-a0.2.2.1))))),(List.take ((zA (a0.2.2.2.2.1+(yC true (zA ((yC false a0.2.2.2.2.2.2.1 0)-(yC true (yC false a0.2.2.2.2.2.2.1 0) (zA ((a0.2.1.length:Int)-a0.2.2.1))))) (zA ((a0.2.2.2.1.length:Int)-a0.2.2.2.2.1))))).toNat-0) a0.2.2.2.1),(zA (a0.2.2.2.2.1+(yC true (zA ((yC false a0.2.2.2.2.2.2.1 0)-(yC true (yC false a0.2.2.2.2.2.2.1 0) (zA ((a0.2.1.length:Int)-a0.2.2.1))))) (zA ((a0.2.2.2.1.length:Int)-a0.2.2.2.2.1))))),a0.2.2.2.2.2.1,a0.2.2.2.2.2.2.1,a0.2.2.2.2.2.2.2.1,true,a0.2.2.2.2.2.2.2.2.2)) none) none
def mn (k:Nat)(a0:wJ)(a1:Int)(a2:AC):Option (Int×wJ):=
 (qz k a0).bind fun x0=>cond x0 (some (11,a0))<|(Sc k a1).bind fun x1=>cond (!x1) (some (1,a0))<|cond (decide (a1=0)) (cond (decide ((a2.length:Int)>(zA (a0.1-(a0.2.1.length:Int))))) (some (3,a0))<|(eW k a0).bind fun x2=>cond x2.1 (some (11,x2.2))<|cond (decide (a1=0)) (cond (zM (x2.2.2.1.length+a2.length) 1) (some (0,x2.2.1,(x2.2.2.1++a2),x2.2.2.2)) none)<|cond (decide (a1=1)) (cond (zM (x2.2.2.2.2.1.length+a2.length) 1) (some (0,x2.2.1,x2.2.2.1,x2.2.2.2.1,(x2.2.2.2.2.1++a2),x2.2.2.2.2.2)) none) none)<|cond (decide (a1=1)) (cond (decide ((a2.length:Int)>(zA (a0.1-(a0.2.2.2.1.length:Int))))) (some (3,a0))<|(eW k a0).bind fun x3=>cond x3.1 (some (11,x3.2))<|cond (decide (a1=0)) (cond (zM (x3.2.2.1.length+a2.length) 1) (some (0,x3.2.1,(x3.2.2.1++a2),x3.2.2.2)) none)<|cond (decide (a1=1)) (cond (zM (x3.2.2.2.2.1.length+a2.length) 1) (some (0,x3.2.1,x3.2.2.1,x3.2.2.2.1,(x3.2.2.2.2.1++a2),x3.2.2.2.2.2)) none) none) none
def nW (k:Nat)(a0:wJ):Option (Int×wJ):=
 (qz k a0).bind fun x0=>cond x0 (some (11,a0))<|(eW k a0).bind fun x1=>cond x1.1 (some (11,x1.2))<|some (0,x1.2.1,x1.2.2.1,(x1.2.2.1.length:Int),x1.2.2.2.2.1,(x1.2.2.2.2.1.length:Int),x1.2.2.2.2.2.2)
def uW (k:Nat)(a0:jG):Option (Bool×jG):=
 cond (!a0.2.2.2.2.2.2.2.2.1) (some (false,(gg a0 ((zA (a0.2.2.2.2.2.1+1)),a0.2.2.2.2.2.2))))<|cond (decide (a0.2.2.2.2.2.1<a0.2.2.2.2.2.2.1)) (some (false,(gg a0 ((zA (a0.2.2.2.2.2.1+1)),a0.2.2.2.2.2.2))))<|cond ((decide (0≤(zA (a0.2.2.1+(yC true (yC false a0.2.2.2.2.2.2.2.1 0) (zA ((a0.1.length : Int) - a0.2.2.1)))))))&&(decide ((zA (a0.2.2.1+(yC true (yC false a0.2.2.2.2.2.2.2.1 0) (zA ((a0.1.length : Int) - a0.2.2.1)))))≤(a0.1.length : Int)))) (cond ((decide (0≤(zA (a0.2.2.2.1+(yC true (zA ((yC false a0.2.2.2.2.2.2.2.1 0)-(yC true (yC false a0.2.2.2.2.2.2.2.1 0) (zA ((a0.1.length:Int)-a0.2.2.1))))) (zA ((a0.2.1.length:Int)-a0.2.2.2.1)))))))&&(decide ((zA (a0.2.2.2.1+(yC true (zA ((yC false a0.2.2.2.2.2.2.2.1 0)-(yC true (yC false a0.2.2.2.2.2.2.2.1 0) (zA ((a0.1.length:Int)-a0.2.2.1))))) (zA ((a0.2.1.length:Int)-a0.2.2.2.1)))))≤(a0.2.1.length:Int)))) (some (true,(List.take ((zA (a0.2.2.1+(yC true (yC false a0.2.2.2.2.2.2.2.1 0) (zA ((a0.1.length:Int)-a0.2.2.1))))).toNat-0) a0.1),(List.take ((zA (a0.2.2.2.1+(yC true (zA ((yC false a0.2.2.2.2.2.2.2.1 0)-(yC true (yC false a0.2.2.2.2.2.2.2.1 0) (zA ((a0.1.length:Int)-a0.2.2.1))))) (zA ((a0.2.1.length:Int)-a0.2.2.2.1))))).toNat-0) a0.2.1),(zA (a0.2.2.1+(yC true (yC false a0.2.2.2.2.2.2.2.1 0) (zA ((a0.1.length:Int)-a0.2.2.1))))),(zA (a0.2.2.2.1+(yC true (zA ((yC false a0.2.2.2.2.2.2.2.1 0)-(yC true (yC false a0.2.2.2.2.2.2.2.1 0) (zA ((a0.1.length:Int)-a0.2.2.1))))) (zA ((a0.2.1.length:Int)-a0.2.2.2.1))))),(vK4 a0 true))) none) none
def ym (k:Nat)(a0:jG)(a1:Int)(a2:AC):Option (Int×jG):=
 cond a0.2.2.2.2.2.2.2.2.2 (some (11,a0))<|cond (decide (a1<0)) (some (1,a0))<|cond (decide (a1>1)) (some (1,a0))<|cond (decide (a1=0)) (cond (decide ((a2.length:Int)>(zA (a0.2.2.2.2.1-(a0.1.length:Int))))) (some (3,a0))<|(uW k a0).bind fun x0=>cond x0.1 (some (11,x0.2))<|cond (decide (a1=0)) (cond (zM (0+x0.2.1.length) 1) (cond (zM (x0.2.1.length+a2.length) 1) (cond (decide (a1=0)) (some (0,(x0.2.1++a2),x0.2.2))<|cond (decide (a1=1)) (some (0,x0.2.1,(x0.2.1++a2),x0.2.2.2)) none) none) none)<|cond (decide (a1=1)) (cond (zM (0+x0.2.2.1.length) 1) (cond (zM (x0.2.2.1.length+a2.length) 1) (cond (decide (a1=0)) (some (0,(x0.2.2.1++a2),x0.2.2))<|cond (decide (a1=1)) (some (0,x0.2.1,(x0.2.2.1++a2),x0.2.2.2)) none) none) none) none)<|cond (decide (a1=1)) (cond (decide ((a2.length:Int)>(zA (a0.2.2.2.2.1-(a0.2.1.length:Int))))) (some (3,a0))<|(uW k a0).bind fun x1=>cond x1.1 (some (11,x1.2))<|cond (decide (a1=0)) (cond (zM (0+x1.2.1.length) 1) (cond (zM (x1.2.1.length+a2.length) 1) (cond (decide (a1=0)) (some (0,(x1.2.1++a2),x1.2.2))<|cond (decide (a1=1)) (some (0,x1.2.1,(x1.2.1++a2),x1.2.2.2)) none) none) none)<|cond (decide (a1=1)) (cond (zM (0+x1.2.2.1.length) 1) (cond (zM (x1.2.2.1.length+a2.length) 1) (cond (decide (a1=0)) (some (0,(x1.2.2.1++a2),x1.2.2))<|cond (decide (a1=1)) (some (0,x1.2.1,(x1.2.2.1++a2),x1.2.2.2)) none) none) none) none) none
def yn (k:Nat)(a0:jG):Option (Int×jG):=
 cond a0.2.2.2.2.2.2.2.2.2 (some (11,a0))<|(uW k a0).bind fun x0=>cond x0.1 (some (11,x0.2))<|some (0,x0.2.1,x0.2.2.1,(x0.2.1.length:Int),(x0.2.2.1.length:Int),x0.2.2.2.2.2)
def tw (k:Nat)(a0 a1 a2:Int):Option Bool:=
 cond (decide (a0≥a1)) (some (decide (a0≤a2)))<|some false
def yO5 (k:Nat)(a0:vX):Option Bool:=
 (tw k a0.1 0 1048576).bind fun x0=>cond (!x0) (some true)<|(tw k a0.2 0 10000).bind fun x1=>some (!x1)
abbrev yCh:Type:=List vX→Int→Int→Option (Unit⊕Int)
def yTu (k:Nat)(rec:yCh)(s0:List vX)(s7 s8:Int):Option (Unit⊕Int):=
 cond (decide (s8<s7)) (cond (zB s8 s0.length) ((yO5 k (s0.getD s8.toNat (0,0))).bind fun x0=>cond x0 (some (.inr s8))<|rec s0 s7 (zA (s8+1))) none)<|some (.inl ())
def qTw (k:Nat):Nat→yCh:=qW (fun _ _ _=>none) (yTu k)
def vHt (k:Nat)(a0:List vX):Option Int:=
 (qTw k k a0 (a0.length:Int) 0).bind fun z=>match z with
 |.inl z1=>some (-1)
 |.inr z2=>some z2
def yMc (k:Nat)(a0:List vX):Option Bool:=
 (vHt k a0).bind fun x0=>some (decide (x0≥0))
def qS3 (k:Nat)(a0:yA):Option Bool:=
 (tw k a0.1 1 6).bind fun x0=>cond x0 ((tw k a0.2.2.2.1 1 1048576).bind fun x1=>cond x1 ((tw k a0.2.2.1 0 a0.2.2.2.1).bind fun x2=>cond x2 ((tw k a0.2.2.2.2 1 1048576).bind fun x3=>cond (decide ((a0.2.1.length : Int)≤3)) (cond x3 ((yMc k a0.2.1).bind fun x4=>some (!x4))<|some false)<|some false)<|cond (decide ((a0.2.1.length:Int)≤3)) (some false)<|some false)<|cond (decide ((a0.2.1.length:Int)≤3)) (some false)<|some false)<|(tw k a0.2.2.2.1 1 1048576).bind fun x5=>cond x5 ((tw k a0.2.2.1 0 a0.2.2.2.1).bind fun x6=>cond x6 ((tw k a0.2.2.2.2 1 1048576).bind fun x7=>some false)<|some false)<|some false
def Cq (k:Nat)(a0:AC):Option AC:=
 cond (zM (0+a0.length) 1) (some a0) none
def yEl (k:Nat)(a0:wJ)(a1:Int):Option AC:=
 (Sc k a1).bind fun x0=>cond (!x0) (some [])<|cond (decide (a1=0)) ((Cq k a0.2.1).bind fun x1=>some x1)<|cond (decide (a1=1)) ((Cq k a0.2.2.2.1).bind fun x2=>some x2) none
abbrev yC7:Type:=AC×EQ
abbrev qN6:Type:=AC→EQ→Option yC7
def Q9 (k:Nat)(rec:qN6)(s0:AC)(r0:EQ):Option yC7:=
 cond (decide ((s0.length : Int)≥2)) (cond (zB 0 s0.length) (cond (zB 1 s0.length) (cond (decide ((wR .i64 (shl .i64 (zA ((s0.getD 0 0))) 8) (zA ((s0.getD 1 0))))>60000)) (some (s0,r0))<|cond (decide ((wR .i64 (shl .i64 (zA ((s0.getD 0 0))) 8) (zA ((s0.getD 1 0))))>(zA ((s0.length:Int)-2)))) (some (s0,r0))<|cond ((decide (2≤(zA (2+(wR .i64 (shl .i64 (zA ((s0.getD 0 0))) 8) (zA ((s0.getD 1 0))))))))&&(decide ((zA (2+(wR .i64 (shl .i64 (zA ((s0.getD 0 0))) 8) (zA ((s0.getD 1 0))))))≤(s0.length : Int)))) (cond (zM (0+(qM s0 2 ((zA (2+(wR .i64 (shl .i64 (zA ((s0.getD 0 0))) 8) (zA ((s0.getD 1 0)))))).toNat - 2)).length) 1) (let y0:AC:=(qM s0 2 ((zA (2+(wR .i64 (shl .i64 (zA ((s0.getD 0 0))) 8) (zA ((s0.getD 1 0)))))).toNat-2))
      cond (zM (r0.length+1) 24) (cond ((decide (0≤(zA (2+(wR .i64 (shl .i64 (zA ((s0.getD 0 0))) 8) (zA ((s0.getD 1 0))))))))&&(decide ((zA (2+(wR .i64 (shl .i64 (zA ((s0.getD 0 0))) 8) (zA ((s0.getD 1 0))))))≤(s0.length:Int)))) (rec (List.drop (zA (2+(wR .i64 (shl .i64 (zA ((s0.getD 0 0))) 8) (zA ((s0.getD 1 0)))))).toNat s0) (r0++[y0])) none) none) none) none) none) none)<|some (s0,r0)
def Mp (k:Nat):Nat→qN6:=qW (fun _ _=>none) (Q9 k)
def qWp (k:Nat)(a0:AC):Option (EQ×Int):=
 (Mp k k a0 []).bind fun z=>some (z.2,(z.1.length:Int))
abbrev qSc:Type:=AC×Int×AC
abbrev qU1:Type:=AC→Int→AC→Int→Int→AC→Option qSc
def Pw (k:Nat)(rec:qU1)(s0:AC)(s5:Int)(bG:AC)(bb gf:Int)(r0:AC):Option qSc:=
 cond (decide (gf<bb)) (cond (zB gf bG.length) (rec s0 (wR .u64 (shl .u64 s5 8) (IntKind.wrap .u64 ((bG.getD gf.toNat 0)))) bG bb (zA (gf+1)) r0) none)<|some (s0,s5,r0)
def EL (k:Nat):Nat→qU1:=qW (fun _ _ _ _ _ _=>none) (Pw k)
def EN (k:Nat)(rec:AC→AC→Option AC)(s0 r0:AC):Option AC:=
 cond (decide ((s0.length : Int)>0)) (cond (decide (8≤(s0.length : Int))) ((EL k k s0 0 (List.take 8 s0) ((List.take 8 s0).length:Int) 0 r0).bind fun z=>cond (zM (z.2.2.length+1) 8) (cond (decide (8≤(z.1.length:Int))) (rec (List.drop 8 z.1) (z.2.2++[(zA (z.2.1))])) none) none) none)<|some r0
def EM (k:Nat):Nat→AC→AC→Option AC:=qW (fun _ _=>none) (EN k)
def sJ (k:Nat)(a0:AC):Option (AC×Int):=
 cond (!(decide ((Int.tmod (a0.length:Int) 8)=0))) (some ([],2))<|(EM k k a0 []).bind fun z1=>some (z1,0)
def Hl (k:Nat)(a0:wJ)(a1:Int):Option (Int×AC×EQ):=
 (yEl k a0 a1).bind fun x0=>(qWp k x0).bind fun x1=>cond (decide ((x1.1.length:Int)=0)) (some (0,[],[]))<|cond (zB 0 x1.1.length) (cond (decide (((x1.1.getD 0 []).length:Int)<8)) (some (0,[],[]))<|cond (zB 0 x1.1.length) (cond (decide (8≤((x1.1.getD 0 []).length : Int))) ((sJ k (List.take 8 (x1.1.getD 0 []))).bind fun x2=>cond (zB 0 x2.1.length) (cond (decide ((x2.1.getD 0 0)<1)) (some (0,[],[]))<|cond (zB 0 x2.1.length) (cond (decide ((x2.1.getD 0 0)>4611686018427387904)) (some (0,[],[]))<|cond (zB 0 x2.1.length) (cond (zB 0 x1.1.length) (cond (decide (8≤((x1.1.getD 0 []).length : Int))) (cond (decide (1≤(x1.1.length:Int))) (some ((x2.1.getD 0 0),(List.drop 8 (x1.1.getD 0 [])),(qM x1.1 1 (x1.1.length-1)))) none) none) none) none) none) none) none) none) none
def Ms (k:Nat)(a0:wJ):Option (Int×Int×AC×EQ×Bool):=
 (Hl k a0 0).bind fun x0=>cond (decide (x0.1>0)) ((Hl k a0 1).bind fun x1=>cond (decide (x1.1>x0.1)) (some (x1.1,1,x1.2.1,x1.2.2,true))<|some (x0.1,0,x0.2.1,x0.2.2,true))<|(Hl k a0 1).bind fun x2=>cond (decide (x2.1>0)) (some (x2.1,1,x2.2.1,x2.2.2,true))<|some (0,0,[],[],false)
def Le (k:Nat)(a0:Int):Option Bool:=
 cond (decide (a0≥0)) (some (decide (a0≤6)))<|some false
abbrev qVd:Type:=Int→Int→Int→AC→Option AC
def FF (k:Nat)(rec:qVd)(s1 bm bh:Int)(r0:AC):Option AC:=
 cond (decide (bh<bm)) (cond (zB bh r0.length) (rec s1 bm (zA (bh+1)) (r0.set bh.toNat s1)) none)<|some r0
def Lf (k:Nat):Nat→qVd
 |0,_,_,_,_=>none
 |n+1,s1,bm,bh,r0=>FF k (Lf k n) s1 bm bh r0
def BW (k:Nat)(a0 a1:Int):Option AC:=
 (Le k a0).bind fun x0=>cond (!x0) (some [])<|cond (oZ a0 a0 8) ((Lf k k a1 ((List.replicate a0.toNat (0:Int)).length:Int) 0 (List.replicate a0.toNat (0:Int))).bind fun z=>some z) none
abbrev qLl:Type:=Int→Int→Int→Int→EQ→Option EQ
def FH (k:Nat)(rec:qLl)(s0 s1 bm bh:Int)(m0:EQ):Option EQ:=
 cond (decide (bh<bm)) ((BW k s0 s1).bind fun x1=>cond (zB bh m0.length) (rec s0 s1 bm (zA (bh+1)) (m0.set bh.toNat x1)) none)<|some m0
def Lg (k:Nat):Nat→qLl
 |0,_,_,_,_,_=>none
 |n+1,s0,s1,bm,bh,m0=>FH k (Lg k n) s0 s1 bm bh m0
def FG (k:Nat)(a0 a1:Int):Option EQ:=
 (Le k a0).bind fun x0=>cond (!x0) (some [])<|cond (oZ a0 a0 24) ((Lg k k a0 a1 ((List.replicate a0.toNat ([]:AC)).length:Int) 0 (List.replicate a0.toNat ([]:AC))).bind fun z=>some z) none
abbrev qY3:Type:=Int×yA×yQ×yQ×(List zJ)×EQ×AC×EQ×AC
abbrev qMr:Type:=Int→List vX→Int→Int→yA→yQ→yQ→List zJ→EQ→AC→EQ→AC→Option qY3
def vEa (k:Nat)(rec:qMr)(s3:Int)(cM:List vX)(s21 Tz:Int)(b0:yA)(b1 b2:yQ)(r3:List zJ)(m4:EQ)(r5:AC)(m6:EQ)(r7:AC):Option qY3:=
 cond (decide (Tz<s21)) (cond (zB Tz cM.length) (cond (zM (r7.length+1) 8) (rec s3 cM s21 (zA (Tz+1)) b0 b1 b2 r3 m4 r5 m6 (r7++[(cM.getD Tz.toNat (0,0)).1])) none) none)<|some (s3,b0,b1,b2,r3,m4,r5,m6,r7)
def qTm (k:Nat):Nat→qMr:=qW (fun _ _ _ _ _ _ _ _ _ _ _ _=>none) (vEa k)
abbrev qVr:Type:=yQ×yQ×(List zJ)×EQ×AC×EQ×AC×EQ
abbrev qPa:Type:=Int→Int→yA→yQ→yQ→List zJ→EQ→AC→EQ→AC→EQ→Option qVr
def yU4 (k:Nat)(rec:qPa)(Dt tB:Int)(b0:yA)(b1 b2:yQ)(r3:List zJ)(m4:EQ)(r5:AC)(m6:EQ)(r7:AC)(m8:EQ):Option qVr:=
 cond (decide (tB<Dt)) (cond (oZ (b0.2.1.length : Int) (b0.2.1.length : Int) 8) (cond (zM (m8.length+1) 24) (rec Dt (zA (tB+1)) b0 b1 b2 r3 m4 r5 m6 r7 (m8++[(List.replicate b0.2.1.length (0:Int))])) none) none)<|some (b1,b2,r3,m4,r5,m6,r7,m8)
def qL1 (k:Nat):Nat→qPa:=qW (fun _ _ _ _ _ _ _ _ _ _ _=>none) (yU4 k)
def zx (k:Nat)(a0:yA):Option qV:=
 cond (oZ a0.1 a0.1 24) ((FG k a0.1 (-1)).bind fun x0=>(BW k a0.1 (-1)).bind fun x1=>(FG k a0.1 0).bind fun x2=>(qTm k k a0.1 a0.2.1 (a0.2.1.length:Int) 0 a0 (0,0,false) (0,0,false) (List.replicate a0.1.toNat ((0,0,0):Int×Int×Int)) x0 x1 x2 []).bind fun z=>(qL1 k k z.1 0 z.2.1 z.2.2.1 z.2.2.2.1 z.2.2.2.2.1 z.2.2.2.2.2.1 z.2.2.2.2.2.2.1 z.2.2.2.2.2.2.2.1 z.2.2.2.2.2.2.2.2 []).bind fun z1=>some (z1.2.1.1,(yQ6 z1 ([],[],z1.2.1.2)))) none
def PG (k:Nat)(a0:Bool):Option Int:=
 cond a0 (some 1)<|some 0
abbrev yEg:Type:=AC×Int×Int×AC
abbrev qMm:Type:=Int→Int→AC→Int→Int→AC→Option yEg
def PB (k:Nat)(rec:qMm)(s5 s6:Int)(aP:AC)(cL bm:Int)(r0:AC):Option yEg:=
 cond (decide (s6≥0)) (cond (!(decide ((zA (8 * s6))<0))) (cond (zM (r0.length+1) 1) (rec s5 (zA (s6-1)) aP cL bm (r0++[(IntKind.wrap .u8 ((shr .i64 s5 (zA (8*s6)))))])) none) none)<|some (aP,cL,bm,r0)
def xI (k:Nat):Nat→qMm:=qW (fun _ _ _ _ _ _=>none) (PB k)
abbrev qQd:Type:=AC→Int→Int→AC→Option AC
def ER (k:Nat)(rec:qQd)(aP:AC)(cL bm:Int)(r0:AC):Option AC:=
 cond (decide (bm<cL)) (cond (zB bm aP.length) ((xI k k (aP.getD bm.toNat 0) 7 aP cL bm r0).bind fun z=>rec z.1 z.2.1 (zA (z.2.2.1+1)) z.2.2.2) none)<|some r0
def BO (k:Nat):Nat→qQd:=qW (fun _ _ _ _=>none) (ER k)
def xJ (k:Nat)(a0:AC):Option AC:=
 cond (oZ 0 (zA (8 * (a0.length : Int))) 1) ((BO k k a0 (a0.length:Int) 0 []).bind fun z1=>some z1) none
def PD (k:Nat)(a0:AC):Option AC:=
 (xJ k [(a0.length:Int)]).bind fun x0=>(xJ k a0).bind fun x1=>cond (zM (x0.length+x1.length) 1) (some (x0++x1)) none
abbrev yDt:Type:=EQ→Int→Int→AC→Option AC
def EV (k:Nat)(rec:yDt)(s6:EQ)(s7 s8:Int)(r0:AC):Option AC:=
 cond (decide (s8<s7)) (cond (zB s8 s6.length) ((PD k (s6.getD s8.toNat [])).bind fun x0=>cond (zM (r0.length+x0.length) 1) (rec s6 s7 (zA (s8+1)) (r0++x0)) none) none)<|some r0
def EU (k:Nat):Nat→yDt:=qW (fun _ _ _ _=>none) (EV k)
def KH (k:Nat)(a0:EQ):Option AC:=
 (EU k k a0 (a0.length:Int) 0 []).bind fun z=>some z
abbrev qN8:Type:=qV×AH×EQ
abbrev qV7:Type:=List zJ→Int→Int→qV→AH→EQ→Option qN8
def EW (k:Nat)(rec:qV7)(lO:List zJ)(gQ jm:Int)(b0:qV)(b1:AH)(r2:EQ):Option qN8:=
 cond (decide (jm<gQ)) (cond (zB jm lO.length) (cond (zM (r2.length+1) 24) (let y0:EQ:=(r2++[[(lO.getD jm.toNat (0,0,0)).1,(lO.getD jm.toNat (0,0,0)).2.1,(lO.getD jm.toNat (0,0,0)).2.2]])
    rec lO gQ (zA (jm+1)) b0 b1 y0) none) none)<|some (b0,b1,r2)
def BP (k:Nat):Nat→qV7:=qW (fun _ _ _ _ _ _=>none) (EW k)
abbrev qVg:Type:=qV×EQ
abbrev qZ0:Type:=List zD→Int→Int→qV→EQ→Option qVg
def EX (k:Nat)(rec:qZ0)(wc:List zD)(s80 tC:Int)(b0:qV)(r1:EQ):Option qVg:=
 cond (decide (tC<s80)) (cond (zB tC wc.length) (cond (zM (r1.length+1) 24) (let y3:EQ:=(r1++[[(wc.getD tC.toNat (0,0,0,0,0,0,0)).1,(wc.getD tC.toNat (0,0,0,0,0,0,0)).2.1,(wc.getD tC.toNat (0,0,0,0,0,0,0)).2.2.1,(wc.getD tC.toNat (0,0,0,0,0,0,0)).2.2.2.1,(wc.getD tC.toNat (0,0,0,0,0,0,0)).2.2.2.2.1,(wc.getD tC.toNat (0,0,0,0,0,0,0)).2.2.2.2.2.1,(wc.getD tC.toNat (0,0,0,0,0,0,0)).2.2.2.2.2.2]])
    rec wc s80 (zA (tC+1)) b0 y3) none) none)<|some (b0,r1)
def BQ (k:Nat):Nat→qZ0:=qW (fun _ _ _ _ _=>none) (EX k)
def lD (k:Nat)(a0:qV):Option AC:=
 (PG k a0.2.2.2.2.2.2.2.2.2.2).bind fun x0=>(BP k k a0.2.1 (a0.2.1.length:Int) 0 a0 (zz a0) [[a0.1,a0.2.2.2.2.2.2.2.2.2.1,x0,(a0.2.1.length:Int),(a0.2.2.1.length:Int),(a0.2.2.2.1.length:Int),(a0.2.2.2.2.1.length:Int),(a0.2.2.2.2.2.2.1.length:Int),(a0.2.2.2.2.2.2.2.1.length:Int)]]).bind fun z=>cond (zM (z.2.2.length+z.2.1.2.1.length) 24) (cond (zM ((z.2.2++z.2.1.2.1).length+1) 24) (let y1:EQ:=((z.2.2++z.2.1.2.1)++[z.2.1.2.2.1])
   cond (zM (y1.length+z.2.1.2.2.2.length) 24) (cond (zM ((y1++z.2.1.2.2.2).length+1) 24) (let y2:EQ:=((y1++z.2.1.2.2.2)++[z.1.2.2.2.2.2.1])
     cond (zM (y2.length+z.1.2.2.2.2.2.2.1.length) 24) ((BQ k k z.1.2.2.2.2.2.2.2.1 (z.1.2.2.2.2.2.2.2.1.length:Int) 0 z.1 (y2++z.1.2.2.2.2.2.2.1)).bind fun z1=>cond (zM (z1.2.length+1) 24) (let y4:EQ:=(z1.2++[z1.1.2.2.2.2.2.2.2.2.1])
       (KH k y4).bind fun x1=>some x1) none) none) none) none) none) none
def KE (k:Nat)(a0:AC):Option wW:=
 cond (decide ((a0.length:Int)>60000)) (some ([],false))<|cond (zM (2+a0.length) 1) (some (([(IntKind.wrap .u8 ((shr .i64 (a0.length:Int) 8))),(IntKind.wrap .u8 ((a0.length:Int)))]++a0),true)) none
def Q3 (k:Nat)(a0:wJ):Option Int:=
 some a0.1
def Hc (k:Nat)(a0:wJ)(a1:Int):Option (Int×wJ):=
 (qz k a0).bind fun x0=>cond x0 (some (11,a0))<|(Sc k a1).bind fun x1=>cond (!x1) (some (1,a0))<|(eW k a0).bind fun x2=>cond x2.1 (some (11,x2.2))<|cond (decide (a1=0)) (cond (decide (a1=0)) (some (0,x2.2.1,[],0,x2.2.2.2.2))<|cond (decide (a1=1)) (some (0,x2.2.1,[],x2.2.2.2.1,x2.2.2.2.2.1,0,x2.2.2.2.2.2.2)) none)<|cond (decide (a1=1)) (cond (decide (a1=0)) (some (0,x2.2.1,x2.2.2.1,0,[],x2.2.2.2.2.2))<|cond (decide (a1=1)) (some (0,x2.2.1,x2.2.2.1,x2.2.2.2.1,[],0,x2.2.2.2.2.2.2)) none) none
def yo (k:Nat)(a0:wJ)(a1 a2:Int)(a3:AC):Option (Int×wJ):=
 (xJ k [a2]).bind fun x0=>cond (zM (x0.length+a3.length) 1) ((KE k (x0++a3)).bind fun x1=>cond (!x1.2) (some (10,a0))<|cond (decide (a2>4611686018427387904)) (some (10,a0))<|(Q3 k a0).bind fun x2=>cond (decide (x1.1.length>x2)) (some (10,a0))<|(Hc k a0 a1).bind fun x3=>cond (!(decide (x3.1=0))) (some (x3.1,x3.2))<|(mn k x3.2 a1 x1.1).bind fun x4=>cond (!(decide (x4.1=0))) (some (x4.1,x4.2))<|(nW k x4.2).bind fun x5=>some (x5.1,x5.2)) none
def qYg (k:Nat)(a0:wJ)(a1:AC):Option ((AC×EQ×Int×wJ×vS)⊕(AC×EQ×Int×wJ)):=
 (Ms k a0).bind fun x0=>cond x0.2.2.2.2 (some (.inl (x0.2.2.1,x0.2.2.2.1,0,a0,x0.2.1,x0.1,(x0.2.2.2.1.length:Int),true)))<|(yo k a0 0 1 a1).bind fun x1=>cond (!(decide (x1.1=0))) (some (.inr ([],[],x1.1,x1.2)))<|cond (zM (0+a1.length) 1) (some (.inl (a1,[],0,x1.2,0,1,0,false))) none
def Q4 (k:Nat)(a0:AC):Option (AC×AC×Bool):=
 cond (decide ((a0.length:Int)<8)) (some ([],[],false))<|cond (decide (8≤(a0.length : Int))) ((sJ k (List.take 8 a0)).bind fun x0=>cond (decide (8≤(a0.length : Int))) (cond (zB 0 x0.1.length) (cond (decide ((x0.1.getD 0 0)<0)) (some ([],[],false))<|cond (zB 0 x0.1.length) (cond (decide ((x0.1.getD 0 0)>(zA (Int.tdiv ((List.drop 8 a0).length:Int) 8)))) (some ([],[],false))<|cond (zB 0 x0.1.length) (cond ((decide (0≤(zA (8 * (x0.1.getD 0 0)))))&&(decide ((zA (8 * (x0.1.getD 0 0)))≤((List.drop 8 a0).length : Int)))) ((sJ k (List.take (zA (8*(x0.1.getD 0 0))).toNat (List.drop 8 a0))).bind fun x1=>cond ((decide (0≤(zA (8*(x0.1.getD 0 0)))))&&(decide ((zA (8*(x0.1.getD 0 0)))≤((List.drop 8 a0).length:Int)))) (some (x1.1,(List.drop (zA (8*(x0.1.getD 0 0))).toNat (List.drop 8 a0)),true)) none) none) none) none) none) none) none
def yr (k:Nat)(a0:wW):Option (AC×wW):=
 (Q4 k a0.1).bind fun x0=>cond a0.2 (some (x0.1,x0.2.1,true))<|some (x0.1,x0.2.1,(!x0.2.2))
def uX (k:Nat)(a0:wW)(a1:Int):Option (AC×wW):=
 (yr k a0).bind fun x0=>cond (!(decide ((x0.1.length : Int)=a1))) (cond (oZ a1 a1 8) (some ((List.replicate a1.toNat (0:Int)),x0.2.1,true)) none)<|some (x0.1,x0.2)
abbrev qT4:Type:=wW×EQ
abbrev qOs:Type:=Int→wW→EQ→Option qT4
def Hq (k:Nat)(rec:qOs)(s1:Int)(b0:wW)(r1:EQ):Option qT4:=
 cond (decide (s1>0)) (cond (!b0.2) ((yr k b0).bind fun x0=>cond (zM (r1.length+1) 24) (rec (zA (s1-1)) x0.2 (r1++[x0.1])) none)<|some (b0,r1))<|some (b0,r1)
def Ho (k:Nat):Nat→qOs:=qW (fun _ _ _=>none) (Hq k)
def Hm (k:Nat)(a0:wW)(a1:Int):Option (EQ×wW):=
 (Ho k k a1 a0 []).bind fun z=>some (z.2,z.1)
def vHb (k:Nat)(a0 a1:AC):Option Bool:=
 some (oL a0 a1)
abbrev yEh:Type:=AC×yQ×wW×AC×yQ×(List zJ)
abbrev yAp:Type:=AC→Int→yQ→wW→AC→yQ→List zJ→Option yEh
def Ht (k:Nat)(rec:yAp)(s0:AC)(s7:Int)(b0:yQ)(b1:wW)(r2:AC)(b3:yQ)(r4:List zJ):Option yEh:=
 cond (decide (s7>0)) (cond (!b1.2) ((uX k b1 3).bind fun x1=>cond (zB 0 x1.1.length) (cond (zB 1 x1.1.length) (cond (zB 2 x1.1.length) (cond (zM (r4.length+1) 24) (let y0:List zJ:=(r4++[((x1.1.getD 0 0),(x1.1.getD 1 0),(x1.1.getD 2 0))])
       rec s0 (zA (s7-1)) b0 x1.2 r2 b3 y0) none) none) none) none)<|some (s0,b0,b1,r2,b3,r4))<|some (s0,b0,b1,r2,b3,r4)
def Cr (k:Nat):Nat→yAp:=qW (fun _ _ _ _ _ _ _=>none) (Ht k)
abbrev yEv:Type:=AC×yQ×wW×yQ×(List zJ)×EQ×AC×EQ×AC×EQ×(List zD)
abbrev yB1:Type:=AC→Int→yQ→wW→yQ→List zJ→EQ→AC→EQ→AC→EQ→List zD→Option yEv
def Hv (k:Nat)(rec:yB1)(s0:AC)(s9:Int)(b0:yQ)(b1:wW)(b2:yQ)(r3:List zJ)(r4:EQ)(r5:AC)(r6:EQ)(r7:AC)(r8:EQ)(r9:List zD):Option yEv:=
 cond (decide (s9>0)) (cond (!b1.2) ((uX k b1 7).bind fun x7=>cond (zB 0 x7.1.length) (cond (zB 1 x7.1.length) (cond (zB 2 x7.1.length) (cond (zB 3 x7.1.length) (cond (zB 4 x7.1.length) (cond (zB 5 x7.1.length) (cond (zB 6 x7.1.length) (cond (zM (r9.length+1) 56) (let y1:List zD:=(r9++[((x7.1.getD 0 0),(x7.1.getD 1 0),(x7.1.getD 2 0),(x7.1.getD 3 0),(x7.1.getD 4 0),(x7.1.getD 5 0),(x7.1.getD 6 0))])
           rec s0 (zA (s9-1)) b0 x7.2 b2 r3 r4 r5 r6 r7 r8 y1) none) none) none) none) none) none) none) none)<|some (s0,b0,b1,b2,r3,r4,r5,r6,r7,r8,r9))<|some (s0,b0,b1,b2,r3,r4,r5,r6,r7,r8,r9)
def Cu (k:Nat):Nat→yB1:=qW (fun _ _ _ _ _ _ _ _ _ _ _ _=>none) (Hv k)
def Hy (k:Nat)(a0:AC):Option (qV×Bool):=
 (uX k (a0,false) 9).bind fun x0=>cond (zB 0 x0.1.length) (cond (zB 1 x0.1.length) (cond (zB 2 x0.1.length) (cond (zB 3 x0.1.length) ((Cr k k a0 (x0.1.getD 3 0) (0,0,false) x0.2 x0.1 ((x0.1.getD 0 0),(x0.1.getD 1 0),(decide ((x0.1.getD 2 0)=1))) []).bind fun z=>cond (zB 4 z.2.2.2.1.length) ((Hm k z.2.2.1 (z.2.2.2.1.getD 4 0)).bind fun x2=>(yr k x2.2).bind fun x3=>cond (zB 6 z.2.2.2.1.length) ((Hm k x3.2 (z.2.2.2.1.getD 6 0)).bind fun x4=>(yr k x4.2).bind fun x5=>cond (zB 7 z.2.2.2.1.length) ((Hm k x5.2 (z.2.2.2.1.getD 7 0)).bind fun x6=>cond (zB 8 z.2.2.2.1.length) ((Cu k k z.1 (z.2.2.2.1.getD 8 0) z.2.1 x6.2 z.2.2.2.2.1 z.2.2.2.2.2 x2.1 x3.1 x4.1 x5.1 x6.1 []).bind fun z1=>(yr k z1.2.2.1).bind fun x8=>cond x8.2.2 (some ((0,[],[],[],[],[],[],[],[],0,false),false))<|(lD k (z1.2.2.2.1.1,(ND z1 (x8.1,z1.2.2.2.1.2)))).bind fun x9=>(vHb k x9 z1.1).bind fun bC=>cond (!bC) (some ((0,[],[],[],[],[],[],[],[],0,false),false))<|some ((z1.2.2.2.1.1,(ND z1 (x8.1,z1.2.2.2.1.2))),true)) none) none) none) none) none) none) none) none
def uA (k:Nat)(a0:Int):Option Int:=
 cond (decide (a0=9)) (some 0)<|cond (decide (a0=13)) (some 0)<|cond (decide (a0=14)) (some 0)<|cond (decide (a0=15)) (some 0)<|cond (decide (a0=2)) (some 1)<|cond (decide (a0=6)) (some 1)<|cond (decide (a0=7)) (some 1)<|cond (decide (a0=16)) (some 1)<|cond (decide (a0=19)) (some 1)<|cond (decide (a0=20)) (some 1)<|cond (decide (a0=21)) (some 1)<|cond (decide (a0=22)) (some 1)<|cond (decide (a0=23)) (some 1)<|cond (decide (a0=3)) (some 2)<|cond (decide (a0=4)) (some 2)<|cond (decide (a0=5)) (some 2)<|cond (decide (a0=8)) (some 2)<|cond (decide (a0=10)) (some 2)<|cond (decide (a0=11)) (some 2)<|cond (decide (a0=12)) (some 2)<|cond (decide (a0=18)) (some 4)<|cond (decide (a0=17)) (some 5)<|cond (decide (a0=1)) (some 6)<|some (-1)
def BN (k:Nat)(a0:AC):Option (zD×Int):=
 cond (decide ((a0.length:Int)=0)) (some ((0,0,0,0,0,0,0),2))<|cond (decide (1≤(a0.length : Int))) ((sJ k (List.drop 1 a0)).bind fun x0=>cond (!(decide (x0.2=0))) (some ((0,0,0,0,0,0,0),2))<|cond (zB 0 a0.length) ((uA k (zA ((a0.getD 0 0)))).bind fun x1=>cond (!(decide ((x0.1.length:Int)=x1))) (some ((0,0,0,0,0,0,0),2))<|cond (zB 0 a0.length) (some (((zA ((a0.getD 0 0))),(cond (Nat.blt 0 x0.1.length) (x0.1.getD 0 0)<|0),(cond (Nat.blt 1 x0.1.length) (x0.1.getD 1 0)<|0),(cond (Nat.blt 2 x0.1.length) (x0.1.getD 2 0)<|0),(cond (Nat.blt 3 x0.1.length) (x0.1.getD 3 0)<|0),(cond (Nat.blt 4 x0.1.length) (x0.1.getD 4 0)<|0),(cond (Nat.blt 5 x0.1.length) (x0.1.getD 5 0)<|0)),0)) none) none) none
def RX (k:Nat)(a0:AC):Option (qJ×Int):=
 cond (decide ((a0.length:Int)<8)) (some ((0,0,0,0,0,0,0,0),2))<|cond (decide (8≤(a0.length : Int))) ((sJ k (List.take 8 a0)).bind fun x0=>cond (decide (8≤(a0.length : Int))) ((BN k (List.drop 8 a0)).bind fun x1=>cond (!(decide (x1.2=0))) (some ((0,0,0,0,0,0,0,0),2))<|cond (zB 0 x0.1.length) (some (((x0.1.getD 0 0),x1.1),0)) none) none) none
def QY (k:Nat)(a0:Int):Option Bool:=
 cond (decide (a0≥10)) (some (decide (a0≤14)))<|some false
def Mh (k:Nat)(a0:Int):Option Bool:=
 cond (decide (a0≥1)) (some (decide (a0≤14)))<|some false
abbrev qOd:Type:=AC→Int→Int→Option (Unit⊕Bool)
def lE (k:Nat)(rec:qOd)(bm:AC)(bh aQ:Int):Option (Unit⊕Bool):=
 cond (decide (aQ<bh)) (cond (zB aQ bm.length) (cond (!(decide ((bm.getD aQ.toNat 0)=0))) (some (.inr false))<|rec bm bh (zA (aQ+1))) none)<|some (.inl ())
def mw (k:Nat):Nat→qOd:=qW (fun _ _ _=>none) (lE k)
def kZ (k:Nat)(a0:zD):Option Bool:=
 (uA k a0.1).bind fun x0=>cond (decide (x0<0)) (some false)<|cond ((decide (0≤x0))&&(decide (x0≤6))) ((mw k k (qM [a0.2.1,a0.2.2.1,a0.2.2.2.1,a0.2.2.2.2.1,a0.2.2.2.2.2.1,a0.2.2.2.2.2.2] x0.toNat (6-x0.toNat)) ((qM [a0.2.1,a0.2.2.1,a0.2.2.2.1,a0.2.2.2.2.1,a0.2.2.2.2.2.1,a0.2.2.2.2.2.2] x0.toNat (6-x0.toNat)).length:Int) 0).bind fun z=>match z with
  |.inl z1=>some true
  |.inr z2=>some z2) none
def yk (k:Nat)(a0:yA)(a1:qV)(a2:qJ):Option Int:=
 (QY k a2.2.1).bind fun x0=>cond (decide (a2.1≥0)) ((Mh k a2.2.1).bind fun x1=>cond (!x1) (some 5)<|(kZ k a2.2).bind fun x2=>cond (!x2) (some 5)<|cond x0 (cond (!(decide (a2.1=(-1)))) (some 5)<|cond (!x0) (cond (!(decide (a2.1<a0.1))) (some 5)<|cond a1.2.2.2.2.2.2.2.2.2.2 (cond (!(decide (a2.2.1=9))) (some 7)<|some 0)<|some 0)<|cond a1.2.2.2.2.2.2.2.2.2.2 (cond (!(decide (a2.2.1=9))) (some 7)<|some 0)<|some 0)<|cond (!x0) (cond (!(decide (a2.1<a0.1))) (some 5)<|cond a1.2.2.2.2.2.2.2.2.2.2 (cond (!(decide (a2.2.1=9))) (some 7)<|some 0)<|some 0)<|cond a1.2.2.2.2.2.2.2.2.2.2 (cond (!(decide (a2.2.1=9))) (some 7)<|some 0)<|some 0)<|(Mh k a2.2.1).bind fun x3=>cond (!x3) (some 5)<|(kZ k a2.2).bind fun x4=>cond (!x4) (some 5)<|cond x0 (cond (!(decide (a2.1=(-1)))) (some 5)<|cond (!x0) (some 5)<|cond a1.2.2.2.2.2.2.2.2.2.2 (cond (!(decide (a2.2.1=9))) (some 7)<|some 0)<|some 0)<|cond (!x0) (some 5)<|cond a1.2.2.2.2.2.2.2.2.2.2 (cond (!(decide (a2.2.1=9))) (some 7)<|some 0)<|some 0
def ZK (k:Nat)(cf bj bB cw bN ca bR a1:Int):Option Bool:=
 some (decide (bj=a1))
abbrev qZc:Type:=List zD
abbrev qS4:Type:=List zD→Int→Int→Int→List zD→Option qZc
def GI (k:Nat)(rec:qS4)(s8:List zD)(s9 av af:Int)(r1:List zD):Option qZc:=
 cond (decide (av<s9)) (cond (zB av s8.length) ((ZK k (s8.getD av.toNat (0,0,0,0,0,0,0)).1 (s8.getD av.toNat (0,0,0,0,0,0,0)).2.1 (s8.getD av.toNat (0,0,0,0,0,0,0)).2.2.1 (s8.getD av.toNat (0,0,0,0,0,0,0)).2.2.2.1 (s8.getD av.toNat (0,0,0,0,0,0,0)).2.2.2.2.1 (s8.getD av.toNat (0,0,0,0,0,0,0)).2.2.2.2.2.1 (s8.getD av.toNat (0,0,0,0,0,0,0)).2.2.2.2.2.2 af).bind fun x0=>cond x0 (cond (zM (r1.length+1) 56) (let y0:List zD:=(r1++[(s8.getD av.toNat (0,0,0,0,0,0,0))])
     rec s8 s9 (zA (av+1)) af y0) none)<|rec s8 s9 (zA (av+1)) af r1) none)<|some r1
def LY (k:Nat):Nat→qS4
 |0,_,_,_,_,_=>none
 |n+1,s8,s9,av,af,r1=>GI k (LY k n) s8 s9 av af r1
def ZJ (k:Nat)(a0:List zD)(cX:Int):Option (List zD):=
 (LY k k a0 (a0.length:Int) 0 cX []).bind fun z=>some z
def LX (k:Nat)(a0:List zD)(a1:Int):Option (List zD):=
 (ZJ k a0 a1).bind fun x0=>some x0
def yZi (k:Nat)(a0:(Int×Int×Int×Int×Int×Int×Bool×Int))(a1:Int)(a2:AC):Option jO:=
 some (a0.1,[],(iK a0 ([],[],[],[],[],[],[],[],a0.2.2.2.2.2.1,a0.2.2.2.2.2.2.1,a0.2.2.2.2.2.2.2,[(a0.2.2.2.2.2.2.2,a1,(cond (Nat.blt 0 a2.length) (a2.getD 0 0)<|0),(cond (Nat.blt 1 a2.length) (a2.getD 1 0)<|0),(cond (Nat.blt 2 a2.length) (a2.getD 2 0)<|0),(cond (Nat.blt 3 a2.length) (a2.getD 3 0)<|0),(cond (Nat.blt 4 a2.length) (a2.getD 4 0)<|0),(cond (Nat.blt 5 a2.length) (a2.getD 5 0)<|0))])))
def RT (k:Nat)(a0:qV)(a1:Int):Option (List qJ):=
 cond (zB a1 a0.2.1.length) ((LX k a0.2.2.2.2.2.2.2.1 a1).bind fun x0=>(yZi k (0,0,0,0,0,0,false,a1) 17 [(a0.2.1.getD a1.toNat (0,0,0)).1,(a0.2.1.getD a1.toNat (0,0,0)).2.1,(a0.2.1.getD a1.toNat (0,0,0)).2.2,(x0.length:Int),a0.1]).bind fun x1=>some x1.2.2.2.2.2.2.2.2.2.2.2.2.2.2.2.2.2) none
def RU (k:Nat)(a0:lM)(a1:Int)(a2:AC):Option jO:=
 some (vR a0 [(a0.2.2.2.2.2.2.2.2.2.2.2.2.2.2.2.2,a1,(cond (Nat.blt 0 a2.length) (a2.getD 0 0)<|0),(cond (Nat.blt 1 a2.length) (a2.getD 1 0)<|0),(cond (Nat.blt 2 a2.length) (a2.getD 2 0)<|0),(cond (Nat.blt 3 a2.length) (a2.getD 3 0)<|0),(cond (Nat.blt 4 a2.length) (a2.getD 4 0)<|0),(cond (Nat.blt 5 a2.length) (a2.getD 5 0)<|0))])
def vH (k:Nat)(a0 a1 a2:Int):Option Bool:=
 cond (decide (a0≥a1)) (some (decide (a0≤a2)))<|some false
def Mb (k:Nat)(a0:yA)(a1:Int):Option Bool:=
 cond (decide (a1≥0)) (some (decide (a1<a0.1)))<|some false
def QT (k:Nat)(a0:yA)(a1:Int)(a2:zD):Option Bool:=
 (Mb k a0 a2.2.1).bind fun x0=>cond x0 ((Mb k a0 a2.2.2.1).bind fun x1=>cond x1 (cond (decide (a2.1≥1)) (cond (decide (a2.2.2.2.1≥1)) (cond (decide (a2.2.2.2.1≤1099511627776)) (cond (decide (a2.2.2.2.2.1≥1)) (cond (!(decide (a2.2.1=a2.2.2.1))) (cond (decide (a2.2.2.2.2.1≤3)) (cond (decide (a2.2.2.2.2.2.1≥0)) (cond (decide (a2.2.2.2.2.2.1≤a2.2.2.2.2.2.2)) (cond (decide (a2.2.2.2.2.2.2≥a1)) (some (decide (a2.2.2.2.2.2.2≤1048576)))<|some false)<|some false)<|some false)<|some false)<|some false)<|cond (!(decide (a2.2.1=a2.2.2.1))) (some false)<|some false)<|cond (!(decide (a2.2.1=a2.2.2.1))) (some false)<|some false)<|cond (!(decide (a2.2.1=a2.2.2.1))) (some false)<|some false)<|cond (!(decide (a2.2.1=a2.2.2.1))) (some false)<|some false)<|cond (decide (a2.1≥1)) (cond (decide (a2.2.2.2.1≥1)) (cond (decide (a2.2.2.2.1≤1099511627776)) (cond (decide (a2.2.2.2.2.1≥1)) (some false)<|some false)<|some false)<|some false)<|some false)<|cond (decide (a2.1≥1)) (cond (decide (a2.2.2.2.1≥1)) (cond (decide (a2.2.2.2.1≤1099511627776)) (cond (decide (a2.2.2.2.2.1≥1)) (some false)<|some false)<|some false)<|some false)<|some false
def Ch (k:Nat)(a0:yA)(a1 a2:Int):Option Int:=
 cond (decide (a1≥a0.2.2.2.1)) (some 7)<|cond (decide (a2=3)) (cond (decide (a1≥a0.2.2.1)) (some 7)<|some 0)<|some 0
def G2 (k:Nat)(a0:yA)(a1:Int)(a2:zD):Option Int:=
 (QT k a0 a1 a2).bind fun x0=>cond (!x0) (some 1)<|(Ch k a0 a1 a2.2.2.2.2.1).bind fun x1=>some x1
def Qu (k:Nat)(a0:Int):Option Bool:=
 some (!(decide (a0=a0)))
def Qt (k:Nat)(a0 a1:Int):Option Bool:=
 (Qu k a0).bind fun x0=>cond x0 ((Qu k a1).bind fun x1=>cond (!x1) (some true)<|some (decide (a0<a1)))<|some (decide (a0<a1))
def Qw (k:Nat)(a0:Int):Option Bool:=
 some (!(decide (a0=a0)))
abbrev yBy:Type:=AC×Int×Int×Int
abbrev qV8:Type:=AC→Int→Int→Int→Int→Option yBy
def Qv (k:Nat)(rec:qV8)(s0:AC)(s1 s6 s7 s8:Int):Option yBy:=
 cond (decide (s7<s8)) (cond (zB (zA ((shr .u64 (IntKind.wrap .u64 ((zA (s7+s8)))) 1))) s0.length) ((Qt k (s0.getD (zA ((shr .u64 (IntKind.wrap .u64 ((zA (s7+s8)))) 1))).toNat 0) s1).bind fun x0=>cond x0 (rec s0 s1 s6 (zA ((zA ((shr .u64 (IntKind.wrap .u64 ((zA (s7+s8)))) 1)))+1)) s8)<|rec s0 s1 s6 s7 (zA ((shr .u64 (IntKind.wrap .u64 ((zA (s7+s8)))) 1)))) none)<|some (s0,s1,s6,s7)
def LJ (k:Nat):Nat→qV8:=qW (fun _ _ _ _ _=>none) (Qv k)
def Gh (k:Nat)(a0:AC)(a1:Int):Option fa:=
 (LJ k k a0 a1 (a0.length:Int) 0 (a0.length:Int)).bind fun z=>cond (decide (z.2.2.2<z.2.2.1)) (cond (zB z.2.2.2 z.1.length) (cond (decide ((z.1.getD z.2.2.2.toNat 0)=z.2.1)) (some (z.2.2.2,true))<|cond (zB z.2.2.2 z.1.length) ((Qw k (z.1.getD z.2.2.2.toNat 0)).bind fun x1=>cond x1 ((Qw k z.2.1).bind fun x2=>some (z.2.2.2,x2))<|some (z.2.2.2,false)) none) none)<|some (z.2.2.2,false)
def qi (k:Nat)(a0:AC):Option AC:=
 cond (zM (0+a0.length) 8) (some a0) none
abbrev yVg (k:Nat)(a0:AC)(a1:Int)(a2:AC):Option AC:=ins 8 a0 a1 a2
def Gj (k:Nat)(a0:AC)(a1:Int):Option (AC×Int):=
 (Gh k a0 a1).bind fun x0=>cond x0.2 (some (a0,6))<|cond (decide ((a0.length:Int)≥200)) (some (a0,3))<|(qi k a0).bind fun x1=>(yVg k x1 x0.1 [a1]).bind fun x2=>some (x2,0)
def Y8 (k:Nat)(cf bj bB cw bN ca bR a1:Int):Option Bool:=
 some (decide (cf=a1))
abbrev yCk:Type:=List zD→Int→Int→Int→Option (Unit⊕Int)
def F7 (k:Nat)(rec:yCk)(s0:List zD)(s7 s8 af:Int):Option (Unit⊕Int):=
 cond (decide (s8<s7)) (cond (zB s8 s0.length) ((Y8 k (s0.getD s8.toNat (0,0,0,0,0,0,0)).1 (s0.getD s8.toNat (0,0,0,0,0,0,0)).2.1 (s0.getD s8.toNat (0,0,0,0,0,0,0)).2.2.1 (s0.getD s8.toNat (0,0,0,0,0,0,0)).2.2.2.1 (s0.getD s8.toNat (0,0,0,0,0,0,0)).2.2.2.2.1 (s0.getD s8.toNat (0,0,0,0,0,0,0)).2.2.2.2.2.1 (s0.getD s8.toNat (0,0,0,0,0,0,0)).2.2.2.2.2.2 af).bind fun x0=>cond x0 (some (.inr s8))<|rec s0 s7 (zA (s8+1)) af) none)<|some (.inl ())
def F6 (k:Nat):Nat→yCk
 |0,_,_,_,_=>none
 |n+1,s0,s7,s8,af=>F7 k (F6 k n) s0 s7 s8 af
def Y9 (k:Nat)(a0:List zD)(cX:Int):Option Int:=
 (F6 k k a0 (a0.length:Int) 0 cX).bind fun z=>match z with
 |.inl z1=>some (-1)
 |.inr z2=>some z2
def pt (k:Nat)(a0:List zD)(a1:Int):Option Int:=
 (Y9 k a0 a1).bind fun x0=>some x0
def Qr (k:Nat)(a0:Int):Option Bool:=
 some (!(decide (a0=a0)))
def LB (k:Nat)(a0 a1:Int):Option Int:=
 (Qr k a0).bind fun x0=>(Qr k a1).bind fun x1=>cond x0 (cond x1 (some 0)<|some (-1))<|cond x1 (some 1)<|cond (decide (a0<a1)) (some (-1))<|cond (decide (a0>a1)) (some 1)<|some 0
abbrev qV9:Type:=Int→AC→Int→Int→Option (Int⊕Int)
def yYy (k:Nat)(rec:qV9)(s3:Int)(s6:AC)(s7 s8:Int):Option (Int⊕Int):=
 cond (decide (s8<s7)) (cond (zB s8 s6.length) (cond (!(decide ((s6.getD s8.toNat 0)=s3))) (some (.inr (s6.getD s8.toNat 0)))<|rec s3 s6 s7 (zA (s8+1))) none)<|some (.inl s3)
def LA (k:Nat):Nat→qV9
 |0,_,_,_,_=>none
 |n+1,s3,s6,s7,s8=>yYy k (LA k n) s3 s6 s7 s8
def Qq (k:Nat)(a0:AC):Option Int:=
 (LA k k 0 a0 (a0.length:Int) 0).bind fun z=>match z with
 |.inl z1=>some z1
 |.inr z2=>some z2
def F8 (k:Nat)(cf bj bB cw bN ca bR ij ct dC eE dD jb jc:Int):Option Int:=
 (LB k bj ct).bind fun x0=>(LB k bN dD).bind fun x1=>(Qq k [x0,x1]).bind fun x2=>some x2
def xS (k:Nat)(a0:List zD):Option (List zD):=
 cond (zM (0+a0.length) 56) (some a0) none
abbrev Qs (k:Nat)(a0:List zD)(a1:Int)(a2:List zD):Option (List zD):=ins 56 a0 a1 a2
abbrev yBj:Type:=(List zD)×Int×zD
abbrev qUh:Type:=List zD→Int→zD→Option yBj
def Gc (k:Nat)(rec:qUh)(s0:List zD)(s6:Int)(b0:zD):Option yBj:=
 cond (decide (s6<s0.length)) (cond (zB s6 s0.length) ((F8 k (s0.getD s6.toNat (0,0,0,0,0,0,0)).1 (s0.getD s6.toNat (0,0,0,0,0,0,0)).2.1 (s0.getD s6.toNat (0,0,0,0,0,0,0)).2.2.1 (s0.getD s6.toNat (0,0,0,0,0,0,0)).2.2.2.1 (s0.getD s6.toNat (0,0,0,0,0,0,0)).2.2.2.2.1 (s0.getD s6.toNat (0,0,0,0,0,0,0)).2.2.2.2.2.1 (s0.getD s6.toNat (0,0,0,0,0,0,0)).2.2.2.2.2.2 b0.1 b0.2.1 b0.2.2.1 b0.2.2.2.1 b0.2.2.2.2.1 b0.2.2.2.2.2.1 b0.2.2.2.2.2.2).bind fun x1=>cond (decide (x1≤0)) (rec s0 (zA (s6+1)) b0)<|some (s0,s6,b0)) none)<|some (s0,s6,b0)
def LF (k:Nat):Nat→qUh:=qW (fun _ _ _=>none) (Gc k)
def xT (k:Nat)(a0:List zD)(a1:zD):Option ((List zD)×Int):=
 (pt k a0 a1.1).bind fun x0=>cond (decide (x0≥0)) (some (a0,6))<|cond (decide ((a0.length:Int)≥40)) (some (a0,3))<|(LF k k a0 0 a1).bind fun z=>(xS k z.1).bind fun x2=>(Qs k x2 z.2.1 [z.2.2]).bind fun x3=>some (x3,0)
def QU (k:Nat)(a0:jO)(a1:NT):Option (Int×jO):=
 (vH k a1.2.1 0 (zA (a0.1-1))).bind fun x0=>cond (!x0) (some (1,a0))<|(vH k a1.2.2.2.1 1 3).bind fun x1=>cond (!x1) (some (1,a0))<|(G2 k (qZ a0) a0.2.2.2.2.2.1 (a1.1,a0.2.2.2.2.2.2.2.2.2.2.2.2.2.2.2.2.1,a1.2)).bind fun x2=>cond (!(decide (x2=0))) (some (x2,a0))<|(Gj k a0.2.2.2.2.2.2.2.2.2.2.2.2.2.1 a1.1).bind fun x3=>cond (!(decide (x3.2=0))) (some (x3.2,a0))<|(xT k a0.2.2.2.2.2.2.2.2.2.2.2.2.1 (a1.1,a0.2.2.2.2.2.2.2.2.2.2.2.2.2.2.2.2.1,a1.2)).bind fun x4=>cond (!(decide (x4.2=0))) (some (x4.2,a0))<|some (0,(kt a0 (x4.1,x3.1,a0.2.2.2.2.2.2.2.2.2.2.2.2.2.2)))
def yEn (k:Nat)(a0:jO)(a1:Int):Option (zD×Int):=
 (pt k a0.2.2.2.2.2.2.2.2.2.2.2.2.1 a1).bind fun x0=>cond (decide (x0<0)) (some ((0,0,0,0,0,0,0),4))<|cond (zB x0 a0.2.2.2.2.2.2.2.2.2.2.2.2.1.length) (cond (!(decide ((a0.2.2.2.2.2.2.2.2.2.2.2.2.1.getD x0.toNat (0,0,0,0,0,0,0)).2.1=a0.2.2.2.2.2.2.2.2.2.2.2.2.2.2.2.2.1))) (some ((0,0,0,0,0,0,0),4))<|cond (zB x0 a0.2.2.2.2.2.2.2.2.2.2.2.2.1.length) (some ((a0.2.2.2.2.2.2.2.2.2.2.2.2.1.getD x0.toNat (0,0,0,0,0,0,0)),0)) none) none
def Ly (k:Nat)(a0:List zD)(a1 a2:Int):Option (List zD):=
 cond (((((decide (0≤a1))&&(decide (a1≤a2)))&&(decide (a2≤a0.length)))&&(decide (((a2.toNat : Nat) : Int)≤a0.length)))&&(decide ((a0.length : Int)≤(a0.length : Int)))) (cond (decide (a1=a2)) (some a0)<|cond ((decide (0≤a1))&&(decide (a1≤a0.length))) (cond ((decide (0≤a2))&&(decide (a2≤a0.length))) (cond (Nat.ble (a1.toNat - 0) (0+a2.toNat)) (let y0:List zD:=(((List.take (a1.toNat-0) a0)++(qM a0 (0+a2.toNat) (a0.length-a2.toNat)))++(List.drop ((a1.toNat-0)+(a0.length-a2.toNat)) a0))
     cond (((decide (0≤((qM y0 0 ((a1.toNat - 0)+(a0.length - a2.toNat))).length : Int)))&&(decide (((qM y0 0 ((a1.toNat - 0)+(a0.length - a2.toNat))).length : Int)≤(a0.length : Int))))&&(decide ((a0.length : Int)≤(((y0.length - 0) : Nat) : Int)))) (let y1:List zD:=(((List.take (0+(qM y0 0 ((a1.toNat-0)+(a0.length-a2.toNat))).length) y0)++(List.replicate (a0.length-(qM y0 0 ((a1.toNat-0)+(a0.length-a2.toNat))).length) ((0,0,0,0,0,0,0):Int×Int×Int×Int×Int×Int×Int)))++(List.drop ((0+(qM y0 0 ((a1.toNat-0)+(a0.length-a2.toNat))).length)+(a0.length-(qM y0 0 ((a1.toNat-0)+(a0.length-a2.toNat))).length)) y0))
      some (List.take ((a1.toNat-0)+(a0.length-a2.toNat)) y1)) none) none) none) none) none
def qo (k:Nat)(a0:List zD)(a1:Int):Option yAv:=
 (pt k a0 a1).bind fun x0=>cond (decide (x0<0)) (some (a0,0,0,0,0,0,0,0,4))<|(xS k a0).bind fun x1=>(Ly k x1 x0 (zA (x0+1))).bind fun x2=>cond (zB x0 a0.length) (some (x2,(gh (a0.getD x0.toNat (0,0,0,0,0,0,0)) 0))) none
def yj (k:Nat)(a0:jO)(a1:Int)(a2:AC):Option jO:=
 cond (zM (a0.2.2.2.2.2.2.2.2.2.2.2.2.2.2.2.2.2.length+1) 64) (let y0:List qJ:=(a0.2.2.2.2.2.2.2.2.2.2.2.2.2.2.2.2.2++[(a0.2.2.2.2.2.2.2.2.2.2.2.2.2.2.2.2.1,a1,(cond (Nat.blt 0 a2.length) (a2.getD 0 0)<|0),(cond (Nat.blt 1 a2.length) (a2.getD 1 0)<|0),(cond (Nat.blt 2 a2.length) (a2.getD 2 0)<|0),(cond (Nat.blt 3 a2.length) (a2.getD 3 0)<|0),(cond (Nat.blt 4 a2.length) (a2.getD 4 0)<|0),(cond (Nat.blt 5 a2.length) (a2.getD 5 0)<|0))])
  some (yH a0 y0)) none
def Gd (k:Nat)(a0:List zD)(a1 a2:Int):Option ((List zD)×Int):=
 (qo k a0 a1).bind fun x0=>cond (!(decide (x0.2.2.2.2.2.2.2.2=0))) (some (a0,x0.2.2.2.2.2.2.2.2))<|(xT k x0.1 (iK x0 (a2,x0.2.2.2.2.2.2.1,x0.2.2.2.2.2.2.2.1))).bind fun x1=>some (x1.1,x1.2)
def Zg (k:Nat)(a0:List zD)(a1:Int):Option yAv:=
 (pt k a0 a1).bind fun x0=>cond (decide (x0<0)) none<|(xS k a0).bind fun x1=>(Ly k x1 x0 (zA (x0+1))).bind fun x2=>cond (zB x0 a0.length) (some (x2,(gh (a0.getD x0.toNat (0,0,0,0,0,0,0)) 0))) none
abbrev qMw:Type:=Int×(List zD)×zD
abbrev yDv:Type:=Int→List zD→zD→Option qMw
def Gf (k:Nat)(rec:yDv)(s9:Int)(r0:List zD)(b1:zD):Option qMw:=
 cond (decide (s9<r0.length)) (cond (zB s9 r0.length) ((F8 k (r0.getD s9.toNat (0,0,0,0,0,0,0)).1 (r0.getD s9.toNat (0,0,0,0,0,0,0)).2.1 (r0.getD s9.toNat (0,0,0,0,0,0,0)).2.2.1 (r0.getD s9.toNat (0,0,0,0,0,0,0)).2.2.2.1 (r0.getD s9.toNat (0,0,0,0,0,0,0)).2.2.2.2.1 (r0.getD s9.toNat (0,0,0,0,0,0,0)).2.2.2.2.2.1 (r0.getD s9.toNat (0,0,0,0,0,0,0)).2.2.2.2.2.2 b1.1 b1.2.1 b1.2.2.1 b1.2.2.2.1 b1.2.2.2.2.1 b1.2.2.2.2.2.1 b1.2.2.2.2.2.2).bind fun x1=>cond (decide (x1<0)) (rec (zA (s9+1)) r0 b1)<|some (s9,r0,b1)) none)<|some (s9,r0,b1)
def LI (k:Nat):Nat→yDv:=qW (fun _ _ _=>none) (Gf k)
def Gg (k:Nat)(a0:List zD)(a1:Int):Option ((List zD)×Int):=
 (Zg k a0 a1).bind fun x0=>cond (!(decide (x0.2.2.2.2.2.2.2.2=0))) (some (a0,x0.2.2.2.2.2.2.2.2))<|(LI k k 0 x0.1 (Sv x0)).bind fun z=>(Qs k z.2.1 z.1 [z.2.2]).bind fun x2=>some (x2,0)
def Ge (k:Nat)(a0:List zD)(a1:Int):Option ((List zD)×Int):=
 (qo k a0 a1).bind fun x0=>cond (!(decide (x0.2.2.2.2.2.2.2.2=0))) (some (a0,x0.2.2.2.2.2.2.2.2))<|(xT k x0.1 (Sv x0)).bind fun x1=>some (x1.1,x1.2)
def Ck (k:Nat)(a0:jO)(a1:zD):Option (Int×jO):=
 (yEn k a0 a1.2.1).bind fun x0=>cond (!(decide (x0.2=0))) (some (x0.2,a0))<|cond (decide (a1.1=2)) ((qo k a0.2.2.2.2.2.2.2.2.2.2.2.2.1 a1.2.1).bind fun x1=>(yj k (kt a0 (x1.1,a0.2.2.2.2.2.2.2.2.2.2.2.2.2)) 20 [a1.2.1]).bind fun x2=>some (x1.2.2.2.2.2.2.2.2,x2))<|cond (decide (a1.1=4)) ((vH k a1.2.2.1 1 3).bind fun x3=>cond (!x3) (some (1,a0))<|(Ch k (qZ a0) a0.2.2.2.2.2.1 a1.2.2.1).bind fun x4=>cond (!(decide (x4=0))) (some (x4,a0))<|(Gd k a0.2.2.2.2.2.2.2.2.2.2.2.2.1 a1.2.1 a1.2.2.1).bind fun x5=>some (x5.2,(kt a0 (x5.1,a0.2.2.2.2.2.2.2.2.2.2.2.2.2))))<|cond (decide (a1.2.2.1=0)) ((Gg k a0.2.2.2.2.2.2.2.2.2.2.2.2.1 a1.2.1).bind fun x6=>some (x6.2,(kt a0 (x6.1,a0.2.2.2.2.2.2.2.2.2.2.2.2.2))))<|cond (decide (a1.2.2.1=1)) ((Ge k a0.2.2.2.2.2.2.2.2.2.2.2.2.1 a1.2.1).bind fun x7=>some (x7.2,(kt a0 (x7.1,a0.2.2.2.2.2.2.2.2.2.2.2.2.2))))<|some (1,a0)
def Ym (k:Nat)(a0:List zJ):Option (List zJ):=
 cond (zM (0+a0.length) 24) (some a0) none
def Yj (k:Nat)(a0:EQ):Option Nat:=
 cond (zM (0+a0.length) 24) (some a0.length) none
abbrev qOj:Type:=EQ→Int→Int→EQ→Nat→Option (EQ×Nat)
def Fg (k:Nat)(rec:qOj)(s8:EQ)(s9 av:Int)(m0:EQ)(n0:Nat):Option (EQ×Nat):=
 cond (decide (av<s9)) (cond (zB av s8.length) ((qi k (s8.getD av.toNat [])).bind fun x1=>cond (zB av n0) (cond (Nat.beq av.toNat m0.length) (rec s8 s9 (zA (av+1)) (m0++[x1]) n0) none) none) none)<|some (m0,n0)
def KV (k:Nat):Nat→qOj
 |0,_,_,_,_,_=>none
 |n+1,s8,s9,av,m0,n0=>Fg k (KV k n) s8 s9 av m0 n0
def KW (k:Nat)(a0:EQ):Option EQ:=
 (Yj k a0).bind fun x0=>(KV k k a0 (a0.length:Int) 0 [] x0).bind fun z=>WM z.1 z.2
def gF (k:Nat)(au:List zJ)(aB:EQ)(aA:AC)(ax:EQ):Option AH:=
 (Ym k au).bind fun x0=>(KW k aB).bind fun x1=>(qi k aA).bind fun x2=>(KW k ax).bind fun x3=>some (x0,x1,x2,x3)
def qO0 (k:Nat)(a0:jO)(a1:Int):Option Bool:=
 (vH k a1 0 (zA (a0.1-1))).bind fun x0=>cond x0 (some (!(decide (a1=a0.2.2.2.2.2.2.2.2.2.2.2.2.2.2.2.2.1))))<|some false
def Cl (k:Nat)(a0:jO)(a1:zD):Option (Int×jO):=
 (gF k a0.2.2.2.2.2.2.1 a0.2.2.2.2.2.2.2.1 a0.2.2.2.2.2.2.2.2.1 a0.2.2.2.2.2.2.2.2.2.1).bind fun x0=>cond (decide (a1.1=5)) ((qO0 k a0 a1.2.1).bind fun x1=>cond (!x1) (some (1,a0))<|(vH k a1.2.2.1 (-1) 1152921504606846976).bind fun x2=>cond (!x2) (some (1,a0))<|cond (zB a0.2.2.2.2.2.2.2.2.2.2.2.2.2.2.2.2.1 x0.2.1.length) (cond (zB a1.2.1 (x0.2.1.getD a0.2.2.2.2.2.2.2.2.2.2.2.2.2.2.2.2.1.toNat []).length) (let y0:EQ:=(x0.2.1.set a0.2.2.2.2.2.2.2.2.2.2.2.2.2.2.2.2.1.toNat ((x0.2.1.getD a0.2.2.2.2.2.2.2.2.2.2.2.2.2.2.2.2.1.toNat []).set a1.2.1.toNat a1.2.2.1))
    some (0,(jH a0 (x0.1,y0,x0.2.2.1,x0.2.2.2,a0.2.2.2.2.2.2.2.2.2.2)))) none) none)<|cond (decide (a1.1=6)) ((vH k a1.2.1 (-1) 1152921504606846976).bind fun x3=>cond (!x3) (some (1,a0))<|cond (zB a0.2.2.2.2.2.2.2.2.2.2.2.2.2.2.2.2.1 x0.2.2.1.length) (let y1:AC:=(x0.2.2.1.set a0.2.2.2.2.2.2.2.2.2.2.2.2.2.2.2.2.1.toNat a1.2.1)
   some (0,(jH a0 (x0.1,x0.2.1,y1,x0.2.2.2,a0.2.2.2.2.2.2.2.2.2.2)))) none)<|(vH k a1.2.1 0 1152921504606846976).bind fun x4=>cond (!x4) (some (1,a0))<|cond (zB a0.2.2.2.2.2.2.2.2.2.2.2.2.2.2.2.2.1 x0.1.length) (let y2:List zJ:=(x0.1.set a0.2.2.2.2.2.2.2.2.2.2.2.2.2.2.2.2.1.toNat ((x0.1.getD a0.2.2.2.2.2.2.2.2.2.2.2.2.2.2.2.2.1.toNat (0,0,0)).1,(x0.1.getD a0.2.2.2.2.2.2.2.2.2.2.2.2.2.2.2.2.1.toNat (0,0,0)).2.1,a1.2.1))
  some (0,(jH a0 (y2,x0.2.1,x0.2.2.1,x0.2.2.2,a0.2.2.2.2.2.2.2.2.2.2)))) none
def Nz (k:Nat)(a0:jO)(a1:Int):Option Bool:=
 (vH k a1 0 (zA ((a0.2.1.length:Int)-1))).bind fun x0=>some x0
def G4 (k:Nat)(a0:EQ):Option EQ:=
 cond (zM (0+a0.length) 24) (some a0) none
def qu (k:Nat)(a0:AC)(a1 a2:Int):Option AC:=
 (qi k a0).bind fun x0=>cond (decide (a1≥0)) (cond (decide (a1<x0.length)) (cond (zB a1 x0.length) (some (x0.set a1.toNat a2)) none)<|some x0)<|some x0
def LL (k:Nat)(a0:Int):Option Bool:=
 cond (decide (a0≥0)) (some (decide (a0≤10000)))<|some false
def Gn (k:Nat)(a0 a1:Int):Option vX:=
 some ((IntKind.wrap .u64 ((IntKind.wrap .u64 ((IntKind.wrap .u64 ((shr .u64 a0 32)*(shr .u64 a1 32)))+(shr .u64 (IntKind.wrap .u64 ((IntKind.wrap .u64 ((shr .u64 a0 32)*(yP .u64 a1 4294967295)))+(shr .u64 (IntKind.wrap .u64 ((yP .u64 a0 4294967295)*(yP .u64 a1 4294967295))) 32))) 32)))+(shr .u64 (IntKind.wrap .u64 ((yP .u64 (IntKind.wrap .u64 ((IntKind.wrap .u64 ((shr .u64 a0 32)*(yP .u64 a1 4294967295)))+(shr .u64 (IntKind.wrap .u64 ((yP .u64 a0 4294967295)*(yP .u64 a1 4294967295))) 32))) 4294967295)+(IntKind.wrap .u64 ((yP .u64 a0 4294967295)*(shr .u64 a1 32))))) 32))),(IntKind.wrap .u64 (a0*a1)))
def vIm (k:Nat)(a0:Int):Option Int:=
 cond (decide (a0≥4294967296)) (cond (decide ((shr .u64 a0 32)≥65536)) (cond (decide ((shr .u64 (shr .u64 a0 32) 16)≥256)) (cond (zB (IntKind.wrap .u8 ((shr .u64 (shr .u64 (shr .u64 a0 32) 16) 8))) lN.length) (some (zA (56+(zA ((lN.getD (IntKind.wrap .u8 ((shr .u64 (shr .u64 (shr .u64 a0 32) 16) 8))).toNat 0)))))) none)<|cond (zB (IntKind.wrap .u8 ((shr .u64 (shr .u64 a0 32) 16))) lN.length) (some (zA (48+(zA ((lN.getD (IntKind.wrap .u8 ((shr .u64 (shr .u64 a0 32) 16))).toNat 0)))))) none)<|cond (decide ((shr .u64 a0 32)≥256)) (cond (zB (IntKind.wrap .u8 ((shr .u64 (shr .u64 a0 32) 8))) lN.length) (some (zA (40+(zA ((lN.getD (IntKind.wrap .u8 ((shr .u64 (shr .u64 a0 32) 8))).toNat 0)))))) none)<|cond (zB (IntKind.wrap .u8 ((shr .u64 a0 32))) lN.length) (some (zA (32+(zA ((lN.getD (IntKind.wrap .u8 ((shr .u64 a0 32))).toNat 0)))))) none)<|cond (decide (a0≥65536)) (cond (decide ((shr .u64 a0 16)≥256)) (cond (zB (IntKind.wrap .u8 ((shr .u64 (shr .u64 a0 16) 8))) lN.length) (some (zA (24+(zA ((lN.getD (IntKind.wrap .u8 ((shr .u64 (shr .u64 a0 16) 8))).toNat 0)))))) none)<|cond (zB (IntKind.wrap .u8 ((shr .u64 a0 16))) lN.length) (some (zA (16+(zA ((lN.getD (IntKind.wrap .u8 ((shr .u64 a0 16))).toNat 0)))))) none)<|cond (decide (a0≥256)) (cond (zB (IntKind.wrap .u8 ((shr .u64 a0 8))) lN.length) (some (zA (8+(zA ((lN.getD (IntKind.wrap .u8 ((shr .u64 a0 8))).toNat 0)))))) none)<|cond (zB (IntKind.wrap .u8 (a0)) lN.length) (some (zA (0+(zA ((lN.getD (IntKind.wrap .u8 (a0)).toNat 0)))))) none
def qL0 (k:Nat)(a0:Int):Option Int:=
 (vIm k a0).bind fun x0=>some (zA (64-x0))
abbrev qMq:Type:=Int→Int→Int→Int→Int→Int→Int→Int→Int→Option qJ
def MK (k:Nat)(rec:qMq)(s2 s8 s9 av aP bm bh aQ bG:Int):Option qJ:=
 cond (decide (aQ≥4294967296)) (cond (decide ((IntKind.wrap .u64 (bG+s9))≥4294967296)) (some (s2,s8,s9,av,aP,bm,bh,(IntKind.wrap .u64 (aQ-1))))<|rec s2 s8 s9 av aP bm bh (IntKind.wrap .u64 (aQ-1)) (IntKind.wrap .u64 (bG+s9)))<|cond (decide ((IntKind.wrap .u64 (aQ * av))>(IntKind.wrap .u64 ((IntKind.wrap .u64 (4294967296 * bG))+bm)))) (cond (decide ((IntKind.wrap .u64 (bG+s9))≥4294967296)) (some (s2,s8,s9,av,aP,bm,bh,(IntKind.wrap .u64 (aQ-1))))<|rec s2 s8 s9 av aP bm bh (IntKind.wrap .u64 (aQ-1)) (IntKind.wrap .u64 (bG+s9)))<|some (s2,s8,s9,av,aP,bm,bh,aQ)
def zl (k:Nat):Nat→qMq:=qW (fun _ _ _ _ _ _ _ _ _=>none) (MK k)
abbrev yA3:Type:=Int→Int→Int→Int→Int→Int→Int→Int→Int→Option NT
def ML (k:Nat)(rec:yA3)(s2 s8 s9 av bh aQ bG bb gf:Int):Option NT:=
 cond (decide (gf≥4294967296)) (cond (decide ((IntKind.wrap .u64 (bG+s9))≥4294967296)) (some (s2,s8,bh,aQ,bb,(IntKind.wrap .u64 (gf-1))))<|rec s2 s8 s9 av bh aQ (IntKind.wrap .u64 (bG+s9)) bb (IntKind.wrap .u64 (gf-1)))<|cond (decide ((IntKind.wrap .u64 (gf * av))>(IntKind.wrap .u64 ((IntKind.wrap .u64 (4294967296 * bG))+bh)))) (cond (decide ((IntKind.wrap .u64 (bG+s9))≥4294967296)) (some (s2,s8,bh,aQ,bb,(IntKind.wrap .u64 (gf-1))))<|rec s2 s8 s9 av bh aQ (IntKind.wrap .u64 (bG+s9)) bb (IntKind.wrap .u64 (gf-1)))<|some (s2,s8,bh,aQ,bb,gf)
def zm (k:Nat):Nat→yA3:=qW (fun _ _ _ _ _ _ _ _ _=>none) (ML k)
def Gp (k:Nat)(a0 a1 a2:Int):Option vX:=
 cond (decide (a2=0)) none<|cond (decide (a2≤a0)) none<|cond (decide (a0=0)) (cond (!(decide (a2=0))) (cond (!(decide (a2=0))) (some ((IntKind.wrap .u64 (Int.tdiv a1 a2)),(Int.tmod a1 a2))) none) none)<|(qL0 k a2).bind fun x0=>cond (!(decide ((IntKind.wrap .u64 (x0))<0))) (cond (!(decide ((IntKind.wrap .u64 (x0))<0))) (cond (!(decide ((IntKind.wrap .u64 (64 - (IntKind.wrap .u64 (x0))))<0))) (cond (!(decide ((IntKind.wrap .u64 (x0))<0))) (cond (!(decide ((shr .u64 (shl .u64 a2 (IntKind.wrap .u64 (x0))) 32)=0))) ((zl k k (shl .u64 a2 (IntKind.wrap .u64 (x0))) (IntKind.wrap .u64 (x0)) (shr .u64 (shl .u64 a2 (IntKind.wrap .u64 (x0))) 32) (yP .u64 (shl .u64 a2 (IntKind.wrap .u64 (x0))) 4294967295) (wR .u64 (shl .u64 a0 (IntKind.wrap .u64 (x0))) (shr .u64 a1 (IntKind.wrap .u64 (64-(IntKind.wrap .u64 (x0)))))) (shr .u64 (shl .u64 a1 (IntKind.wrap .u64 (x0))) 32) (yP .u64 (shl .u64 a1 (IntKind.wrap .u64 (x0))) 4294967295) (IntKind.wrap .u64 (Int.tdiv (wR .u64 (shl .u64 a0 (IntKind.wrap .u64 (x0))) (shr .u64 a1 (IntKind.wrap .u64 (64-(IntKind.wrap .u64 (x0)))))) (shr .u64 (shl .u64 a2 (IntKind.wrap .u64 (x0))) 32))) (IntKind.wrap .u64 ((wR .u64 (shl .u64 a0 (IntKind.wrap .u64 (x0))) (shr .u64 a1 (IntKind.wrap .u64 (64-(IntKind.wrap .u64 (x0))))))-(IntKind.wrap .u64 ((IntKind.wrap .u64 (Int.tdiv (wR .u64 (shl .u64 a0 (IntKind.wrap .u64 (x0))) (shr .u64 a1 (IntKind.wrap .u64 (64-(IntKind.wrap .u64 (x0)))))) (shr .u64 (shl .u64 a2 (IntKind.wrap .u64 (x0))) 32)))*(shr .u64 (shl .u64 a2 (IntKind.wrap .u64 (x0))) 32)))))).bind fun z=>cond (!(decide (z.2.2.1=0))) ((zm k k z.1 z.2.1 z.2.2.1 z.2.2.2.1 z.2.2.2.2.2.2.1 z.2.2.2.2.2.2.2 (IntKind.wrap .u64 ((IntKind.wrap .u64 ((IntKind.wrap .u64 ((IntKind.wrap .u64 (z.2.2.2.2.1*4294967296))+z.2.2.2.2.2.1))-(IntKind.wrap .u64 (z.2.2.2.2.2.2.2*z.1))))-(IntKind.wrap .u64 ((IntKind.wrap .u64 (Int.tdiv (IntKind.wrap .u64 ((IntKind.wrap .u64 ((IntKind.wrap .u64 (z.2.2.2.2.1*4294967296))+z.2.2.2.2.2.1))-(IntKind.wrap .u64 (z.2.2.2.2.2.2.2*z.1)))) z.2.2.1))*z.2.2.1)))) (IntKind.wrap .u64 ((IntKind.wrap .u64 ((IntKind.wrap .u64 (z.2.2.2.2.1*4294967296))+z.2.2.2.2.2.1))-(IntKind.wrap .u64 (z.2.2.2.2.2.2.2*z.1)))) (IntKind.wrap .u64 (Int.tdiv (IntKind.wrap .u64 ((IntKind.wrap .u64 ((IntKind.wrap .u64 (z.2.2.2.2.1*4294967296))+z.2.2.2.2.2.1))-(IntKind.wrap .u64 (z.2.2.2.2.2.2.2*z.1)))) z.2.2.1))).bind fun z1=>cond (!(decide (z1.2.1<0))) (some ((IntKind.wrap .u64 ((IntKind.wrap .u64 (z1.2.2.2.1*4294967296))+z1.2.2.2.2.2)),(shr .u64 (IntKind.wrap .u64 ((IntKind.wrap .u64 ((IntKind.wrap .u64 (z1.2.2.2.2.1*4294967296))+z1.2.2.1))-(IntKind.wrap .u64 (z1.2.2.2.2.2*z1.1)))) z1.2.1))) none) none) none) none) none) none) none
def Gq (k:Nat)(a0 a1 a2:Int):Option fa:=
 cond (decide (a0<0)) (some (0,false))<|cond (decide (a1<0)) (some (0,false))<|(LL k a2).bind fun x0=>cond (!x0) (some (0,false))<|(Gn k (IntKind.wrap .u64 (a0)) (IntKind.wrap .u64 (a1))).bind fun x1=>(Gp k (Int.tmod x1.1 10000) x1.2 10000).bind fun x2=>(Gn k x2.1 (IntKind.wrap .u64 ((zA (10000-a2))))).bind fun x3=>(BF k x3.2 (IntKind.wrap .u64 (Int.tdiv (IntKind.wrap .u64 (x2.2*(IntKind.wrap .u64 ((zA (10000-a2)))))) 10000)) 0).bind fun x4=>cond (decide ((IntKind.wrap .u64 (Int.tdiv x1.1 10000))>0)) (cond (decide ((IntKind.wrap .u64 ((zA (10000-a2))))>0)) (some (0,false))<|cond (decide ((IntKind.wrap .u64 (x3.1+x4.2))>0)) (some (0,false))<|cond (decide (x4.1>9223372036854775807)) (some (0,false))<|some ((zA (x4.1)),true))<|cond (decide ((IntKind.wrap .u64 (x3.1+x4.2))>0)) (some (0,false))<|cond (decide (x4.1>9223372036854775807)) (some (0,false))<|some ((zA (x4.1)),true)
abbrev qQa:Type:=Int→Int→AC→Int→Int→Option vX
def Gm (k:Nat)(rec:qQa)(s4 s5:Int)(s9:AC)(av aP:Int):Option vX:=
 cond (decide (aP<av)) (cond (zB aP s9.length) ((BF k s5 (IntKind.wrap .u64 ((s9.getD aP.toNat 0))) 0).bind fun x0=>rec (zA (s4+(zA ((shr .i64 (s9.getD aP.toNat 0) 63)+(zA (x0.2)))))) x0.1 s9 av (zA (aP+1))) none)<|some (s4,s5)
def Gl (k:Nat):Nat→qQa
 |0,_,_,_,_,_=>none
 |n+1,s4,s5,s9,av,aP=>Gm k (Gl k n) s4 s5 s9 av aP
def Gk (k:Nat)(a0:AC):Option fa:=
 (Gl k k 0 0 a0 (a0.length:Int) 0).bind fun z=>cond (!(decide (z.1=(shr .i64 (zA (z.2)) 63)))) (some (0,false))<|some ((zA (z.2)),true)
abbrev yCw:Type:=AC→AC→List vX→Int→Int→AC→Option (AC⊕fa)
def sS (k:Nat)(rec:yCw)(s1 s2:AC)(ku:List vX)(aX fL:Int)(r0:AC):Option (AC⊕fa):=
 cond (decide (fL<aX)) (cond (zB fL ku.length) (cond (zB fL s1.length) (cond (zB fL s2.length) ((Gq k (s1.getD fL.toNat 0) (s2.getD fL.toNat 0) (ku.getD fL.toNat (0,0)).2).bind fun x0=>cond (!x0.2) (some (.inr (0,false)))<|cond (zM (r0.length+1) 8) (rec s1 s2 ku aX (zA (fL+1)) (r0++[x0.1])) none) none) none) none)<|some (.inl r0)
def qt (k:Nat):Nat→yCw:=qW (fun _ _ _ _ _ _=>none) (sS k)
def mY (k:Nat)(a0:List vX)(a1 a2:AC):Option fa:=
 cond (!(decide ((a1.length:Int)=(a0.length:Int)))) (some (0,false))<|cond (!(decide ((a2.length:Int)=(a0.length:Int)))) (some (0,false))<|(qt k k a1 a2 a0 (a0.length:Int) 0 []).bind fun z=>match z with
 |.inl z1=>(Gk k z1).bind fun x1=>some (x1.1,x1.2)
 |.inr z2=>some (z2.1,z2.2)
def QV (k:Nat)(a0:jO)(a1 a2:Int):Option (Int×jO):=
 (Nz k a0 a1).bind fun x0=>cond (!x0) (some (1,a0))<|(vH k a2 0 1099511627776).bind fun x1=>cond (!x1) (some (1,a0))<|(G4 k a0.2.2.2.2.2.2.2.2.2.2.2.1).bind fun x2=>cond (zB a0.2.2.2.2.2.2.2.2.2.2.2.2.2.2.2.2.1 x2.length) ((qu k (x2.getD a0.2.2.2.2.2.2.2.2.2.2.2.2.2.2.2.2.1.toNat []) a1 a2).bind fun x3=>cond (zB a0.2.2.2.2.2.2.2.2.2.2.2.2.2.2.2.2.1 x2.length) (let y0:EQ:=(x2.set a0.2.2.2.2.2.2.2.2.2.2.2.2.2.2.2.2.1.toNat x3)
   cond (zB a0.2.2.2.2.2.2.2.2.2.2.2.2.2.2.2.2.1 y0.length) ((mY k a0.2.1 a0.2.2.2.2.2.2.2.2.2.2.1 (y0.getD a0.2.2.2.2.2.2.2.2.2.2.2.2.2.2.2.2.1.toNat [])).bind fun x4=>cond (zB a0.2.2.2.2.2.2.2.2.2.2.2.2.2.2.2.2.1 a0.2.2.2.2.2.2.1.length) (cond (!x4.2) (some (8,a0))<|cond (decide (x4.1>1152921504606846976)) (some (8,a0))<|cond (decide (x4.1<(a0.2.2.2.2.2.2.1.getD a0.2.2.2.2.2.2.2.2.2.2.2.2.2.2.2.2.1.toNat (0,0,0)).2.1)) (cond (decide ((zA ((a0.2.2.2.2.2.2.1.getD a0.2.2.2.2.2.2.2.2.2.2.2.2.2.2.2.2.1.toNat (0,0,0)).1+x4.1))<0)) (some (9,a0))<|(gF k a0.2.2.2.2.2.2.1 a0.2.2.2.2.2.2.2.1 a0.2.2.2.2.2.2.2.2.1 a0.2.2.2.2.2.2.2.2.2.1).bind fun x5=>cond (zB a0.2.2.2.2.2.2.2.2.2.2.2.2.2.2.2.2.1 x5.1.length) (let y1:List zJ:=(x5.1.set a0.2.2.2.2.2.2.2.2.2.2.2.2.2.2.2.2.1.toNat ((x5.1.getD a0.2.2.2.2.2.2.2.2.2.2.2.2.2.2.2.2.1.toNat (0,0,0)).1,x4.1,(x5.1.getD a0.2.2.2.2.2.2.2.2.2.2.2.2.2.2.2.2.1.toNat (0,0,0)).2.2))
       some (0,(jH a0 (y1,x5.2.1,x5.2.2.1,x5.2.2.2,a0.2.2.2.2.2.2.2.2.2.2.1,y0,a0.2.2.2.2.2.2.2.2.2.2.2.2)))) none)<|(gF k a0.2.2.2.2.2.2.1 a0.2.2.2.2.2.2.2.1 a0.2.2.2.2.2.2.2.2.1 a0.2.2.2.2.2.2.2.2.2.1).bind fun x6=>cond (zB a0.2.2.2.2.2.2.2.2.2.2.2.2.2.2.2.2.1 x6.1.length) (let y2:List zJ:=(x6.1.set a0.2.2.2.2.2.2.2.2.2.2.2.2.2.2.2.2.1.toNat ((x6.1.getD a0.2.2.2.2.2.2.2.2.2.2.2.2.2.2.2.2.1.toNat (0,0,0)).1,x4.1,(x6.1.getD a0.2.2.2.2.2.2.2.2.2.2.2.2.2.2.2.2.1.toNat (0,0,0)).2.2))
      some (0,(jH a0 (y2,x6.2.1,x6.2.2.1,x6.2.2.2,a0.2.2.2.2.2.2.2.2.2.2.1,y0,a0.2.2.2.2.2.2.2.2.2.2.2.2)))) none) none) none) none) none
def QW (k:Nat)(a0 a1:Int):Option fa:=
 cond (decide (a1>0)) (cond (decide (a0>(zA (9223372036854775807-a1)))) (some (0,false))<|cond (decide (a1<0)) (cond (decide (a0<(zA ((-9223372036854775808)-a1)))) (some (0,false))<|some ((zA (a0+a1)),true))<|some ((zA (a0+a1)),true))<|cond (decide (a1<0)) (cond (decide (a0<(zA ((-9223372036854775808)-a1)))) (some (0,false))<|some ((zA (a0+a1)),true))<|some ((zA (a0+a1)),true)
def PI (k:Nat)(je jg fu:Int):Option Bool:=
 cond (decide (je>(-4611686018427387904))) (cond (decide (je<4611686018427387904)) (cond (decide (jg≥0)) (cond (decide (jg≤2305843009213693952)) (cond (decide (fu≥0)) (some (decide (fu≤2305843009213693952)))<|some false)<|some false)<|some false)<|some false)<|some false
def Me (k:Nat)(a0:zJ)(a1:Int):Option (zJ×Int):=
 (QW k a0.1 a1).bind fun x0=>cond (!x0.2) (some (a0,8))<|(PI k x0.1 a0.2.1 a0.2.2).bind fun x1=>cond (!x1) (some (a0,8))<|some ((x0.1,a0.2),0)
def HB (k:Nat)(a0:zJ)(a1:Int):Option (zJ×Int):=
 (Me k a0 a1).bind fun x0=>some (x0.1,x0.2)
def xN (k:Nat)(je jg fu a1:Int):Option Int:=
 some (yC false (zA (fu-a1)) 0)
def HC (k:Nat)(a0:zJ)(a1 a2:Int):Option (zJ×Int):=
 (Me k a0 (zA (0-a1))).bind fun x0=>cond (decide (x0.2=0)) (cond (decide (a2=1)) ((xN k a0.1 a0.2.1 a0.2.2 a1).bind fun x1=>some ((x0.1.1,x0.1.2.1,x1),x0.2))<|cond (decide (a2=2)) ((xN k a0.1 a0.2.1 a0.2.2 a1).bind fun x2=>some ((x0.1.1,x0.1.2.1,x2),x0.2))<|some (x0.1,x0.2))<|some (x0.1,x0.2)
def HD (k:Nat)(a0:zJ)(a1:Int):Option Int:=
 cond (decide (a1=3)) (some (zA ((zA (a0.1+a0.2.1))-a0.2.2)))<|some (zA (a0.1+a0.2.1))
def qZ2 (k:Nat)(a0:jO)(a1 a2 a3:Int):Option (Int×jO):=
 (vH k a2 0 (zA (a0.1-1))).bind fun x0=>cond (!x0) (some (1,a0))<|(vH k a3 1 1099511627776).bind fun x1=>cond (!x1) (some (1,a0))<|cond (zB a2 a0.2.2.2.2.2.2.1.length) ((HB k (a0.2.2.2.2.2.2.1.getD a2.toNat (0,0,0)) a3).bind fun x2=>cond (decide (a1=11)) ((HC k (a0.2.2.2.2.2.2.1.getD a2.toNat (0,0,0)) a3 3).bind fun x3=>(HD k (a0.2.2.2.2.2.2.1.getD a2.toNat (0,0,0)) 3).bind fun x4=>cond (decide (x4<a3)) (some (9,a0))<|cond (decide ((zA (a0.2.2.2.2.2.2.2.2.2.2.2.2.2.2.1-a3))<0)) (some (9,a0))<|cond (!(decide (x3.2=0))) (some (x3.2,a0))<|cond (decide ((zA (a0.2.2.2.2.2.2.2.2.2.2.2.2.2.2.1-a3))>1152921504606846976)) (some (8,a0))<|(gF k a0.2.2.2.2.2.2.1 a0.2.2.2.2.2.2.2.1 a0.2.2.2.2.2.2.2.2.1 a0.2.2.2.2.2.2.2.2.2.1).bind fun x5=>cond (zB a2 x5.1.length) (some (0,(jH a0 ((x5.1.set a2.toNat x3.1),x5.2.1,x5.2.2.1,x5.2.2.2,(I9 a0 ((zA (a0.2.2.2.2.2.2.2.2.2.2.2.2.2.2.1-a3)),a0.2.2.2.2.2.2.2.2.2.2.2.2.2.2.2)))))) none)<|cond (!(decide (x2.2=0))) (some (x2.2,a0))<|cond (decide ((zA (a0.2.2.2.2.2.2.2.2.2.2.2.2.2.2.1+a3))>1152921504606846976)) (some (8,a0))<|(gF k a0.2.2.2.2.2.2.1 a0.2.2.2.2.2.2.2.1 a0.2.2.2.2.2.2.2.2.1 a0.2.2.2.2.2.2.2.2.2.1).bind fun x6=>cond (zB a2 x6.1.length) (some (0,(jH a0 ((x6.1.set a2.toNat x2.1),x6.2.1,x6.2.2.1,x6.2.2.2,(I9 a0 ((zA (a0.2.2.2.2.2.2.2.2.2.2.2.2.2.2.1+a3)),a0.2.2.2.2.2.2.2.2.2.2.2.2.2.2.2)))))) none) none
abbrev qNw:Type:=(lM×(List qJ)×AC×(List zJ)×EQ×AC×EQ)⊕(Int×lM×(List qJ))
abbrev qY6:Type:=EQ→Int→Int→lM→List qJ→AC→List zJ→EQ→AC→EQ→Option qNw
def yKy (k:Nat)(rec:qY6)(gQ:EQ)(jm lh:Int)(b0:lM)(r1:List qJ)(r2:AC)(r4:List zJ)(m5:EQ)(r6:AC)(m7:EQ):Option qNw:=
 cond (decide (lh<jm)) (cond (zB lh gQ.length) ((mY k b0.2.1 r2 (gQ.getD lh.toNat [])).bind fun x4=>cond (!x4.2) (some (.inr (8,b0,r1)))<|cond (decide (x4.1>1152921504606846976)) (some (.inr (8,b0,r1)))<|cond (zB lh r4.length) (let y0:List zJ:=(r4.set lh.toNat ((r4.getD lh.toNat (0,0,0)).1,x4.1,(r4.getD lh.toNat (0,0,0)).2.2))
    rec gQ jm (zA (lh+1)) b0 r1 r2 y0 m5 r6 m7) none) none)<|some (.inl (b0,r1,r2,r4,m5,r6,m7))
def qW7 (k:Nat):Nat→qY6:=qW (fun _ _ _ _ _ _ _ _ _ _=>none) (yKy k)
def yTq (k:Nat)(a0:jO)(a1 a2:Int):Option (Int×jO):=
 (Nz k a0 a1).bind fun x0=>cond (!x0) (some (1,a0))<|(vH k a2 0 1048576).bind fun x1=>cond (!x1) (some (1,a0))<|(qu k a0.2.2.2.2.2.2.2.2.2.2.1 a1 a2).bind fun x2=>(gF k a0.2.2.2.2.2.2.1 a0.2.2.2.2.2.2.2.1 a0.2.2.2.2.2.2.2.2.1 a0.2.2.2.2.2.2.2.2.2.1).bind fun x3=>(qW7 k k a0.2.2.2.2.2.2.2.2.2.2.2.1 (a0.2.2.2.2.2.2.2.2.2.2.2.1.length:Int) 0 (lI a0) a0.2.2.2.2.2.2.2.2.2.2.2.2.2.2.2.2.2 x2 x3.1 x3.2.1 x3.2.2.1 x3.2.2.2).bind fun z=>match z with
 |.inl z1=>some (0,(jH z1.1 (vN7 z1 (z1.2.2.1,(qQ4 z1.1 z1.2.1)))))
 |.inr z2=>some (z2.1,(vR z2.2.1 z2.2.2))
def RP (k:Nat)(a0:jO)(a1:zD):Option (Int×jO):=
 cond (decide (a1.1=1)) ((QU k a0 a1.2).bind fun x0=>some (x0.1,x0.2))<|cond (decide (a1.1=2)) ((Ck k a0 a1).bind fun x1=>some (x1.1,x1.2))<|cond (decide (a1.1=3)) ((Ck k a0 a1).bind fun x2=>some (x2.1,x2.2))<|cond (decide (a1.1=4)) ((Ck k a0 a1).bind fun x3=>some (x3.1,x3.2))<|cond (decide (a1.1=5)) ((Cl k a0 a1).bind fun x4=>some (x4.1,x4.2))<|cond (decide (a1.1=6)) ((Cl k a0 a1).bind fun x5=>some (x5.1,x5.2))<|cond (decide (a1.1=7)) ((Cl k a0 a1).bind fun x6=>some (x6.1,x6.2))<|cond (decide (a1.1=8)) ((QV k a0 a1.2.1 a1.2.2.1).bind fun x7=>some (x7.1,x7.2))<|cond (decide (a1.1=10)) ((qZ2 k a0 a1.1 a1.2.1 a1.2.2.1).bind fun x8=>some (x8.1,x8.2))<|cond (decide (a1.1=11)) ((qZ2 k a0 a1.1 a1.2.1 a1.2.2.1).bind fun x9=>some (x9.1,x9.2))<|cond (decide (a1.1=12)) ((yTq k a0 a1.2.1 a1.2.2.1).bind fun bC=>some (bC.1,bC.2))<|some (0,a0)
def Cg (k:Nat)(di:Int)(dV:List vX)(dW dj cg a1:Int):Option Bool:=
 some (decide (a1=dj))
def qx (k:Nat)(a0 a1:Int)(a2:AC):Option qJ:=
 some (a0,a1,(cond (Nat.blt 0 a2.length) (a2.getD 0 0)<|0),(cond (Nat.blt 1 a2.length) (a2.getD 1 0)<|0),(cond (Nat.blt 2 a2.length) (a2.getD 2 0)<|0),(cond (Nat.blt 3 a2.length) (a2.getD 3 0)<|0),(cond (Nat.blt 4 a2.length) (a2.getD 4 0)<|0),(cond (Nat.blt 5 a2.length) (a2.getD 5 0)<|0))
abbrev yCj:Type:=Int×(List zJ)×EQ×AC×EQ×AC×EQ×(List zD)×AC×Int×Bool×Int×Int×Bool×(List qJ)
abbrev qYs:Type:=List zD→Int→Int→Int→List zJ→EQ→AC→EQ→AC→EQ→List zD→AC→Int→Bool→Int→Int→Bool→List qJ→Option yCj
def GW (k:Nat)(rec:qYs)(av:List zD)(aP cL af:Int)(ah:List zJ)(aj:EQ)(ag:AC)(ba:EQ)(bp:AC)(bq:EQ)(dX:List zD)(dY:AC)(dZ:Int)(bX:Bool)(aw bF:Int)(aW:Bool)(r2:List qJ):Option yCj:=
 cond (decide (cL<aP)) (cond (zB cL av.length) ((qx k (av.getD cL.toNat (0,0,0,0,0,0,0)).2.1 22 [(av.getD cL.toNat (0,0,0,0,0,0,0)).1]).bind fun x0=>cond (zM (r2.length+1) 64) (rec av aP (zA (cL+1)) af ah aj ag ba bp bq dX dY dZ bX aw bF aW (r2++[x0])) none) none)<|some (af,ah,aj,ag,ba,bp,bq,dX,dY,dZ,bX,aw,bF,aW,r2)
def GV (k:Nat):Nat→qYs
 |0,_,_,_,_,_,_,_,_,_,_,_,_,_,_,_,_,_,_=>none
 |n+1,av,aP,cL,af,ah,aj,ag,ba,bp,bq,dX,dY,dZ,bX,aw,bF,aW,r2=>GW k (GV k n) av aP cL af ah aj ag ba bp bq dX dY dZ bX aw bF aW r2
abbrev yD5:Type:=List zJ→Int→Int→Int→List zJ→EQ→AC→EQ→AC→EQ→List zD→AC→Int→Bool→Int→Int→Bool→List qJ→Option yCj
def GY (k:Nat)(rec:yD5)(lP:List zJ)(fM mE af:Int)(ah:List zJ)(aj:EQ)(ag:AC)(ba:EQ)(bp:AC)(bq:EQ)(dX:List zD)(dY:AC)(dZ:Int)(bX:Bool)(aw bF:Int)(aW:Bool)(r2:List qJ):Option yCj:=
 cond (decide (mE<fM)) (cond (zB mE lP.length) ((qx k mE 23 [(lP.getD mE.toNat (0,0,0)).1]).bind fun x1=>cond (zM (r2.length+1) 64) (rec lP fM (zA (mE+1)) af ah aj ag ba bp bq dX dY dZ bX aw bF aW (r2++[x1])) none) none)<|some (af,ah,aj,ag,ba,bp,bq,dX,dY,dZ,bX,aw,bF,aW,r2)
def L9 (k:Nat):Nat→yD5
 |0,_,_,_,_,_,_,_,_,_,_,_,_,_,_,_,_,_,_=>none
 |n+1,lP,fM,mE,af,ah,aj,ag,ba,bp,bq,dX,dY,dZ,bX,aw,bF,aW,r2=>GY k (L9 k n) lP fM mE af ah aj ag ba bp bq dX dY dZ bX aw bF aW r2
def QS (k:Nat)(mC:Int)(rq:List zJ)(rr:EQ)(ru:AC)(rz:EQ)(rA:AC)(rC:EQ)(mD:List zD)(rD:AC)(rE:Int)(rF:Bool):Option Tp:=
 (GV k k mD (mD.length:Int) 0 mC rq rr ru rz rA rC mD rD rE rF 0 0 false []).bind fun z=>(L9 k k z.2.1 (z.2.1.length:Int) 0 z.1 z.2.1 z.2.2.1 z.2.2.2.1 z.2.2.2.2.1 z.2.2.2.2.2.1 z.2.2.2.2.2.2.1 z.2.2.2.2.2.2.2.1 z.2.2.2.2.2.2.2.2.1 z.2.2.2.2.2.2.2.2.2.1 z.2.2.2.2.2.2.2.2.2.2.1 z.2.2.2.2.2.2.2.2.2.2.2.1 z.2.2.2.2.2.2.2.2.2.2.2.2.1 z.2.2.2.2.2.2.2.2.2.2.2.2.2.1 z.2.2.2.2.2.2.2.2.2.2.2.2.2.2).bind fun z1=>some (kk z1 ([],z1.2.2.2.2.2.2.2.2.1,z1.2.2.2.2.2.2.2.2.2.1,true,z1.2.2.2.2.2.2.2.2.2.2.2.2.2.2))
def ZU (k:Nat)(cf bj bB cw bN ca bR a1:Int):Option Bool:=
 some (decide (a1>bR))
def G1 (k:Nat)(di:Int)(dV:List vX)(dW dj cg a1:Int):Option Bool:=
 cond (decide (a1>0)) (cond (decide (a1<dj)) (cond (!(decide (cg=0))) (some (decide ((Int.tmod a1 cg)=0))) none)<|some false)<|some false
def YW (k:Nat)(cf bj bB cw bN ca bR a1:Int):Option Bool:=
 cond (decide (a1≥ca)) (some (decide (a1≤bR)))<|some false
def YV (k:Nat)(cf bj bB cw bN ca bR a1:Int):Option Bool:=
 (YW k cf bj bB cw bN ca bR a1).bind fun x0=>some x0
def FT (k:Nat)(rec:qS4)(s8:List zD)(s9 av af:Int)(r1:List zD):Option qZc:=
 cond (decide (av<s9)) (cond (zB av s8.length) ((YV k (s8.getD av.toNat (0,0,0,0,0,0,0)).1 (s8.getD av.toNat (0,0,0,0,0,0,0)).2.1 (s8.getD av.toNat (0,0,0,0,0,0,0)).2.2.1 (s8.getD av.toNat (0,0,0,0,0,0,0)).2.2.2.1 (s8.getD av.toNat (0,0,0,0,0,0,0)).2.2.2.2.1 (s8.getD av.toNat (0,0,0,0,0,0,0)).2.2.2.2.2.1 (s8.getD av.toNat (0,0,0,0,0,0,0)).2.2.2.2.2.2 af).bind fun x0=>cond x0 (cond (zM (r1.length+1) 56) (let y0:List zD:=(r1++[(s8.getD av.toNat (0,0,0,0,0,0,0))])
     rec s8 s9 (zA (av+1)) af y0) none)<|rec s8 s9 (zA (av+1)) af r1) none)<|some r1
def Lq (k:Nat):Nat→qS4
 |0,_,_,_,_,_=>none
 |n+1,s8,s9,av,af,r1=>FT k (Lq k n) s8 s9 av af r1
def YU (k:Nat)(a0:List zD)(cX:Int):Option (List zD):=
 (Lq k k a0 (a0.length:Int) 0 cX []).bind fun z=>some z
def FR (k:Nat)(a0:List zD)(a1:Int):Option (List zD):=
 (YU k a0 a1).bind fun x0=>some x0
def Y1 (k:Nat)(cf bj bB cw bN ca bR ij ct dC eE dD jb jc:Int):Option Bool:=
 cond (decide (bj=ct)) (some (!(decide (bN=3))))<|some false
abbrev yEj:Type:=List zD→Int→Int→Int→Int→Int→Int→Int→Int→Int→Option (Unit⊕Int)
def F0 (k:Nat)(rec:yEj)(s0:List zD)(s7 s8 af ah aj ag ba bp bq:Int):Option (Unit⊕Int):=
 cond (decide (s8<s7)) (cond (zB s8 s0.length) ((Y1 k (s0.getD s8.toNat (0,0,0,0,0,0,0)).1 (s0.getD s8.toNat (0,0,0,0,0,0,0)).2.1 (s0.getD s8.toNat (0,0,0,0,0,0,0)).2.2.1 (s0.getD s8.toNat (0,0,0,0,0,0,0)).2.2.2.1 (s0.getD s8.toNat (0,0,0,0,0,0,0)).2.2.2.2.1 (s0.getD s8.toNat (0,0,0,0,0,0,0)).2.2.2.2.2.1 (s0.getD s8.toNat (0,0,0,0,0,0,0)).2.2.2.2.2.2 af ah aj ag ba bp bq).bind fun x0=>cond x0 (some (.inr s8))<|rec s0 s7 (zA (s8+1)) af ah aj ag ba bp bq) none)<|some (.inl ())
def Lv (k:Nat):Nat→yEj
 |0,_,_,_,_,_,_,_,_,_,_=>none
 |n+1,s0,s7,s8,af,ah,aj,ag,ba,bp,bq=>F0 k (Lv k n) s0 s7 s8 af ah aj ag ba bp bq
def Y2 (k:Nat)(a0:List zD)(mF gi mG dE eF eG gj:Int):Option Int:=
 (Lv k k a0 (a0.length:Int) 0 mF gi mG dE eF eG gj).bind fun z=>match z with
 |.inl z1=>some (-1)
 |.inr z2=>some z2
def Qm (k:Nat)(a0:List zD)(mF gi mG dE eF eG gj:Int):Option Bool:=
 (Y2 k a0 mF gi mG dE eF eG gj).bind fun x0=>some (decide (x0≥0))
def Y5 (k:Nat)(cf bj bB cw bN ca bR:Int)(a1:List fa)(a2:List zD):Option (Bool×(List fa)):=
 cond (!(Option.getD (List.lookup bj a1) false)) (some (true,((bj,true)::a1)))<|cond (decide (bN=3)) ((Qm k a2 cf bj bB cw bN ca bR).bind fun x0=>some ((!x0),((bj,true)::a1)))<|some (false,((bj,true)::a1))
abbrev qWo:Type:=(List fa)×(List zD)×(List zD)
abbrev yAx:Type:=List zD→Int→Int→List fa→List zD→List zD→Option qWo
def F2 (k:Nat)(rec:yAx)(s8:List zD)(s9 av:Int)(p1:List fa)(bc r3:List zD):Option qWo:=
 cond (decide (av<s9)) (cond (zB av s8.length) ((Y5 k (s8.getD av.toNat (0,0,0,0,0,0,0)).1 (s8.getD av.toNat (0,0,0,0,0,0,0)).2.1 (s8.getD av.toNat (0,0,0,0,0,0,0)).2.2.1 (s8.getD av.toNat (0,0,0,0,0,0,0)).2.2.2.1 (s8.getD av.toNat (0,0,0,0,0,0,0)).2.2.2.2.1 (s8.getD av.toNat (0,0,0,0,0,0,0)).2.2.2.2.2.1 (s8.getD av.toNat (0,0,0,0,0,0,0)).2.2.2.2.2.2 p1 bc).bind fun x0=>cond x0.1 (cond (zM (r3.length+1) 56) (let y0:List zD:=(r3++[(s8.getD av.toNat (0,0,0,0,0,0,0))])
     rec s8 s9 (zA (av+1)) x0.2 bc y0) none)<|rec s8 s9 (zA (av+1)) x0.2 bc r3) none)<|some (p1,bc,r3)
def F1 (k:Nat):Nat→yAx
 |0,_,_,_,_,_,_=>none
 |n+1,s8,s9,av,p1,bc,r3=>F2 k (F1 k n) s8 s9 av p1 bc r3
def Y4 (k:Nat)(a0:List zD)(cX:List fa)(agG:List zD):Option ((List zD)×(List fa)):=
 (F1 k k a0 (a0.length:Int) 0 cX agG []).bind fun z=>some (z.2.2,z.1)
def Lw (k:Nat)(a0:List zD)(a1:Int):Option (List zD):=
 (FR k a0 a1).bind fun x0=>(Y4 k x0 [] x0).bind fun x1=>some x1.1
def Fl (k:Nat)(au:List zJ)(aB:EQ)(aA:AC)(ax:EQ)(ij ct dC eE dD jb jc:Int):Option Bool:=
 cond (decide (ct≥0)) (cond (decide (ct<au.length)) (cond (decide (dC≥0)) (cond (decide (dC<au.length)) (cond (!(decide (ct=dC))) (cond (decide (eE≥1)) (cond (decide (eE≤1099511627776)) (cond (decide (dD≥1)) (some (decide (dD≤3)))<|some false)<|some false)<|some false)<|some false)<|some false)<|some false)<|some false)<|some false
def YR (k:Nat)(cf bj bB cw bN ca bR:Int)(cW:List zJ)(jh:EQ)(jk:AC)(jl:EQ):Option Bool:=
 (Fl k cW jh jk jl cf bj bB cw bN ca bR).bind fun x0=>some (!x0)
abbrev yC9:Type:=List zD→Int→Int→List zJ→EQ→AC→EQ→Option (Unit⊕Int)
def FQ (k:Nat)(rec:yC9)(s0:List zD)(s7 s8:Int)(af:List zJ)(ah:EQ)(aj:AC)(ag:EQ):Option (Unit⊕Int):=
 cond (decide (s8<s7)) (cond (zB s8 s0.length) ((YR k (s0.getD s8.toNat (0,0,0,0,0,0,0)).1 (s0.getD s8.toNat (0,0,0,0,0,0,0)).2.1 (s0.getD s8.toNat (0,0,0,0,0,0,0)).2.2.1 (s0.getD s8.toNat (0,0,0,0,0,0,0)).2.2.2.1 (s0.getD s8.toNat (0,0,0,0,0,0,0)).2.2.2.2.1 (s0.getD s8.toNat (0,0,0,0,0,0,0)).2.2.2.2.2.1 (s0.getD s8.toNat (0,0,0,0,0,0,0)).2.2.2.2.2.2 af ah aj ag).bind fun x0=>cond x0 (some (.inr s8))<|rec s0 s7 (zA (s8+1)) af ah aj ag) none)<|some (.inl ())
def Ln (k:Nat):Nat→yC9
 |0,_,_,_,_,_,_,_=>none
 |n+1,s0,s7,s8,af,ah,aj,ag=>FQ k (Ln k n) s0 s7 s8 af ah aj ag
def YS (k:Nat)(a0:List zD)(bI:List zJ)(cy:EQ)(cz:AC)(cB:EQ):Option Int:=
 (Ln k k a0 (a0.length:Int) 0 bI cy cz cB).bind fun z=>match z with
 |.inl z1=>some (-1)
 |.inr z2=>some z2
def Qi (k:Nat)(a0:List zD)(bI:List zJ)(cy:EQ)(cz:AC)(cB:EQ):Option Bool:=
 (YS k a0 bI cy cz cB).bind fun x0=>some (decide (x0≥0))
abbrev qQ7:Type:=AC×AC×EQ
abbrev qLi:Type:=List zD→Int→Int→AC→AC→EQ→Option qQ7
def FI (k:Nat)(rec:qLi)(aQ:List zD)(bG bb:Int)(r2 r3:AC)(m4:EQ):Option qQ7:=
 cond (decide (bb<bG)) (cond (zB bb aQ.length) (cond (zB (aQ.getD bb.toNat (0,0,0,0,0,0,0)).2.1 r2.length) (cond (zB (aQ.getD bb.toNat (0,0,0,0,0,0,0)).2.1 r2.length) (let y0:AC:=(r2.set (aQ.getD bb.toNat (0,0,0,0,0,0,0)).2.1.toNat (zA ((r2.getD (aQ.getD bb.toNat (0,0,0,0,0,0,0)).2.1.toNat 0)-(aQ.getD bb.toNat (0,0,0,0,0,0,0)).2.2.2.1)))
     cond (zB (aQ.getD bb.toNat (0,0,0,0,0,0,0)).2.2.1 y0.length) (cond (zB (aQ.getD bb.toNat (0,0,0,0,0,0,0)).2.2.1 y0.length) (let y1:AC:=(y0.set (aQ.getD bb.toNat (0,0,0,0,0,0,0)).2.2.1.toNat (zA ((y0.getD (aQ.getD bb.toNat (0,0,0,0,0,0,0)).2.2.1.toNat 0)+(aQ.getD bb.toNat (0,0,0,0,0,0,0)).2.2.2.1)))
       cond (zB (aQ.getD bb.toNat (0,0,0,0,0,0,0)).2.1 m4.length) (cond (zB (aQ.getD bb.toNat (0,0,0,0,0,0,0)).2.2.1 (m4.getD (aQ.getD bb.toNat (0,0,0,0,0,0,0)).2.1.toNat []).length) (cond (zB (aQ.getD bb.toNat (0,0,0,0,0,0,0)).2.2.1 (m4.getD (aQ.getD bb.toNat (0,0,0,0,0,0,0)).2.1.toNat []).length) (let y2:EQ:=(m4.set (aQ.getD bb.toNat (0,0,0,0,0,0,0)).2.1.toNat ((m4.getD (aQ.getD bb.toNat (0,0,0,0,0,0,0)).2.1.toNat []).set (aQ.getD bb.toNat (0,0,0,0,0,0,0)).2.2.1.toNat (zA (((m4.getD (aQ.getD bb.toNat (0,0,0,0,0,0,0)).2.1.toNat []).getD (aQ.getD bb.toNat (0,0,0,0,0,0,0)).2.2.1.toNat 0)+(aQ.getD bb.toNat (0,0,0,0,0,0,0)).2.2.2.1))))
          cond (zB (aQ.getD bb.toNat (0,0,0,0,0,0,0)).2.2.1 y2.length) (cond (zB (aQ.getD bb.toNat (0,0,0,0,0,0,0)).2.1 (y2.getD (aQ.getD bb.toNat (0,0,0,0,0,0,0)).2.2.1.toNat []).length) (cond (zB (aQ.getD bb.toNat (0,0,0,0,0,0,0)).2.1 (y2.getD (aQ.getD bb.toNat (0,0,0,0,0,0,0)).2.2.1.toNat []).length) (let y3:EQ:=(y2.set (aQ.getD bb.toNat (0,0,0,0,0,0,0)).2.2.1.toNat ((y2.getD (aQ.getD bb.toNat (0,0,0,0,0,0,0)).2.2.1.toNat []).set (aQ.getD bb.toNat (0,0,0,0,0,0,0)).2.1.toNat (zA (((y2.getD (aQ.getD bb.toNat (0,0,0,0,0,0,0)).2.2.1.toNat []).getD (aQ.getD bb.toNat (0,0,0,0,0,0,0)).2.1.toNat 0)-(aQ.getD bb.toNat (0,0,0,0,0,0,0)).2.2.2.1))))
             cond (!(decide ((aQ.getD bb.toNat (0,0,0,0,0,0,0)).2.2.2.2.1=3))) (cond (zB (aQ.getD bb.toNat (0,0,0,0,0,0,0)).2.1 r3.length) (cond (zB (aQ.getD bb.toNat (0,0,0,0,0,0,0)).2.1 r3.length) (let y4:AC:=(r3.set (aQ.getD bb.toNat (0,0,0,0,0,0,0)).2.1.toNat (zA ((r3.getD (aQ.getD bb.toNat (0,0,0,0,0,0,0)).2.1.toNat 0)+(aQ.getD bb.toNat (0,0,0,0,0,0,0)).2.2.2.1)))
                rec aQ bG (zA (bb+1)) y1 y4 y3) none) none)<|rec aQ bG (zA (bb+1)) y1 r3 y3) none) none) none) none) none) none) none) none) none) none) none)<|some (r2,r3,m4)
def Lj (k:Nat):Nat→qLi
 |0,_,_,_,_,_,_=>none
 |n+1,aQ,bG,bb,r2,r3,m4=>FI k (Lj k n) aQ bG bb r2 r3 m4
def Qd (k:Nat)(a0:Int)(a1:List zD):Option (AC×AC×EQ):=
 (BW k a0 0).bind fun x0=>(BW k a0 0).bind fun x1=>(FG k a0 0).bind fun x2=>(Lj k k a1 (a1.length:Int) 0 x0 x1 x2).bind fun z=>some (z.1,z.2.1,z.2.2)
def YI (k:Nat)(cf bj bB cw bN ca bR a1:Int):Option Bool:=
 some (decide (bj=a1))
def FJ (k:Nat)(rec:yCk)(s0:List zD)(s7 s8 af:Int):Option (Unit⊕Int):=
 cond (decide (s8<s7)) (cond (zB s8 s0.length) ((YI k (s0.getD s8.toNat (0,0,0,0,0,0,0)).1 (s0.getD s8.toNat (0,0,0,0,0,0,0)).2.1 (s0.getD s8.toNat (0,0,0,0,0,0,0)).2.2.1 (s0.getD s8.toNat (0,0,0,0,0,0,0)).2.2.2.1 (s0.getD s8.toNat (0,0,0,0,0,0,0)).2.2.2.2.1 (s0.getD s8.toNat (0,0,0,0,0,0,0)).2.2.2.2.2.1 (s0.getD s8.toNat (0,0,0,0,0,0,0)).2.2.2.2.2.2 af).bind fun x0=>cond x0 (some (.inr s8))<|rec s0 s7 (zA (s8+1)) af) none)<|some (.inl ())
def Lk (k:Nat):Nat→yCk
 |0,_,_,_,_=>none
 |n+1,s0,s7,s8,af=>FJ k (Lk k n) s0 s7 s8 af
def YJ (k:Nat)(a0:List zD)(cX:Int):Option Int:=
 (Lk k k a0 (a0.length:Int) 0 cX).bind fun z=>match z with
 |.inl z1=>some (-1)
 |.inr z2=>some z2
def Qe (k:Nat)(a0:List zD)(cX:Int):Option Bool:=
 (YJ k a0 cX).bind fun x0=>some (decide (x0≥0))
def FE (k:Nat)(rec:Int→AC→Int→Int→Option Int)(s5:Int)(cL:AC)(bm bh:Int):Option Int:=
 cond (decide (bh<bm)) (cond (zB bh cL.length) (rec (zA (s5+(cL.getD bh.toNat 0))) cL bm (zA (bh+1))) none)<|some s5
def FD (k:Nat):Nat→Int→AC→Int→Int→Option Int
 |0,_,_,_,_=>none
 |n+1,s5,cL,bm,bh=>FE k (FD k n) s5 cL bm bh
def Qa (k:Nat)(au:List zJ)(aB:EQ)(aA:AC)(ax:EQ)(a1:Int):Option Int:=
 cond (zB a1 ax.length) ((FD k k 0 (ax.getD a1.toNat []) ((ax.getD a1.toNat []).length:Int) 0).bind fun z=>some z) none
def FL (k:Nat)(a0 a1:Int):Option Bool:=
 cond (!(decide (a1=(-1)))) (some (decide (a0>a1)))<|some false
def YK (k:Nat)(cf bj bB cw bN ca bR a1 oH rI oI:Int)(agH nC:AC)(eH:EQ)(a4:Int)(TA:List zJ)(iL:EQ)(agU:AC)(iM:EQ):Option Bool:=
 cond (!(decide (bj=a1))) (some false)<|cond (zB a1 nC.length) ((xN k oH rI oI (nC.getD a1.toNat 0)).bind fun x0=>cond (decide (bN=3)) (cond (decide (a4<x0)) (some true)<|cond (zB a1 iM.length) (cond (zB bB (iM.getD a1.toNat []).length) (cond (zB a1 eH.length) (cond (zB bB (eH.getD a1.toNat []).length) (cond (zB a1 iL.length) (cond (zB bB (iL.getD a1.toNat []).length) ((FL k (zA (((iM.getD a1.toNat []).getD bB.toNat 0)+((eH.getD a1.toNat []).getD bB.toNat 0))) ((iL.getD a1.toNat []).getD bB.toNat 0)).bind fun x1=>some x1) none) none) none) none) none) none)<|cond (zB a1 iM.length) (cond (zB bB (iM.getD a1.toNat []).length) (cond (zB a1 eH.length) (cond (zB bB (eH.getD a1.toNat []).length) (cond (zB a1 iL.length) (cond (zB bB (iL.getD a1.toNat []).length) ((FL k (zA (((iM.getD a1.toNat []).getD bB.toNat 0)+((eH.getD a1.toNat []).getD bB.toNat 0))) ((iL.getD a1.toNat []).getD bB.toNat 0)).bind fun x2=>some x2) none) none) none) none) none) none) none
abbrev yBt:Type:=List zD→Int→Int→Int→Int→Int→Int→AC→AC→EQ→Int→List zJ→EQ→AC→EQ→Option (Unit⊕Int)
def FM (k:Nat)(rec:yBt)(s0:List zD)(s7 s8 af aw aD aE:Int)(bc bV:AC)(bW:EQ)(cj:Int)(jn:List zJ)(we:EQ)(wg:AC)(wh:EQ):Option (Unit⊕Int):=
 cond (decide (s8<s7)) (cond (zB s8 s0.length) ((YK k (s0.getD s8.toNat (0,0,0,0,0,0,0)).1 (s0.getD s8.toNat (0,0,0,0,0,0,0)).2.1 (s0.getD s8.toNat (0,0,0,0,0,0,0)).2.2.1 (s0.getD s8.toNat (0,0,0,0,0,0,0)).2.2.2.1 (s0.getD s8.toNat (0,0,0,0,0,0,0)).2.2.2.2.1 (s0.getD s8.toNat (0,0,0,0,0,0,0)).2.2.2.2.2.1 (s0.getD s8.toNat (0,0,0,0,0,0,0)).2.2.2.2.2.2 af aw aD aE bc bV bW cj jn we wg wh).bind fun x0=>cond x0 (some (.inr s8))<|rec s0 s7 (zA (s8+1)) af aw aD aE bc bV bW cj jn we wg wh) none)<|some (.inl ())
def Lm (k:Nat):Nat→yBt
 |0,_,_,_,_,_,_,_,_,_,_,_,_,_,_,_=>none
 |n+1,s0,s7,s8,af,aw,aD,aE,bc,bV,bW,cj,jn,we,wg,wh=>FM k (Lm k n) s0 s7 s8 af aw aD aE bc bV bW cj jn we wg wh
def YL (k:Nat)(a0:List zD)(cX cY dF cZ:Int)(gk eI:AC)(gl:EQ)(Du:Int)(eJ:List zJ)(jo:EQ)(jq:AC)(jt:EQ):Option Int:=
 (Lm k k a0 (a0.length:Int) 0 cX cY dF cZ gk eI gl Du eJ jo jq jt).bind fun z=>match z with
 |.inl z1=>some (-1)
 |.inr z2=>some z2
def Qf (k:Nat)(a0:List zD)(cX cY dF cZ:Int)(gk eI:AC)(gl:EQ)(Du:Int)(eJ:List zJ)(jo:EQ)(jq:AC)(jt:EQ):Option Bool:=
 (YL k a0 cX cY dF cZ gk eI gl Du eJ jo jq jt).bind fun x0=>some (decide (x0≥0))
abbrev qUd:Type:=(List zD)×Int×AC×AC×EQ×(List zJ)×EQ×AC×EQ×Int×Int×Int×Int×Int
abbrev qUj:Type:=List zD→Int→AC→Int→Int→AC→AC→EQ→List zJ→EQ→AC→EQ→Int→Int→Int→Int→Int→Option qUd
def FN (k:Nat)(rec:qUj)(s3:List zD)(aP:Int)(lO:AC)(gQ jm:Int)(af ah:AC)(aj:EQ)(aw:List zJ)(aD:EQ)(aE:AC)(aG:EQ)(bc cj de dv jn:Int):Option qUd:=
 cond (decide (jm<gQ)) (cond (zB jm lO.length) (rec s3 (zA (aP+(lO.getD jm.toNat 0))) lO gQ (zA (jm+1)) af ah aj aw aD aE aG bc cj de dv jn) none)<|some (s3,aP,af,ah,aj,aw,aD,aE,aG,bc,cj,de,dv,jn)
def BY (k:Nat):Nat→qUj
 |0,_,_,_,_,_,_,_,_,_,_,_,_,_,_,_,_,_=>none
 |n+1,s3,aP,lO,gQ,jm,af,ah,aj,aw,aD,aE,aG,bc,cj,de,dv,jn=>FN k (BY k n) s3 aP lO gQ jm af ah aj aw aD aE aG bc cj de dv jn
def Qh (k:Nat)(ju wi:AC)(jv:EQ)(cW:List zJ)(jh:EQ)(jk:AC)(jl:EQ)(a2:Int)(a3:List zD):Option Bool:=
 cond (zB a2 cW.length) (cond (zB a2 ju.length) (cond (decide ((zA ((zA ((cW.getD a2.toNat (0,0,0)).1+(cW.getD a2.toNat (0,0,0)).2.1))+(ju.getD a2.toNat 0)))<0)) (some true)<|(Qa k cW jh jk jl a2).bind fun x0=>cond (zB a2 jv.length) ((BY k k a3 x0 (jv.getD a2.toNat []) ((jv.getD a2.toNat []).length:Int) 0 ju wi jv cW jh jk jl a2 (cW.getD a2.toNat (0,0,0)).1 (cW.getD a2.toNat (0,0,0)).2.1 (cW.getD a2.toNat (0,0,0)).2.2 (zA ((zA ((cW.getD a2.toNat (0,0,0)).1+(cW.getD a2.toNat (0,0,0)).2.1))+(ju.getD a2.toNat 0)))).bind fun z=>cond (zB z.2.2.2.2.2.2.2.2.2.1 z.2.2.2.2.2.2.2.1.length) ((FL k z.2.1 (z.2.2.2.2.2.2.2.1.getD z.2.2.2.2.2.2.2.2.2.1.toNat 0)).bind fun x1=>cond x1 (some true)<|(Qf k z.1 z.2.2.2.2.2.2.2.2.2.1 z.2.2.2.2.2.2.2.2.2.2.1 z.2.2.2.2.2.2.2.2.2.2.2.1 z.2.2.2.2.2.2.2.2.2.2.2.2.1 z.2.2.1 z.2.2.2.1 z.2.2.2.2.1 z.2.2.2.2.2.2.2.2.2.2.2.2.2 z.2.2.2.2.2.1 z.2.2.2.2.2.2.1 z.2.2.2.2.2.2.2.1 z.2.2.2.2.2.2.2.2.1).bind fun x2=>some x2) none) none) none) none
abbrev yDn:Type:=List zD→Int→Int→List zJ→EQ→AC→EQ→AC→AC→EQ→AC→Option AC
def FP (k:Nat)(rec:yDn)(s1:List zD)(bG bb:Int)(af:List zJ)(ah:EQ)(aj:AC)(ag:EQ)(r2 r3:AC)(m4:EQ)(r5:AC):Option AC:=
 cond (decide (bb<bG)) ((Qe k s1 bb).bind fun x1=>cond x1 ((Qh k r2 r3 m4 af ah aj ag bb s1).bind fun x2=>cond x2 (cond (zM (r5.length+1) 8) (rec s1 bG (zA (bb+1)) af ah aj ag r2 r3 m4 (r5++[bb])) none)<|rec s1 bG (zA (bb+1)) af ah aj ag r2 r3 m4 r5)<|rec s1 bG (zA (bb+1)) af ah aj ag r2 r3 m4 r5)<|some r5
def FO (k:Nat):Nat→yDn
 |0,_,_,_,_,_,_,_,_,_,_,_=>none
 |n+1,s1,bG,bb,af,ah,aj,ag,r2,r3,m4,r5=>FP k (FO k n) s1 bG bb af ah aj ag r2 r3 m4 r5
def BZ (k:Nat)(au:List zJ)(aB:EQ)(aA:AC)(ax:EQ)(a1:List zD):Option AC:=
 (Qd k (au.length:Int) a1).bind fun x0=>(FO k k a1 (au.length:Int) 0 au aB aA ax x0.1 x0.2.1 x0.2.2 []).bind fun z=>some z
def B1 (k:Nat)(au:List zJ)(aB:EQ)(aA:AC)(ax:EQ)(a1:List zD):Option Bool:=
 cond (decide ((a1.length : Int)≤64)) ((Qi k a1 au aB aA ax).bind fun x0=>cond (!x0) ((BZ k au aB aA ax a1).bind fun x1=>some (decide ((x1.length:Int)=0)))<|some false)<|some false
def Yr (k:Nat)(cf bj bB cw bN ca bR:Int)(cW:List zJ)(jh:EQ)(jk:AC)(jl:EQ):Option Bool:=
 (Fl k cW jh jk jl cf bj bB cw bN ca bR).bind fun x0=>some (!x0)
def Fm (k:Nat)(rec:yC9)(s0:List zD)(s7 s8:Int)(af:List zJ)(ah:EQ)(aj:AC)(ag:EQ):Option (Unit⊕Int):=
 cond (decide (s8<s7)) (cond (zB s8 s0.length) ((Yr k (s0.getD s8.toNat (0,0,0,0,0,0,0)).1 (s0.getD s8.toNat (0,0,0,0,0,0,0)).2.1 (s0.getD s8.toNat (0,0,0,0,0,0,0)).2.2.1 (s0.getD s8.toNat (0,0,0,0,0,0,0)).2.2.2.1 (s0.getD s8.toNat (0,0,0,0,0,0,0)).2.2.2.2.1 (s0.getD s8.toNat (0,0,0,0,0,0,0)).2.2.2.2.2.1 (s0.getD s8.toNat (0,0,0,0,0,0,0)).2.2.2.2.2.2 af ah aj ag).bind fun x0=>cond x0 (some (.inr s8))<|rec s0 s7 (zA (s8+1)) af ah aj ag) none)<|some (.inl ())
def K4 (k:Nat):Nat→yC9
 |0,_,_,_,_,_,_,_=>none
 |n+1,s0,s7,s8,af,ah,aj,ag=>Fm k (K4 k n) s0 s7 s8 af ah aj ag
def Ys (k:Nat)(a0:List zD)(bI:List zJ)(cy:EQ)(cz:AC)(cB:EQ):Option Int:=
 (K4 k k a0 (a0.length:Int) 0 bI cy cz cB).bind fun z=>match z with
 |.inl z1=>some (-1)
 |.inr z2=>some z2
def PW (k:Nat)(a0:List zD)(bI:List zJ)(cy:EQ)(cz:AC)(cB:EQ):Option Bool:=
 (Ys k a0 bI cy cz cB).bind fun x0=>some (decide (x0≥0))
def X9 (k:Nat)(je jg fu:Int):Option Bool:=
 (PI k je jg fu).bind fun x0=>some (!x0)
abbrev yDg:Type:=List zJ→Int→Int→Option (Unit⊕Int)
def E4 (k:Nat)(rec:yDg)(s0:List zJ)(s7 s8:Int):Option (Unit⊕Int):=
 cond (decide (s8<s7)) (cond (zB s8 s0.length) ((X9 k (s0.getD s8.toNat (0,0,0)).1 (s0.getD s8.toNat (0,0,0)).2.1 (s0.getD s8.toNat (0,0,0)).2.2).bind fun x0=>cond x0 (some (.inr s8))<|rec s0 s7 (zA (s8+1))) none)<|some (.inl ())
def KM (k:Nat):Nat→yDg
 |0,_,_,_=>none
 |n+1,s0,s7,s8=>E4 k (KM k n) s0 s7 s8
def Ya (k:Nat)(a0:List zJ):Option Int:=
 (KM k k a0 (a0.length:Int) 0).bind fun z=>match z with
 |.inl z1=>some (-1)
 |.inr z2=>some z2
def PK (k:Nat)(a0:List zJ):Option Bool:=
 (Ya k a0).bind fun x0=>some (decide (x0≥0))
def X5 (k:Nat)(a0:Int):Option Bool:=
 cond (decide (a0≥(-1))) (some (decide (a0≤2305843009213693952)))<|some false
def Yc (k:Nat)(a0:Int):Option Bool:=
 (X5 k a0).bind fun x0=>some (!x0)
abbrev yDm:Type:=AC→Int→Int→Option (Unit⊕Int)
def E5 (k:Nat)(rec:yDm)(s0:AC)(s7 s8:Int):Option (Unit⊕Int):=
 cond (decide (s8<s7)) (cond (zB s8 s0.length) ((Yc k (s0.getD s8.toNat 0)).bind fun x0=>cond x0 (some (.inr s8))<|rec s0 s7 (zA (s8+1))) none)<|some (.inl ())
def KN (k:Nat):Nat→yDm
 |0,_,_,_=>none
 |n+1,s0,s7,s8=>E5 k (KN k n) s0 s7 s8
def Yd (k:Nat)(a0:AC):Option Int:=
 (KN k k a0 (a0.length:Int) 0).bind fun z=>match z with
 |.inl z1=>some (-1)
 |.inr z2=>some z2
def PM (k:Nat)(a0:AC):Option Bool:=
 (Yd k a0).bind fun x0=>some (decide (x0≥0))
def KP (k:Nat)(a0:AC)(a1:Int):Option Bool:=
 cond (decide ((a0.length : Int)=a1)) ((PM k a0).bind fun x0=>some (!x0))<|some false
abbrev qOi:Type:=Int→EQ→Int→Int→Option (Unit⊕Bool)
def E7 (k:Nat)(rec:qOi)(s1:Int)(bm:EQ)(bh aQ:Int):Option (Unit⊕Bool):=
 cond (decide (aQ<bh)) (cond (zB aQ bm.length) ((KP k (bm.getD aQ.toNat []) s1).bind fun x0=>cond (!x0) (some (.inr false))<|rec s1 bm bh (zA (aQ+1))) none)<|some (.inl ())
def KQ (k:Nat):Nat→qOi
 |0,_,_,_,_=>none
 |n+1,s1,bm,bh,aQ=>E7 k (KQ k n) s1 bm bh aQ
def PQ (k:Nat)(a0:EQ)(a1:Int):Option Bool:=
 cond (!(decide ((a0.length:Int)=a1))) (some false)<|(KQ k k a1 a0 (a0.length:Int) 0).bind fun z=>match z with
 |.inl z1=>some true
 |.inr z2=>some z2
def PJ (k:Nat)(a0:Int):Option Bool:=
 cond (decide (a0>(-72057594037927936))) (some (decide (a0<72057594037927936)))<|some false
def Yf (k:Nat)(a0:Int):Option Bool:=
 (PJ k a0).bind fun x0=>some (!x0)
def E6 (k:Nat)(rec:yDm)(s0:AC)(s7 s8:Int):Option (Unit⊕Int):=
 cond (decide (s8<s7)) (cond (zB s8 s0.length) ((Yf k (s0.getD s8.toNat 0)).bind fun x0=>cond x0 (some (.inr s8))<|rec s0 s7 (zA (s8+1))) none)<|some (.inl ())
def KO (k:Nat):Nat→yDm
 |0,_,_,_=>none
 |n+1,s0,s7,s8=>E6 k (KO k n) s0 s7 s8
def Yg (k:Nat)(a0:AC):Option Int:=
 (KO k k a0 (a0.length:Int) 0).bind fun z=>match z with
 |.inl z1=>some (-1)
 |.inr z2=>some z2
def PN (k:Nat)(a0:AC):Option Bool:=
 (Yg k a0).bind fun x0=>some (decide (x0≥0))
def PO (k:Nat)(a0:AC)(a1:Int):Option Bool:=
 cond (decide ((a0.length : Int)=a1)) ((PN k a0).bind fun x0=>some (!x0))<|some false
def E8 (k:Nat)(rec:qOi)(s1:Int)(bm:EQ)(bh aQ:Int):Option (Unit⊕Bool):=
 cond (decide (aQ<bh)) (cond (zB aQ bm.length) ((PO k (bm.getD aQ.toNat []) s1).bind fun x0=>cond (!x0) (some (.inr false))<|rec s1 bm bh (zA (aQ+1))) none)<|some (.inl ())
def KR (k:Nat):Nat→qOi
 |0,_,_,_,_=>none
 |n+1,s1,bm,bh,aQ=>E8 k (KR k n) s1 bm bh aQ
def PR (k:Nat)(a0:EQ)(a1:Int):Option Bool:=
 cond (!(decide ((a0.length:Int)=a1))) (some false)<|(KR k k a1 a0 (a0.length:Int) 0).bind fun z=>match z with
 |.inl z1=>some true
 |.inr z2=>some z2
abbrev qQ0:Type:=(EQ×EQ×Int×Int)⊕Bool
abbrev yEt:Type:=EQ→Int→EQ→Int→Int→AC→Int→Int→Option qQ0
def Fa (k:Nat)(rec:yEt)(s0:EQ)(s3:Int)(s7:EQ)(s8 s9:Int)(bh:AC)(aQ bG:Int):Option qQ0:=
 cond (decide (bG<aQ)) (cond (zB bG bh.length) (cond (zB bG s0.length) (cond (zB s3 (s0.getD bG.toNat []).length) (cond (!(decide (((s0.getD bG.toNat []).getD s3.toNat 0)=(zA (0-(bh.getD bG.toNat 0)))))) (some (.inr false))<|rec s0 s3 s7 s8 s9 bh aQ (zA (bG+1))) none) none) none)<|some (.inl (s0,s7,s8,s9))
def E9 (k:Nat):Nat→yEt
 |0,_,_,_,_,_,_,_,_=>none
 |n+1,s0,s3,s7,s8,s9,bh,aQ,bG=>Fa k (E9 k n) s0 s3 s7 s8 s9 bh aQ bG
abbrev qU3:Type:=EQ→EQ→Int→Int→Option (Unit⊕Bool)
def Fc (k:Nat)(rec:qU3)(s0 s7:EQ)(s8 s9:Int):Option (Unit⊕Bool):=
 cond (decide (s9<s8)) (cond (zB s9 s7.length) ((E9 k k s0 s9 s7 s8 s9 (s7.getD s9.toNat []) ((s7.getD s9.toNat []).length:Int) 0).bind fun z=>match z with
   |.inl z1=>rec z1.1 z1.2.1 z1.2.2.1 (zA (z1.2.2.2+1))
   |.inr z2=>some (.inr z2)) none)<|some (.inl ())
def KS (k:Nat):Nat→qU3
 |0,_,_,_,_=>none
 |n+1,s0,s7,s8,s9=>Fc k (KS k n) s0 s7 s8 s9
def PS (k:Nat)(a0:EQ):Option Bool:=
 (KS k k a0 a0 (a0.length:Int) 0).bind fun z3=>match z3 with
 |.inl z4=>some true
 |.inr z5=>some z5
def Fe (k:Nat)(au:List zJ)(aB:EQ)(aA:AC)(ax:EQ):Option Bool:=
 cond (decide ((au.length:Int)<1)) (some false)<|cond (decide ((au.length:Int)>6)) (some false)<|(PK k au).bind fun x0=>cond x0 (some false)<|(PQ k aB (au.length:Int)).bind fun x1=>cond x1 ((KP k aA (au.length:Int)).bind fun x2=>cond x2 ((PR k ax (au.length:Int)).bind fun x3=>cond x3 ((PS k ax).bind fun x4=>some x4)<|some false)<|some false)<|some false
abbrev qVj:Type:=(List zJ)×EQ×AC×EQ×(List zJ)×EQ×AC×EQ
abbrev yAe:Type:=List zD→Int→Int→List zJ→EQ→AC→EQ→List zJ→EQ→AC→EQ→Option qVj
def Fs (k:Nat)(rec:yAe)(bz:List zD)(ku aX:Int)(af:List zJ)(ah:EQ)(aj:AC)(ag:EQ)(r3:List zJ)(m4:EQ)(r5:AC)(m6:EQ):Option qVj:=
 cond (decide (aX<ku)) (cond (zB aX bz.length) (cond (zB (bz.getD aX.toNat (0,0,0,0,0,0,0)).2.1 r3.length) (cond (zB (bz.getD aX.toNat (0,0,0,0,0,0,0)).2.2.1 r3.length) (let y0:List zJ:=(r3.set (bz.getD aX.toNat (0,0,0,0,0,0,0)).2.1.toNat ((zA ((r3.getD (bz.getD aX.toNat (0,0,0,0,0,0,0)).2.1.toNat (0,0,0)).1-(bz.getD aX.toNat (0,0,0,0,0,0,0)).2.2.2.1)),(r3.getD (bz.getD aX.toNat (0,0,0,0,0,0,0)).2.1.toNat (0,0,0)).2))
     let y1:List zJ:=(y0.set (bz.getD aX.toNat (0,0,0,0,0,0,0)).2.2.1.toNat ((zA ((y0.getD (bz.getD aX.toNat (0,0,0,0,0,0,0)).2.2.1.toNat (0,0,0)).1+(bz.getD aX.toNat (0,0,0,0,0,0,0)).2.2.2.1)),(y0.getD (bz.getD aX.toNat (0,0,0,0,0,0,0)).2.2.1.toNat (0,0,0)).2))
     cond (!(decide ((bz.getD aX.toNat (0,0,0,0,0,0,0)).2.2.2.2.1=3))) ((xN k (y1.getD (bz.getD aX.toNat (0,0,0,0,0,0,0)).2.1.toNat (0,0,0)).1 (y1.getD (bz.getD aX.toNat (0,0,0,0,0,0,0)).2.1.toNat (0,0,0)).2.1 (y1.getD (bz.getD aX.toNat (0,0,0,0,0,0,0)).2.1.toNat (0,0,0)).2.2 (bz.getD aX.toNat (0,0,0,0,0,0,0)).2.2.2.1).bind fun x2=>let y2:List zJ:=(y1.set (bz.getD aX.toNat (0,0,0,0,0,0,0)).2.1.toNat ((y1.getD (bz.getD aX.toNat (0,0,0,0,0,0,0)).2.1.toNat (0,0,0)).1,(y1.getD (bz.getD aX.toNat (0,0,0,0,0,0,0)).2.1.toNat (0,0,0)).2.1,x2))
      cond (zB (bz.getD aX.toNat (0,0,0,0,0,0,0)).2.1 m6.length) (cond (zB (bz.getD aX.toNat (0,0,0,0,0,0,0)).2.2.1 (m6.getD (bz.getD aX.toNat (0,0,0,0,0,0,0)).2.1.toNat []).length) (cond (zB (bz.getD aX.toNat (0,0,0,0,0,0,0)).2.2.1 (m6.getD (bz.getD aX.toNat (0,0,0,0,0,0,0)).2.1.toNat []).length) (let y3:EQ:=(m6.set (bz.getD aX.toNat (0,0,0,0,0,0,0)).2.1.toNat ((m6.getD (bz.getD aX.toNat (0,0,0,0,0,0,0)).2.1.toNat []).set (bz.getD aX.toNat (0,0,0,0,0,0,0)).2.2.1.toNat (zA (((m6.getD (bz.getD aX.toNat (0,0,0,0,0,0,0)).2.1.toNat []).getD (bz.getD aX.toNat (0,0,0,0,0,0,0)).2.2.1.toNat 0)+(bz.getD aX.toNat (0,0,0,0,0,0,0)).2.2.2.1))))
         cond (zB (bz.getD aX.toNat (0,0,0,0,0,0,0)).2.2.1 y3.length) (cond (zB (bz.getD aX.toNat (0,0,0,0,0,0,0)).2.1 (y3.getD (bz.getD aX.toNat (0,0,0,0,0,0,0)).2.2.1.toNat []).length) (cond (zB (bz.getD aX.toNat (0,0,0,0,0,0,0)).2.1 (y3.getD (bz.getD aX.toNat (0,0,0,0,0,0,0)).2.2.1.toNat []).length) (let y4:EQ:=(y3.set (bz.getD aX.toNat (0,0,0,0,0,0,0)).2.2.1.toNat ((y3.getD (bz.getD aX.toNat (0,0,0,0,0,0,0)).2.2.1.toNat []).set (bz.getD aX.toNat (0,0,0,0,0,0,0)).2.1.toNat (zA (((y3.getD (bz.getD aX.toNat (0,0,0,0,0,0,0)).2.2.1.toNat []).getD (bz.getD aX.toNat (0,0,0,0,0,0,0)).2.1.toNat 0)-(bz.getD aX.toNat (0,0,0,0,0,0,0)).2.2.2.1))))
            rec bz ku (zA (aX+1)) af ah aj ag y2 m4 r5 y4) none) none) none) none) none) none)<|cond (zB (bz.getD aX.toNat (0,0,0,0,0,0,0)).2.1 m6.length) (cond (zB (bz.getD aX.toNat (0,0,0,0,0,0,0)).2.2.1 (m6.getD (bz.getD aX.toNat (0,0,0,0,0,0,0)).2.1.toNat []).length) (cond (zB (bz.getD aX.toNat (0,0,0,0,0,0,0)).2.2.1 (m6.getD (bz.getD aX.toNat (0,0,0,0,0,0,0)).2.1.toNat []).length) (let y5:EQ:=(m6.set (bz.getD aX.toNat (0,0,0,0,0,0,0)).2.1.toNat ((m6.getD (bz.getD aX.toNat (0,0,0,0,0,0,0)).2.1.toNat []).set (bz.getD aX.toNat (0,0,0,0,0,0,0)).2.2.1.toNat (zA (((m6.getD (bz.getD aX.toNat (0,0,0,0,0,0,0)).2.1.toNat []).getD (bz.getD aX.toNat (0,0,0,0,0,0,0)).2.2.1.toNat 0)+(bz.getD aX.toNat (0,0,0,0,0,0,0)).2.2.2.1))))
        cond (zB (bz.getD aX.toNat (0,0,0,0,0,0,0)).2.2.1 y5.length) (cond (zB (bz.getD aX.toNat (0,0,0,0,0,0,0)).2.1 (y5.getD (bz.getD aX.toNat (0,0,0,0,0,0,0)).2.2.1.toNat []).length) (cond (zB (bz.getD aX.toNat (0,0,0,0,0,0,0)).2.1 (y5.getD (bz.getD aX.toNat (0,0,0,0,0,0,0)).2.2.1.toNat []).length) (let y6:EQ:=(y5.set (bz.getD aX.toNat (0,0,0,0,0,0,0)).2.2.1.toNat ((y5.getD (bz.getD aX.toNat (0,0,0,0,0,0,0)).2.2.1.toNat []).set (bz.getD aX.toNat (0,0,0,0,0,0,0)).2.1.toNat (zA (((y5.getD (bz.getD aX.toNat (0,0,0,0,0,0,0)).2.2.1.toNat []).getD (bz.getD aX.toNat (0,0,0,0,0,0,0)).2.1.toNat 0)-(bz.getD aX.toNat (0,0,0,0,0,0,0)).2.2.2.1))))
           rec bz ku (zA (aX+1)) af ah aj ag y1 m4 r5 y6) none) none) none) none) none) none) none) none) none)<|some (af,ah,aj,ag,r3,m4,r5,m6)
def Fq (k:Nat):Nat→yAe
 |0,_,_,_,_,_,_,_,_,_,_,_=>none
 |n+1,bz,ku,aX,af,ah,aj,ag,r3,m4,r5,m6=>Fs k (Fq k n) bz ku aX af ah aj ag r3 m4 r5 m6
def qm (k:Nat)(au:List zJ)(aB:EQ)(aA:AC)(ax:EQ)(a1:List zD):Option ((List zJ)×EQ×AC×EQ×Int):=
 cond (decide ((a1.length:Int)>64)) (some (au,aB,aA,ax,1))<|(PW k a1 au aB aA ax).bind fun x0=>cond x0 (some (au,aB,aA,ax,1))<|(gF k au aB aA ax).bind fun x1=>(Fq k k a1 (a1.length:Int) 0 au aB aA ax x1.1 x1.2.1 x1.2.2.1 x1.2.2.2).bind fun z=>(Fe k z.2.2.2.2.1 z.2.2.2.2.2.1 z.2.2.2.2.2.2.1 z.2.2.2.2.2.2.2).bind fun x3=>cond (!x3) (some (vV z 8))<|some (yWs z 0)
abbrev yAu:Type:=((List zJ)×EQ×AC×EQ×Int×Int×Int×Int×Int×Int×Int)⊕(Bool×Int×Int×Int×Int×Int×Int×Int×(List zJ)×EQ×AC×EQ)
abbrev yB4:Type:=Int→Int→List zJ→EQ→AC→EQ→Int→Int→Int→Int→Int→Int→Int→List zD→Option yAu
def Gu (k:Nat)(rec:yB4)(bG bb:Int)(af:List zJ)(ah:EQ)(aj:AC)(ag:EQ)(aw aD aE aG aJ aK aL:Int)(r3:List zD):Option yAu:=
 cond (decide (bb<bG)) (cond (zB bb r3.length) ((B1 k af ah aj ag [(r3.getD bb.toNat (0,0,0,0,0,0,0))]).bind fun x1=>cond (!x1) (rec bG (zA (bb+1)) af ah aj ag aw aD aE aG aJ aK aL r3)<|(qm k af ah aj ag [(r3.getD bb.toNat (0,0,0,0,0,0,0))]).bind fun x2=>cond (decide (x2.2.2.2.2=0)) (some (.inr (true,(gh (r3.getD bb.toNat (0,0,0,0,0,0,0)) (jM x2)))))<|rec bG (zA (bb+1)) af ah aj ag aw aD aE aG aJ aK aL r3) none)<|some (.inl (af,ah,aj,ag,aw,aD,aE,aG,aJ,aK,aL))
def LN (k:Nat):Nat→yB4
 |0,_,_,_,_,_,_,_,_,_,_,_,_,_,_=>none
 |n+1,bG,bb,af,ah,aj,ag,aw,aD,aE,aG,aJ,aK,aL,r3=>Gu k (LN k n) bG bb af ah aj ag aw aD aE aG aJ aK aL r3
def QD (k:Nat)(au:List zJ)(aB:EQ)(aA:AC)(ax:EQ)(a1:List zD)(a2:Int):Option (Int×Int×Int×Int×Int×Int×Int×(List zJ)×EQ×AC×EQ×Bool):=
 (Lw k a1 a2).bind fun x0=>(LN k k (x0.length:Int) 0 au aB aA ax 0 0 0 0 0 0 0 x0).bind fun z=>match z with
 |.inl z1=>some (0,0,0,0,0,0,0,(vV z1 false))
 |.inr z2=>some (vNm z2 z2.1)
abbrev yDo:Type:=(List zD)×(List zJ)×EQ×AC×EQ×(List zD)
abbrev qPu:Type:=Int→List zD→List zJ→EQ→AC→EQ→List zD→Option yDo
def Gw (k:Nat)(rec:qPu)(s2:Int)(s7:List zD)(af:List zJ)(ah:EQ)(aj:AC)(ag:EQ)(r1:List zD):Option yDo:=
 (QD k af ah aj ag s7 s2).bind fun x0=>cond (!x0.2.2.2.2.2.2.2.2.2.2.2) (some (s7,af,ah,aj,ag,r1))<|(qo k s7 x0.1).bind fun x1=>cond (zM (r1.length+1) 56) (let y0:List zD:=(r1++[(vO x0)])
  rec s2 x1.1 x0.2.2.2.2.2.2.2.1 x0.2.2.2.2.2.2.2.2.1 x0.2.2.2.2.2.2.2.2.2.1 x0.2.2.2.2.2.2.2.2.2.2.1 y0) none
def LO (k:Nat):Nat→qPu
 |0,_,_,_,_,_,_,_=>none
 |n+1,s2,s7,af,ah,aj,ag,r1=>Gw k (LO k n) s2 s7 af ah aj ag r1
def QE (k:Nat)(au:List zJ)(aB:EQ)(aA:AC)(ax:EQ)(a1:List zD)(a2:Int):Option tA:=
 (LO k k a2 a1 au aB aA ax []).bind fun z=>some (iK z (z.1,z.2.2.2.2.2))
abbrev qNv:Type:=(Int×Int×(List zJ)×EQ×AC×EQ×Int×Int×Int×Int×Int×Int×Int×Int×Int×Int×Int×Int×Int×Int×(List zD))⊕yZd
abbrev qWy:Type:=Int→Int→Int→Int→List zJ→EQ→AC→EQ→Int→Int→Int→Int→Int→Int→Int→Int→Int→Int→Int→Int→Int→Int→List zD→Int→Int→Int→Int→Int→Int→Int→Option qNv
def Gz (k:Nat)(rec:qWy)(cQ cM ku aX:Int)(af:List zJ)(ah:EQ)(aj:AC)(ag:EQ)(aw aD aE aG aJ aK aL cC cD bF aW cm cn cp:Int)(r2:List zD)(cj de dv il im iq ir:Int):Option qNv:=
 cond (decide (aX<ku)) (cond (zB aX r2.length) (cond (!(decide ((r2.getD aX.toNat (0,0,0,0,0,0,0)).2.1=dv))) (rec cQ cM ku (zA (aX+1)) af ah aj ag aw aD aE aG aJ aK aL cC cD bF aW cm cn cp r2 cj de dv il im iq ir)<|cond (!(decide ((r2.getD aX.toNat (0,0,0,0,0,0,0)).2.2.1=de))) (rec cQ cM ku (zA (aX+1)) af ah aj ag aw aD aE aG aJ aK aL cC cD bF aW cm cn cp r2 cj de dv il im iq ir)<|cond (decide (de≥(r2.getD aX.toNat (0,0,0,0,0,0,0)).2.1)) (rec cQ cM ku (zA (aX+1)) af ah aj ag aw aD aE aG aJ aK aL cC cD bF aW cm cn cp r2 cj de dv il im iq ir)<|(B1 k af ah aj ag [(cj,de,dv,il,im,iq,ir),(r2.getD aX.toNat (0,0,0,0,0,0,0))]).bind fun x1=>cond (!x1) (rec cQ cM ku (zA (aX+1)) af ah aj ag aw aD aE aG aJ aK aL cC cD bF aW cm cn cp r2 cj de dv il im iq ir)<|(qm k af ah aj ag [(cj,de,dv,il,im,iq,ir),(r2.getD aX.toNat (0,0,0,0,0,0,0))]).bind fun x2=>cond (decide (x2.2.2.2.2=0)) (some (.inr (true,cj,de,dv,il,im,iq,ir,(gh (r2.getD aX.toNat (0,0,0,0,0,0,0)) (jM x2)))))<|rec cQ cM ku (zA (aX+1)) af ah aj ag aw aD aE aG aJ aK aL cC cD bF aW cm cn cp r2 cj de dv il im iq ir) none)<|some (.inl (cQ,cM,af,ah,aj,ag,aw,aD,aE,aG,aJ,aK,aL,cC,cD,bF,aW,cm,cn,cp,r2))
def LP (k:Nat):Nat→qWy
 |0,_,_,_,_,_,_,_,_,_,_,_,_,_,_,_,_,_,_,_,_,_,_,_,_,_,_,_,_,_,_=>none
 |n+1,cQ,cM,ku,aX,af,ah,aj,ag,aw,aD,aE,aG,aJ,aK,aL,cC,cD,bF,aW,cm,cn,cp,r2,cj,de,dv,il,im,iq,ir=>Gz k (LP k n) cQ cM ku aX af ah aj ag aw aD aE aG aJ aK aL cC cD bF aW cm cn cp r2 cj de dv il im iq ir
abbrev yB2:Type:=(Int×Int×Int×Int×Int×Int×Int×Int×Int×Int×Int×Int×Int×Int)⊕yZd
abbrev qVa:Type:=Int→Int→List zJ→EQ→AC→EQ→Int→Int→Int→Int→Int→Int→Int→Int→Int→Int→Int→Int→Int→Int→List zD→Option yB2
def GA (k:Nat)(rec:qVa)(cQ cM:Int)(af:List zJ)(ah:EQ)(aj:AC)(ag:EQ)(aw aD aE aG aJ aK aL cC cD bF aW cm cn cp:Int)(r2:List zD):Option yB2:=
 cond (decide (cM<cQ)) (cond (zB cM r2.length) ((LP k k cQ cM (r2.length:Int) 0 af ah aj ag aw aD aE aG aJ aK aL cC cD bF aW cm cn cp r2 (r2.getD cM.toNat (0,0,0,0,0,0,0)).1 (r2.getD cM.toNat (0,0,0,0,0,0,0)).2.1 (r2.getD cM.toNat (0,0,0,0,0,0,0)).2.2.1 (r2.getD cM.toNat (0,0,0,0,0,0,0)).2.2.2.1 (r2.getD cM.toNat (0,0,0,0,0,0,0)).2.2.2.2.1 (r2.getD cM.toNat (0,0,0,0,0,0,0)).2.2.2.2.2.1 (r2.getD cM.toNat (0,0,0,0,0,0,0)).2.2.2.2.2.2).bind fun z=>match z with
   |.inl z1=>rec z1.1 (zA (z1.2.1+1)) z1.2.2.1 z1.2.2.2.1 z1.2.2.2.2.1 z1.2.2.2.2.2.1 z1.2.2.2.2.2.2.1 z1.2.2.2.2.2.2.2.1 z1.2.2.2.2.2.2.2.2.1 z1.2.2.2.2.2.2.2.2.2.1 z1.2.2.2.2.2.2.2.2.2.2.1 z1.2.2.2.2.2.2.2.2.2.2.2.1 z1.2.2.2.2.2.2.2.2.2.2.2.2.1 z1.2.2.2.2.2.2.2.2.2.2.2.2.2.1 z1.2.2.2.2.2.2.2.2.2.2.2.2.2.2.1 z1.2.2.2.2.2.2.2.2.2.2.2.2.2.2.2.1 z1.2.2.2.2.2.2.2.2.2.2.2.2.2.2.2.2.1 z1.2.2.2.2.2.2.2.2.2.2.2.2.2.2.2.2.2.1 z1.2.2.2.2.2.2.2.2.2.2.2.2.2.2.2.2.2.2.1 z1.2.2.2.2.2.2.2.2.2.2.2.2.2.2.2.2.2.2.2.1 z1.2.2.2.2.2.2.2.2.2.2.2.2.2.2.2.2.2.2.2.2
   |.inr z2=>some (.inr (z2.1,z2.2.1,z2.2.2.1,z2.2.2.2.1,z2.2.2.2.2.1,z2.2.2.2.2.2.1,z2.2.2.2.2.2.2.1,z2.2.2.2.2.2.2.2.1,z2.2.2.2.2.2.2.2.2.1,z2.2.2.2.2.2.2.2.2.2.1,z2.2.2.2.2.2.2.2.2.2.2.1,z2.2.2.2.2.2.2.2.2.2.2.2.1,z2.2.2.2.2.2.2.2.2.2.2.2.2.1,z2.2.2.2.2.2.2.2.2.2.2.2.2.2.1,z2.2.2.2.2.2.2.2.2.2.2.2.2.2.2.1,z2.2.2.2.2.2.2.2.2.2.2.2.2.2.2.2.1,z2.2.2.2.2.2.2.2.2.2.2.2.2.2.2.2.2.1,z2.2.2.2.2.2.2.2.2.2.2.2.2.2.2.2.2.2.1,z2.2.2.2.2.2.2.2.2.2.2.2.2.2.2.2.2.2.2))) none)<|some (.inl (aw,aD,aE,aG,aJ,aK,aL,cC,cD,bF,aW,cm,cn,cp))
def LR (k:Nat):Nat→qVa
 |0,_,_,_,_,_,_,_,_,_,_,_,_,_,_,_,_,_,_,_,_,_=>none
 |n+1,cQ,cM,af,ah,aj,ag,aw,aD,aE,aG,aJ,aK,aL,cC,cD,bF,aW,cm,cn,cp,r2=>GA k (LR k n) cQ cM af ah aj ag aw aD aE aG aJ aK aL cC cD bF aW cm cn cp r2
def QG (k:Nat)(au:List zJ)(aB:EQ)(aA:AC)(ax:EQ)(a1:List zD)(a2:Int):Option (Int×Int×Int×Int×Int×Int×Int×Int×Int×Int×Int×Int×Int×Int×(List zJ)×EQ×AC×EQ×Bool):=
 (Lw k a1 a2).bind fun x0=>(LR k k (x0.length:Int) 0 au aB aA ax 0 0 0 0 0 0 0 0 0 0 0 0 0 0 x0).bind fun z3=>match z3 with
 |.inl z4=>some (0,0,0,0,0,0,0,0,0,0,0,0,0,0,[],[],[],[],false)
 |.inr z5=>some (yBv z5 z5.1)
abbrev qPo:Type:=Int×(List zD)×(List zJ)×EQ×AC×EQ×(List zD)
abbrev qN2:Type:=Int→List zD→Int→Int→List zJ→EQ→AC→EQ→List zD→List zD→Option qPo
def xX (k:Nat)(rec:qN2)(s2:Int)(s7:List zD)(Dt tB:Int)(af:List zJ)(ah:EQ)(aj:AC)(ag:EQ)(r1 r2:List zD):Option qPo:=
 cond (decide (tB<Dt)) (cond (zB tB r2.length) ((qo k s7 (r2.getD tB.toNat (0,0,0,0,0,0,0)).1).bind fun x1=>cond (zM (r1.length+1) 56) (let y0:List zD:=(r1++[(r2.getD tB.toNat (0,0,0,0,0,0,0))])
    rec s2 x1.1 Dt (zA (tB+1)) af ah aj ag y0 r2) none) none)<|some (s2,s7,af,ah,aj,ag,r1)
def xW (k:Nat):Nat→qN2
 |0,_,_,_,_,_,_,_,_,_,_=>none
 |n+1,s2,s7,Dt,tB,af,ah,aj,ag,r1,r2=>xX k (xW k n) s2 s7 Dt tB af ah aj ag r1 r2
def GB (k:Nat)(rec:qPu)(s2:Int)(s7:List zD)(af:List zJ)(ah:EQ)(aj:AC)(ag:EQ)(r1:List zD):Option yDo:=
 (QG k af ah aj ag s7 s2).bind fun x0=>cond (!x0.2.2.2.2.2.2.2.2.2.2.2.2.2.2.2.2.2.2) (some (s7,af,ah,aj,ag,r1))<|(xW k k s2 s7 2 0 x0.2.2.2.2.2.2.2.2.2.2.2.2.2.2.1 x0.2.2.2.2.2.2.2.2.2.2.2.2.2.2.2.1 x0.2.2.2.2.2.2.2.2.2.2.2.2.2.2.2.2.1 x0.2.2.2.2.2.2.2.2.2.2.2.2.2.2.2.2.2.1 r1 [(vO x0),(qR2 x0)]).bind fun z=>rec z.1 z.2.1 z.2.2.1 z.2.2.2.1 z.2.2.2.2.1 z.2.2.2.2.2.1 z.2.2.2.2.2.2
def LS (k:Nat):Nat→qPu
 |0,_,_,_,_,_,_,_=>none
 |n+1,s2,s7,af,ah,aj,ag,r1=>GB k (LS k n) s2 s7 af ah aj ag r1
def QH (k:Nat)(au:List zJ)(aB:EQ)(aA:AC)(ax:EQ)(a1:List zD)(a2:Int):Option tA:=
 (LS k k a2 a1 au aB aA ax []).bind fun z1=>some (iK z1 (z1.1,z1.2.2.2.2.2))
def QO (k:Nat)(rec:qPu)(s2:Int)(s7:List zD)(af:List zJ)(ah:EQ)(aj:AC)(ag:EQ)(r1:List zD):Option yDo:=
 (QE k af ah aj ag s7 s2).bind fun x0=>(QH k x0.1 x0.2.1 x0.2.2.1 x0.2.2.2.1 x0.2.2.2.2.1 s2).bind fun x1=>cond (zM (r1.length+x0.2.2.2.2.2.length) 56) (cond (zM ((r1++x0.2.2.2.2.2).length+x1.2.2.2.2.2.length) 56) (let y0:List zD:=((r1++x0.2.2.2.2.2)++x1.2.2.2.2.2)
   cond (decide ((x1.2.2.2.2.2.length:Int)=0)) (some (x1.2.2.2.2.1,(vV x1 y0)))<|rec s2 x1.2.2.2.2.1 x1.1 x1.2.1 x1.2.2.1 x1.2.2.2.1 y0) none) none
def L4 (k:Nat):Nat→qPu
 |0,_,_,_,_,_,_,_=>none
 |n+1,s2,s7,af,ah,aj,ag,r1=>QO k (L4 k n) s2 s7 af ah aj ag r1
def L5 (k:Nat)(au:List zJ)(aB:EQ)(aA:AC)(ax:EQ)(a1:List zD)(a2:Int):Option tA:=
 (L4 k k a2 a1 au aB aA ax []).bind fun z=>some (iK z (z.1,z.2.2.2.2.2))
def ZG (k:Nat)(a0:AC):Option AC:=
 cond (zM (0+a0.length) 8) (some a0) none
def ZI (k:Nat)(cf bj bB cw bN ca bR:Int)(a1:AC):Option (Bool×AC):=
 cond (decide (bj<0)) (some (false,a1))<|cond (decide (bj≥a1.length)) (some (false,a1))<|cond (zB bj a1.length) (cond (decide ((a1.getD bj.toNat 0)<1)) (some (false,a1))<|cond (zB bj a1.length) (cond (zB bj a1.length) (some (true,(a1.set bj.toNat (zA ((a1.getD bj.toNat 0)-1))))) none) none) none
abbrev qLo:Type:=AC×(List zD)
abbrev qX5:Type:=List zD→Int→Int→AC→List zD→Option qLo
def GH (k:Nat)(rec:qX5)(s8:List zD)(s9 av:Int)(r1:AC)(r2:List zD):Option qLo:=
 cond (decide (av<s9)) (cond (zB av s8.length) ((ZI k (s8.getD av.toNat (0,0,0,0,0,0,0)).1 (s8.getD av.toNat (0,0,0,0,0,0,0)).2.1 (s8.getD av.toNat (0,0,0,0,0,0,0)).2.2.1 (s8.getD av.toNat (0,0,0,0,0,0,0)).2.2.2.1 (s8.getD av.toNat (0,0,0,0,0,0,0)).2.2.2.2.1 (s8.getD av.toNat (0,0,0,0,0,0,0)).2.2.2.2.2.1 (s8.getD av.toNat (0,0,0,0,0,0,0)).2.2.2.2.2.2 r1).bind fun x0=>cond x0.1 (cond (zM (r2.length+1) 56) (let y0:List zD:=(r2++[(s8.getD av.toNat (0,0,0,0,0,0,0))])
     rec s8 s9 (zA (av+1)) x0.2 y0) none)<|rec s8 s9 (zA (av+1)) x0.2 r2) none)<|some (r1,r2)
def GG (k:Nat):Nat→qX5
 |0,_,_,_,_,_=>none
 |n+1,s8,s9,av,r1,r2=>GH k (GG k n) s8 s9 av r1 r2
def ZH (k:Nat)(a0:List zD)(cX:AC):Option ((List zD)×AC):=
 (GG k k a0 (a0.length:Int) 0 cX []).bind fun z=>some (z.2,z.1)
def GD (k:Nat)(a0:List zD)(a1:AC):Option (List zD):=
 (ZG k a1).bind fun x0=>(ZH k a0 x0).bind fun x1=>some x1.1
abbrev yA5:Type:=Int×(List zJ)×EQ×AC×EQ×AC×(List zD)
abbrev qRl:Type:=Int→Int→Int→List zJ→EQ→AC→EQ→AC→List zD→Option yA5
def GJ (k:Nat)(rec:qRl)(s7 gf cQ:Int)(af:List zJ)(ah:EQ)(aj:AC)(ag:EQ)(r1:AC)(r2:List zD):Option yA5:=
 cond (decide (cQ<gf)) ((LX k r2 cQ).bind fun x1=>cond (zM (r1.length+1) 8) (rec s7 gf (zA (cQ+1)) af ah aj ag (r1++[(x1.length:Int)]) r2) none)<|some (s7,af,ah,aj,ag,r1,r2)
def Cb (k:Nat):Nat→qRl
 |0,_,_,_,_,_,_,_,_,_=>none
 |n+1,s7,gf,cQ,af,ah,aj,ag,r1,r2=>GJ k (Cb k n) s7 gf cQ af ah aj ag r1 r2
abbrev yC1:Type:=Int→Int→Int→List zJ→EQ→AC→EQ→AC→List zD→AC→Option yA5
def GL (k:Nat)(rec:yC1)(s7 TB oJ:Int)(af:List zJ)(ah:EQ)(aj:AC)(ag:EQ)(r1:AC)(r2:List zD)(r3:AC):Option yA5:=
 cond (decide (oJ<TB)) (cond (zB oJ r3.length) (cond (zB (r3.getD oJ.toNat 0) r1.length) (cond (zB (r3.getD oJ.toNat 0) r1.length) (let y0:AC:=(r1.set (r3.getD oJ.toNat 0).toNat (zA ((r1.getD (r3.getD oJ.toNat 0).toNat 0)-1)))
     rec s7 TB (zA (oJ+1)) af ah aj ag y0 r2 r3) none) none) none)<|some (s7,af,ah,aj,ag,r1,r2)
def GK (k:Nat):Nat→yC1
 |0,_,_,_,_,_,_,_,_,_,_=>none
 |n+1,s7,TB,oJ,af,ah,aj,ag,r1,r2,r3=>GL k (GK k n) s7 TB oJ af ah aj ag r1 r2 r3
abbrev yAn:Type:=Int→List zJ→EQ→AC→EQ→AC→List zD→Option (Int×AC)
def GM (k:Nat)(rec:yAn)(s7:Int)(af:List zJ)(ah:EQ)(aj:AC)(ag:EQ)(r1:AC)(r2:List zD):Option (Int×AC):=
 (GD k r2 r1).bind fun x2=>(BZ k af ah aj ag x2).bind fun x3=>cond (decide ((x3.length:Int)=0)) (some ((zA (s7+1)),r1))<|(GK k k (zA (s7+1)) (x3.length:Int) 0 af ah aj ag r1 r2 x3).bind fun z1=>rec z1.1 z1.2.1 z1.2.2.1 z1.2.2.2.1 z1.2.2.2.2.1 z1.2.2.2.2.2.1 z1.2.2.2.2.2.2
def LZ (k:Nat):Nat→yAn
 |0,_,_,_,_,_,_,_=>none
 |n+1,s7,af,ah,aj,ag,r1,r2=>GM k (LZ k n) s7 af ah aj ag r1 r2
def QL (k:Nat)(au:List zJ)(aB:EQ)(aA:AC)(ax:EQ)(a1:List zD)(a2:Int):Option (AC×Int):=
 (FR k a1 a2).bind fun x0=>(Cb k k 0 (au.length:Int) 0 au aB aA ax [] x0).bind fun z=>(LZ k k z.1 z.2.1 z.2.2.1 z.2.2.2.1 z.2.2.2.2.1 z.2.2.2.2.2.1 z.2.2.2.2.2.2).bind fun z2=>some (z2.2,z2.1)
abbrev qQ1:Type:=List zD→Int→Int→List zJ→EQ→AC→EQ→List zD→Option yDo
def GN (k:Nat)(rec:qQ1)(s7:List zD)(lO gQ:Int)(af:List zJ)(ah:EQ)(aj:AC)(ag:EQ)(r1:List zD):Option yDo:=
 cond (decide (gQ<lO)) (cond (zB gQ r1.length) ((qo k s7 (r1.getD gQ.toNat (0,0,0,0,0,0,0)).1).bind fun x4=>rec x4.1 lO (zA (gQ+1)) af ah aj ag r1) none)<|some (s7,af,ah,aj,ag,r1)
def Cc (k:Nat):Nat→qQ1
 |0,_,_,_,_,_,_,_,_=>none
 |n+1,s7,lO,gQ,af,ah,aj,ag,r1=>GN k (Cc k n) s7 lO gQ af ah aj ag r1
def Cd (k:Nat)(au:List zJ)(aB:EQ)(aA:AC)(ax:EQ)(a1:List zD)(a2:Int):Option tA:=
 (QL k au aB aA ax a1 a2).bind fun x0=>(FR k a1 a2).bind fun x1=>(GD k x1 x0.1).bind fun x2=>(qm k au aB aA ax x2).bind fun x3=>cond (!(decide (x3.2.2.2.2=0))) (some (au,aB,aA,ax,a1,[]))<|(Cc k k a1 (x2.length:Int) 0 x3.1 x3.2.1 x3.2.2.1 x3.2.2.2.1 x2).bind fun z=>some (iK z (z.1,z.2.2.2.2.2))
def yc (k:Nat)(au:List zJ)(aB:EQ)(aA:AC)(ax:EQ)(a1:List zD)(a2:Int)(a3:Bool):Option tA:=
 (L5 k au aB aA ax a1 a2).bind fun x0=>cond (!a3) (some (x0.1,x0.2.1,x0.2.2.1,x0.2.2.2.1,x0.2.2.2.2.1,x0.2.2.2.2.2))<|(Cd k x0.1 x0.2.1 x0.2.2.1 x0.2.2.2.1 x0.2.2.2.2.1 a2).bind fun x1=>cond (decide ((x1.2.2.2.2.2.length:Int)=0)) (some (gg x1 x0.2.2.2.2.2))<|(L5 k x1.1 x1.2.1 x1.2.2.1 x1.2.2.2.1 x1.2.2.2.2.1 a2).bind fun x2=>cond (zM (x0.2.2.2.2.2.length+x1.2.2.2.2.2.length) 56) (cond (zM ((x0.2.2.2.2.2++x1.2.2.2.2.2).length+x2.2.2.2.2.2.length) 56) (let y0:List zD:=((x0.2.2.2.2.2++x1.2.2.2.2.2)++x2.2.2.2.2.2)
   some (gg x2 y0)) none) none
abbrev qXn:Type:=(List zD)×Int×Int×(List qJ)
abbrev qZz:Type:=List zD→Int→Int→Int→Int→List qJ→Int→Int→Int→Int→Int→Int→Int→AC→Option qXn
def yf (k:Nat)(rec:qZz)(s8:List zD)(s9 av cQ cM:Int)(r0:List qJ)(aw aD aE aG aJ aK aL:Int)(r2:AC):Option qXn:=
 cond (decide (cM<cQ)) (cond (zB cM r2.length) ((qx k (r2.getD cM.toNat 0) 18 [aw,aD,aE,aG]).bind fun x0=>cond (zM (r0.length+1) 64) (rec s8 s9 av cQ (zA (cM+1)) (r0++[x0]) aw aD aE aG aJ aK aL r2) none) none)<|some (s8,s9,av,r0)
def ye (k:Nat):Nat→qZz
 |0,_,_,_,_,_,_,_,_,_,_,_,_,_,_=>none
 |n+1,s8,s9,av,cQ,cM,r0,aw,aD,aE,aG,aJ,aK,aL,r2=>yf k (ye k n) s8 s9 av cQ cM r0 aw aD aE aG aJ aK aL r2
abbrev qUl:Type:=List qJ
abbrev yAi:Type:=List zD→Int→Int→List qJ→Option qUl
def GQ (k:Nat)(rec:yAi)(s8:List zD)(s9 av:Int)(r0:List qJ):Option qUl:=
 cond (decide (av<s9)) (cond (zB av s8.length) ((ye k k s8 s9 av 2 0 r0 (s8.getD av.toNat (0,0,0,0,0,0,0)).1 (s8.getD av.toNat (0,0,0,0,0,0,0)).2.1 (s8.getD av.toNat (0,0,0,0,0,0,0)).2.2.1 (s8.getD av.toNat (0,0,0,0,0,0,0)).2.2.2.1 (s8.getD av.toNat (0,0,0,0,0,0,0)).2.2.2.2.1 (s8.getD av.toNat (0,0,0,0,0,0,0)).2.2.2.2.2.1 (s8.getD av.toNat (0,0,0,0,0,0,0)).2.2.2.2.2.2 [(s8.getD av.toNat (0,0,0,0,0,0,0)).2.1,(s8.getD av.toNat (0,0,0,0,0,0,0)).2.2.1]).bind fun z=>rec z.1 z.2.1 (zA (z.2.2.1+1)) z.2.2.2) none)<|some r0
def L6 (k:Nat):Nat→yAi
 |0,_,_,_,_=>none
 |n+1,s8,s9,av,r0=>GQ k (L6 k n) s8 s9 av r0
def QP (k:Nat)(a0:List zD):Option (List qJ):=
 (L6 k k a0 (a0.length:Int) 0 []).bind fun z1=>some z1
def uR (k:Nat)(mC:Int)(rq:List zJ)(rr:EQ)(ru:AC)(rz:EQ)(rA:AC)(rC:EQ)(mD:List zD)(rD:AC)(rE:Int)(rF a1:Bool):Option Tp:=
 (yc k rq rr ru rz mD mC a1).bind fun x0=>(QP k x0.2.2.2.2.2).bind fun x1=>some (mC,(vV x0 (rA,rC,x0.2.2.2.2.1,rD,rE,rF,x1)))
abbrev qYl:Type:=Int×(List vX)×Int×Int×Int×Int×(List zJ)×EQ×AC×EQ×AC×EQ×(List zD)×AC×Int×Bool×Int×Int×Bool×(List qJ)×(List zD)
abbrev qNg:Type:=List zD→Int→Int→Int→List vX→Int→Int→Int→Int→List zJ→EQ→AC→EQ→AC→EQ→List zD→AC→Int→Bool→Int→Int→Bool→List qJ→List zD→Option qYl
def G0 (k:Nat)(rec:qNg)(fL:List zD)(lP fM af:Int)(ah:List vX)(aj ag ba aw:Int)(aD:List zJ)(aE:EQ)(aG:AC)(aJ:EQ)(aK:AC)(aL:EQ)(cC:List zD)(cD:AC)(bF:Int)(aW:Bool)(bc rJ:Int)(lj:Bool)(r3:List qJ)(r4:List zD):Option qYl:=
 cond (decide (fM<lP)) (cond (zB fM fL.length) ((ZU k (fL.getD fM.toNat (0,0,0,0,0,0,0)).1 (fL.getD fM.toNat (0,0,0,0,0,0,0)).2.1 (fL.getD fM.toNat (0,0,0,0,0,0,0)).2.2.1 (fL.getD fM.toNat (0,0,0,0,0,0,0)).2.2.2.1 (fL.getD fM.toNat (0,0,0,0,0,0,0)).2.2.2.2.1 (fL.getD fM.toNat (0,0,0,0,0,0,0)).2.2.2.2.2.1 (fL.getD fM.toNat (0,0,0,0,0,0,0)).2.2.2.2.2.2 aw).bind fun x2=>cond x2 ((qx k (fL.getD fM.toNat (0,0,0,0,0,0,0)).2.1 21 [(fL.getD fM.toNat (0,0,0,0,0,0,0)).1]).bind fun x3=>cond (zM (r3.length+1) 64) (rec fL lP (zA (fM+1)) af ah aj ag ba aw aD aE aG aJ aK aL cC cD bF aW bc rJ lj (r3++[x3]) r4) none)<|cond (zM (r4.length+1) 56) (let y0:List zD:=(r4++[(fL.getD fM.toNat (0,0,0,0,0,0,0))])
    rec fL lP (zA (fM+1)) af ah aj ag ba aw aD aE aG aJ aK aL cC cD bF aW bc rJ lj r3 y0) none) none)<|some (af,ah,aj,ag,ba,aw,aD,aE,aG,aJ,aK,aL,cC,cD,bF,aW,bc,rJ,lj,r3,r4)
def GZ (k:Nat):Nat→qNg
 |0,_,_,_,_,_,_,_,_,_,_,_,_,_,_,_,_,_,_,_,_,_,_,_,_=>none
 |n+1,fL,lP,fM,af,ah,aj,ag,ba,aw,aD,aE,aG,aJ,aK,aL,cC,cD,bF,aW,bc,rJ,lj,r3,r4=>G0 k (GZ k n) fL lP fM af ah aj ag ba aw aD aE aG aJ aK aL cC cD bF aW bc rJ lj r3 r4
def yh (k:Nat)(di:Int)(dV:List vX)(dW dj cg jw:Int)(cE:List zJ)(dG:EQ)(dH:AC)(dI:EQ)(gm:AC)(jx:EQ)(gn:List zD)(rK:AC)(jy:Int)(jz:Bool):Option Tp:=
 cond jz (some (jw,cE,dG,dH,dI,gm,jx,gn,rK,jy,jz,[]))<|(Cg k di dV dW dj cg (zA (jw+1))).bind fun x0=>cond x0 ((QS k (zA (jw+1)) cE dG dH dI gm jx gn rK jy jz).bind fun x1=>some (x1.1,x1.2.1,x1.2.2.1,x1.2.2.2.1,x1.2.2.2.2.1,x1.2.2.2.2.2.1,x1.2.2.2.2.2.2.1,x1.2.2.2.2.2.2.2.1,x1.2.2.2.2.2.2.2.2.1,x1.2.2.2.2.2.2.2.2.2.1,x1.2.2.2.2.2.2.2.2.2.2.1,x1.2.2.2.2.2.2.2.2.2.2.2))<|(GZ k k gn (gn.length:Int) 0 di dV dW dj cg (zA (jw+1)) cE dG dH dI gm jx gn rK jy jz 0 0 false [] []).bind fun z=>(G1 k z.1 z.2.1 z.2.2.1 z.2.2.2.1 z.2.2.2.2.1 z.2.2.2.2.2.1).bind fun x4=>(uR k z.2.2.2.2.2.1 z.2.2.2.2.2.2.1 z.2.2.2.2.2.2.2.1 z.2.2.2.2.2.2.2.2.1 z.2.2.2.2.2.2.2.2.2.1 z.2.2.2.2.2.2.2.2.2.2.1 z.2.2.2.2.2.2.2.2.2.2.2.1 z.2.2.2.2.2.2.2.2.2.2.2.2.2.2.2.2.2.2.2.2 z.2.2.2.2.2.2.2.2.2.2.2.2.2.1 z.2.2.2.2.2.2.2.2.2.2.2.2.2.2.1 z.2.2.2.2.2.2.2.2.2.2.2.2.2.2.2.1 x4).bind fun x5=>cond (zM (z.2.2.2.2.2.2.2.2.2.2.2.2.2.2.2.2.2.2.2.1.length+x5.2.2.2.2.2.2.2.2.2.2.2.length) 64) (let y1:List qJ:=(z.2.2.2.2.2.2.2.2.2.2.2.2.2.2.2.2.2.2.2.1++x5.2.2.2.2.2.2.2.2.2.2.2)
  some (AB x5 y1)) none
def yTx (k:Nat)(a0:lM)(a1:NT):Option (Int×jO):=
 (vH k a1.2.1 0 (zA (a0.1-1))).bind fun x0=>cond (!x0) (some (1,(vR a0 [])))<|(vH k a1.2.2.2.1 1 3).bind fun x1=>cond (!x1) (some (1,(vR a0 [])))<|(G2 k (qZ a0) a0.2.2.2.2.2.1 (a1.1,a0.2.2.2.2.2.2.2.2.2.2.2.2.2.2.2.2,a1.2)).bind fun x2=>cond (!(decide (x2=0))) (some (x2,(vR a0 [])))<|(Gj k a0.2.2.2.2.2.2.2.2.2.2.2.2.2.1 a1.1).bind fun x3=>cond (!(decide (x3.2=0))) (some (x3.2,(vR a0 [])))<|(xT k a0.2.2.2.2.2.2.2.2.2.2.2.2.1 (a1.1,a0.2.2.2.2.2.2.2.2.2.2.2.2.2.2.2.2,a1.2)).bind fun x4=>cond (!(decide (x4.2=0))) (some (x4.2,(vR a0 [])))<|some (0,(kt a0 (x4.1,x3.1,a0.2.2.2.2.2.2.2.2.2.2.2.2.2.2.1,a0.2.2.2.2.2.2.2.2.2.2.2.2.2.2.2.1,a0.2.2.2.2.2.2.2.2.2.2.2.2.2.2.2.2,[])))
def SP (k:Nat)(a0:lM)(a1:zD):Option (Int×jO):=
 (yEn k (vR a0 []) a1.2.1).bind fun x0=>cond (!(decide (x0.2=0))) (some (x0.2,(vR a0 [])))<|cond (decide (a1.1=2)) ((qo k a0.2.2.2.2.2.2.2.2.2.2.2.2.1 a1.2.1).bind fun x1=>(RU k (kt a0 (x1.1,a0.2.2.2.2.2.2.2.2.2.2.2.2.2)) 20 [a1.2.1]).bind fun x2=>some (x1.2.2.2.2.2.2.2.2,x2))<|cond (decide (a1.1=4)) ((vH k a1.2.2.1 1 3).bind fun x3=>cond (!x3) (some (1,(vR a0 [])))<|(Ch k (qZ a0) a0.2.2.2.2.2.1 a1.2.2.1).bind fun x4=>cond (!(decide (x4=0))) (some (x4,(vR a0 [])))<|(Gd k a0.2.2.2.2.2.2.2.2.2.2.2.2.1 a1.2.1 a1.2.2.1).bind fun x5=>some (x5.2,(kt a0 (x5.1,(qYy a0 [])))))<|cond (decide (a1.2.2.1=0)) ((Gg k a0.2.2.2.2.2.2.2.2.2.2.2.2.1 a1.2.1).bind fun x6=>some (x6.2,(kt a0 (x6.1,(qYy a0 [])))))<|cond (decide (a1.2.2.1=1)) ((Ge k a0.2.2.2.2.2.2.2.2.2.2.2.2.1 a1.2.1).bind fun x7=>some (x7.2,(kt a0 (x7.1,(qYy a0 [])))))<|some (1,(vR a0 []))
def SQ (k:Nat)(a0:lM)(a1:zD):Option (Int×jO):=
 (gF k a0.2.2.2.2.2.2.1 a0.2.2.2.2.2.2.2.1 a0.2.2.2.2.2.2.2.2.1 a0.2.2.2.2.2.2.2.2.2.1).bind fun x0=>cond (decide (a1.1=5)) ((qO0 k (vR a0 []) a1.2.1).bind fun x1=>cond (!x1) (some (1,(vR a0 [])))<|(vH k a1.2.2.1 (-1) 1152921504606846976).bind fun x2=>cond (!x2) (some (1,(vR a0 [])))<|cond (zB a0.2.2.2.2.2.2.2.2.2.2.2.2.2.2.2.2 x0.2.1.length) (cond (zB a1.2.1 (x0.2.1.getD a0.2.2.2.2.2.2.2.2.2.2.2.2.2.2.2.2.toNat []).length) (let y0:EQ:=(x0.2.1.set a0.2.2.2.2.2.2.2.2.2.2.2.2.2.2.2.2.toNat ((x0.2.1.getD a0.2.2.2.2.2.2.2.2.2.2.2.2.2.2.2.2.toNat []).set a1.2.1.toNat a1.2.2.1))
    some (0,(jH a0 (x0.1,y0,x0.2.2.1,x0.2.2.2,(qOc a0 []))))) none) none)<|cond (decide (a1.1=6)) ((vH k a1.2.1 (-1) 1152921504606846976).bind fun x3=>cond (!x3) (some (1,(vR a0 [])))<|cond (zB a0.2.2.2.2.2.2.2.2.2.2.2.2.2.2.2.2 x0.2.2.1.length) (let y1:AC:=(x0.2.2.1.set a0.2.2.2.2.2.2.2.2.2.2.2.2.2.2.2.2.toNat a1.2.1)
   some (0,(jH a0 (x0.1,x0.2.1,y1,x0.2.2.2,(qOc a0 []))))) none)<|(vH k a1.2.1 0 1152921504606846976).bind fun x4=>cond (!x4) (some (1,(vR a0 [])))<|cond (zB a0.2.2.2.2.2.2.2.2.2.2.2.2.2.2.2.2 x0.1.length) (let y2:List zJ:=(x0.1.set a0.2.2.2.2.2.2.2.2.2.2.2.2.2.2.2.2.toNat ((x0.1.getD a0.2.2.2.2.2.2.2.2.2.2.2.2.2.2.2.2.toNat (0,0,0)).1,(x0.1.getD a0.2.2.2.2.2.2.2.2.2.2.2.2.2.2.2.2.toNat (0,0,0)).2.1,a1.2.1))
  some (0,(jH a0 (y2,x0.2.1,x0.2.2.1,x0.2.2.2,(qOc a0 []))))) none
def vGn (k:Nat)(a0:lM)(a1 a2:Int):Option (Int×jO):=
 (Nz k (vR a0 []) a1).bind fun x0=>cond (!x0) (some (1,(vR a0 [])))<|(vH k a2 0 1099511627776).bind fun x1=>cond (!x1) (some (1,(vR a0 [])))<|(G4 k a0.2.2.2.2.2.2.2.2.2.2.2.1).bind fun x2=>cond (zB a0.2.2.2.2.2.2.2.2.2.2.2.2.2.2.2.2 x2.length) ((qu k (x2.getD a0.2.2.2.2.2.2.2.2.2.2.2.2.2.2.2.2.toNat []) a1 a2).bind fun x3=>cond (zB a0.2.2.2.2.2.2.2.2.2.2.2.2.2.2.2.2 x2.length) (let y0:EQ:=(x2.set a0.2.2.2.2.2.2.2.2.2.2.2.2.2.2.2.2.toNat x3)
   cond (zB a0.2.2.2.2.2.2.2.2.2.2.2.2.2.2.2.2 y0.length) ((mY k a0.2.1 a0.2.2.2.2.2.2.2.2.2.2.1 (y0.getD a0.2.2.2.2.2.2.2.2.2.2.2.2.2.2.2.2.toNat [])).bind fun x4=>cond (zB a0.2.2.2.2.2.2.2.2.2.2.2.2.2.2.2.2 a0.2.2.2.2.2.2.1.length) (cond (!x4.2) (some (8,(vR a0 [])))<|cond (decide (x4.1>1152921504606846976)) (some (8,(vR a0 [])))<|cond (decide (x4.1<(a0.2.2.2.2.2.2.1.getD a0.2.2.2.2.2.2.2.2.2.2.2.2.2.2.2.2.toNat (0,0,0)).2.1)) (cond (decide ((zA ((a0.2.2.2.2.2.2.1.getD a0.2.2.2.2.2.2.2.2.2.2.2.2.2.2.2.2.toNat (0,0,0)).1+x4.1))<0)) (some (9,(vR a0 [])))<|(gF k a0.2.2.2.2.2.2.1 a0.2.2.2.2.2.2.2.1 a0.2.2.2.2.2.2.2.2.1 a0.2.2.2.2.2.2.2.2.2.1).bind fun x5=>cond (zB a0.2.2.2.2.2.2.2.2.2.2.2.2.2.2.2.2 x5.1.length) (let y1:List zJ:=(x5.1.set a0.2.2.2.2.2.2.2.2.2.2.2.2.2.2.2.2.toNat ((x5.1.getD a0.2.2.2.2.2.2.2.2.2.2.2.2.2.2.2.2.toNat (0,0,0)).1,x4.1,(x5.1.getD a0.2.2.2.2.2.2.2.2.2.2.2.2.2.2.2.2.toNat (0,0,0)).2.2))
       some (0,(jH a0 (y1,x5.2.1,x5.2.2.1,x5.2.2.2,a0.2.2.2.2.2.2.2.2.2.2.1,y0,(yRw a0 []))))) none)<|(gF k a0.2.2.2.2.2.2.1 a0.2.2.2.2.2.2.2.1 a0.2.2.2.2.2.2.2.2.1 a0.2.2.2.2.2.2.2.2.2.1).bind fun x6=>cond (zB a0.2.2.2.2.2.2.2.2.2.2.2.2.2.2.2.2 x6.1.length) (let y2:List zJ:=(x6.1.set a0.2.2.2.2.2.2.2.2.2.2.2.2.2.2.2.2.toNat ((x6.1.getD a0.2.2.2.2.2.2.2.2.2.2.2.2.2.2.2.2.toNat (0,0,0)).1,x4.1,(x6.1.getD a0.2.2.2.2.2.2.2.2.2.2.2.2.2.2.2.2.toNat (0,0,0)).2.2))
      some (0,(jH a0 (y2,x6.2.1,x6.2.2.1,x6.2.2.2,a0.2.2.2.2.2.2.2.2.2.2.1,y0,(yRw a0 []))))) none) none) none) none) none
def HA (k:Nat)(a0:lM)(a1 a2 a3:Int):Option (Int×jO):=
 (vH k a2 0 (zA (a0.1-1))).bind fun x0=>cond (!x0) (some (1,(vR a0 [])))<|(vH k a3 1 1099511627776).bind fun x1=>cond (!x1) (some (1,(vR a0 [])))<|cond (zB a2 a0.2.2.2.2.2.2.1.length) ((HB k (a0.2.2.2.2.2.2.1.getD a2.toNat (0,0,0)) a3).bind fun x2=>cond (decide (a1=11)) ((HC k (a0.2.2.2.2.2.2.1.getD a2.toNat (0,0,0)) a3 3).bind fun x3=>(HD k (a0.2.2.2.2.2.2.1.getD a2.toNat (0,0,0)) 3).bind fun x4=>cond (decide (x4<a3)) (some (9,(vR a0 [])))<|cond (decide ((zA (a0.2.2.2.2.2.2.2.2.2.2.2.2.2.2.1-a3))<0)) (some (9,(vR a0 [])))<|cond (!(decide (x3.2=0))) (some (x3.2,(vR a0 [])))<|cond (decide ((zA (a0.2.2.2.2.2.2.2.2.2.2.2.2.2.2.1-a3))>1152921504606846976)) (some (8,(vR a0 [])))<|(gF k a0.2.2.2.2.2.2.1 a0.2.2.2.2.2.2.2.1 a0.2.2.2.2.2.2.2.2.1 a0.2.2.2.2.2.2.2.2.2.1).bind fun x5=>cond (zB a2 x5.1.length) (some (0,(jH a0 ((x5.1.set a2.toNat x3.1),x5.2.1,x5.2.2.1,x5.2.2.2,(I9 a0 ((zA (a0.2.2.2.2.2.2.2.2.2.2.2.2.2.2.1-a3)),a0.2.2.2.2.2.2.2.2.2.2.2.2.2.2.2.1,a0.2.2.2.2.2.2.2.2.2.2.2.2.2.2.2.2,[])))))) none)<|cond (!(decide (x2.2=0))) (some (x2.2,(vR a0 [])))<|cond (decide ((zA (a0.2.2.2.2.2.2.2.2.2.2.2.2.2.2.1+a3))>1152921504606846976)) (some (8,(vR a0 [])))<|(gF k a0.2.2.2.2.2.2.1 a0.2.2.2.2.2.2.2.1 a0.2.2.2.2.2.2.2.2.1 a0.2.2.2.2.2.2.2.2.2.1).bind fun x6=>cond (zB a2 x6.1.length) (some (0,(jH a0 ((x6.1.set a2.toNat x2.1),x6.2.1,x6.2.2.1,x6.2.2.2,(I9 a0 ((zA (a0.2.2.2.2.2.2.2.2.2.2.2.2.2.2.1+a3)),a0.2.2.2.2.2.2.2.2.2.2.2.2.2.2.2.1,a0.2.2.2.2.2.2.2.2.2.2.2.2.2.2.2.2,[])))))) none) none
abbrev qLr:Type:=(lM×AC×(List zJ)×EQ×AC×EQ)⊕(Int×lM)
abbrev qXl:Type:=EQ→Int→Int→lM→AC→List zJ→EQ→AC→EQ→Option qLr
def HF (k:Nat)(rec:qXl)(gQ:EQ)(jm lh:Int)(b0:lM)(r1:AC)(r3:List zJ)(m4:EQ)(r5:AC)(m6:EQ):Option qLr:=
 cond (decide (lh<jm)) (cond (zB lh gQ.length) ((mY k b0.2.1 r1 (gQ.getD lh.toNat [])).bind fun x4=>cond (!x4.2) (some (.inr (8,b0)))<|cond (decide (x4.1>1152921504606846976)) (some (.inr (8,b0)))<|cond (zB lh r3.length) (let y0:List zJ:=(r3.set lh.toNat ((r3.getD lh.toNat (0,0,0)).1,x4.1,(r3.getD lh.toNat (0,0,0)).2.2))
    rec gQ jm (zA (lh+1)) b0 r1 y0 m4 r5 m6) none) none)<|some (.inl (b0,r1,r3,m4,r5,m6))
def vg (k:Nat):Nat→qXl:=qW (fun _ _ _ _ _ _ _ _ _=>none) (HF k)
def Rg (k:Nat)(a0:lM)(a1 a2:Int):Option (Int×jO):=
 (Nz k (vR a0 []) a1).bind fun x0=>cond (!x0) (some (1,(vR a0 [])))<|(vH k a2 0 1048576).bind fun x1=>cond (!x1) (some (1,(vR a0 [])))<|(qu k a0.2.2.2.2.2.2.2.2.2.2.1 a1 a2).bind fun x2=>(gF k a0.2.2.2.2.2.2.1 a0.2.2.2.2.2.2.2.1 a0.2.2.2.2.2.2.2.2.1 a0.2.2.2.2.2.2.2.2.2.1).bind fun x3=>(vg k k a0.2.2.2.2.2.2.2.2.2.2.2.1 (a0.2.2.2.2.2.2.2.2.2.2.2.1.length:Int) 0 a0 x2 x3.1 x3.2.1 x3.2.2.1 x3.2.2.2).bind fun z=>match z with
 |.inl z1=>some (0,(jH z1.1 (Cx z1 (z1.2.1,(qQ4 z1.1 [])))))
 |.inr z2=>some (jR z2 [])
def ID (k:Nat)(a0:lM)(a1:zD):Option (Int×jO):=
 cond (decide (a1.1=1)) ((yTx k a0 a1.2).bind fun x0=>some (x0.1,x0.2))<|cond (decide (a1.1=2)) ((SP k a0 a1).bind fun x1=>some (x1.1,x1.2))<|cond (decide (a1.1=3)) ((SP k a0 a1).bind fun x2=>some (x2.1,x2.2))<|cond (decide (a1.1=4)) ((SP k a0 a1).bind fun x3=>some (x3.1,x3.2))<|cond (decide (a1.1=5)) ((SQ k a0 a1).bind fun x4=>some (x4.1,x4.2))<|cond (decide (a1.1=6)) ((SQ k a0 a1).bind fun x5=>some (x5.1,x5.2))<|cond (decide (a1.1=7)) ((SQ k a0 a1).bind fun x6=>some (x6.1,x6.2))<|cond (decide (a1.1=8)) ((vGn k a0 a1.2.1 a1.2.2.1).bind fun x7=>some (x7.1,x7.2))<|cond (decide (a1.1=10)) ((HA k a0 a1.1 a1.2.1 a1.2.2.1).bind fun x8=>some (x8.1,x8.2))<|cond (decide (a1.1=11)) ((HA k a0 a1.1 a1.2.1 a1.2.2.1).bind fun x9=>some (x9.1,x9.2))<|cond (decide (a1.1=12)) ((Rg k a0 a1.2.1 a1.2.2.1).bind fun bC=>some (bC.1,bC.2))<|some (0,(vR a0 []))
def IF (k:Nat)(a0:yA)(a1:qV)(a2:qJ):Option (qV×(List qJ)×Int):=
 (yk k a0 a1 a2).bind fun x0=>cond (!(decide (x0=0))) (some (a1,[],x0))<|cond (decide (a2.2.1=9)) ((RT k a1 a2.1).bind fun x1=>some (a1,x1,0))<|cond (!(decide (a2.1=(-1)))) ((RU k (vK a0 (vP a1 a2.1)) 15 []).bind fun x2=>(RP k x2 a2.2).bind fun x3=>cond (!(decide (x3.1=0))) (some (a1,[],x3.1))<|cond (decide (a2.2.1=14)) ((yh k a0.1 a0.2.1 a0.2.2.1 a0.2.2.2.1 a0.2.2.2.2 a1.1 a1.2.1 a1.2.2.1 a1.2.2.2.1 a1.2.2.2.2.1 a1.2.2.2.2.2.1 a1.2.2.2.2.2.2.1 a1.2.2.2.2.2.2.2.1 a1.2.2.2.2.2.2.2.2.1 a1.2.2.2.2.2.2.2.2.2.1 a1.2.2.2.2.2.2.2.2.2.2).bind fun x4=>some ((qO x4),x4.2.2.2.2.2.2.2.2.2.2.2,0))<|(uR k x3.2.2.2.2.2.2.1 x3.2.2.2.2.2.2.2.1 x3.2.2.2.2.2.2.2.2.1 x3.2.2.2.2.2.2.2.2.2.1 x3.2.2.2.2.2.2.2.2.2.2.1 x3.2.2.2.2.2.2.2.2.2.2.2.1 x3.2.2.2.2.2.2.2.2.2.2.2.2.1 x3.2.2.2.2.2.2.2.2.2.2.2.2.2.1 x3.2.2.2.2.2.2.2.2.2.2.2.2.2.2.1 x3.2.2.2.2.2.2.2.2.2.2.2.2.2.2.2.1 x3.2.2.2.2.2.2.2.2.2.2.2.2.2.2.2.2.1 (decide (a2.2.1=13))).bind fun x5=>cond (zM (x3.2.2.2.2.2.2.2.2.2.2.2.2.2.2.2.2.2.2.length+x5.2.2.2.2.2.2.2.2.2.2.2.length) 64) (let y0:List qJ:=(x3.2.2.2.2.2.2.2.2.2.2.2.2.2.2.2.2.2.2++x5.2.2.2.2.2.2.2.2.2.2.2)
   cond (decide (a2.2.1=1)) ((pt k x5.2.2.2.2.2.2.2.1 a2.2.2.1).bind fun x6=>cond (decide (x6≥0)) ((yj k (RR x3 y0) 19 [a2.2.2.1]).bind fun x7=>some ((qO x5),x7.2.2.2.2.2.2.2.2.2.2.2.2.2.2.2.2.2,0))<|some ((qO x5),y0,0))<|some ((qO x5),y0,0)) none)<|(ID k (vK a0 (vP a1 a2.1)) a2.2).bind fun x8=>cond (!(decide (x8.1=0))) (some (a1,[],x8.1))<|cond (decide (a2.2.1=14)) ((yh k a0.1 a0.2.1 a0.2.2.1 a0.2.2.2.1 a0.2.2.2.2 a1.1 a1.2.1 a1.2.2.1 a1.2.2.2.1 a1.2.2.2.2.1 a1.2.2.2.2.2.1 a1.2.2.2.2.2.2.1 a1.2.2.2.2.2.2.2.1 a1.2.2.2.2.2.2.2.2.1 a1.2.2.2.2.2.2.2.2.2.1 a1.2.2.2.2.2.2.2.2.2.2).bind fun x9=>some ((qO x9),x9.2.2.2.2.2.2.2.2.2.2.2,0))<|(uR k x8.2.2.2.2.2.2.1 x8.2.2.2.2.2.2.2.1 x8.2.2.2.2.2.2.2.2.1 x8.2.2.2.2.2.2.2.2.2.1 x8.2.2.2.2.2.2.2.2.2.2.1 x8.2.2.2.2.2.2.2.2.2.2.2.1 x8.2.2.2.2.2.2.2.2.2.2.2.2.1 x8.2.2.2.2.2.2.2.2.2.2.2.2.2.1 x8.2.2.2.2.2.2.2.2.2.2.2.2.2.2.1 x8.2.2.2.2.2.2.2.2.2.2.2.2.2.2.2.1 x8.2.2.2.2.2.2.2.2.2.2.2.2.2.2.2.2.1 (decide (a2.2.1=13))).bind fun bC=>cond (zM (x8.2.2.2.2.2.2.2.2.2.2.2.2.2.2.2.2.2.2.length+bC.2.2.2.2.2.2.2.2.2.2.2.length) 64) (let y1:List qJ:=(x8.2.2.2.2.2.2.2.2.2.2.2.2.2.2.2.2.2.2++bC.2.2.2.2.2.2.2.2.2.2.2)
  cond (decide (a2.2.1=1)) ((pt k bC.2.2.2.2.2.2.2.1 a2.2.2.1).bind fun dr=>cond (decide (dr≥0)) ((yj k (RR x8 y1) 19 [a2.2.2.1]).bind fun ik=>some ((qO bC),ik.2.2.2.2.2.2.2.2.2.2.2.2.2.2.2.2.2,0))<|some ((qO bC),y1,0))<|some ((qO bC),y1,0)) none
def ot (k:Nat)(aC:vS)(bE:wJ)(a1:AC):Option (Int×vS×wJ):=
 (yo k bE (zA (1-aC.1)) (zA (aC.2.1+1)) a1).bind fun x0=>cond (decide (x0.1=0)) (some (x0.1,((zA (1-aC.1)),(zA (aC.2.1+1)),0,false),x0.2))<|some (x0.1,aC,x0.2)
def yBu (k:Nat)(a0:Int):Option Bool:=
 (vH k a0 0 1048576).bind fun x0=>some (!x0)
def HZ (k:Nat)(rec:yDm)(s0:AC)(s7 s8:Int):Option (Unit⊕Int):=
 cond (decide (s8<s7)) (cond (zB s8 s0.length) ((yBu k (s0.getD s8.toNat 0)).bind fun x0=>cond x0 (some (.inr s8))<|rec s0 s7 (zA (s8+1))) none)<|some (.inl ())
def CK (k:Nat):Nat→yDm
 |0,_,_,_=>none
 |n+1,s0,s7,s8=>HZ k (CK k n) s0 s7 s8
def qZ3 (k:Nat)(a0:AC):Option Int:=
 (CK k k a0 (a0.length:Int) 0).bind fun z=>match z with
 |.inl z1=>some (-1)
 |.inr z2=>some z2
def MS (k:Nat)(a0:AC):Option Bool:=
 (qZ3 k a0).bind fun x0=>some (decide (x0≥0))
def qPk (k:Nat)(a0:Int):Option Bool:=
 some (decide (a0>1099511627776))
def H0 (k:Nat)(rec:yDm)(s0:AC)(s7 s8:Int):Option (Unit⊕Int):=
 cond (decide (s8<s7)) (cond (zB s8 s0.length) ((qPk k (s0.getD s8.toNat 0)).bind fun x0=>cond x0 (some (.inr s8))<|rec s0 s7 (zA (s8+1))) none)<|some (.inl ())
def CL (k:Nat):Nat→yDm
 |0,_,_,_=>none
 |n+1,s0,s7,s8=>H0 k (CL k n) s0 s7 s8
def qZh (k:Nat)(a0:AC):Option Int:=
 (CL k k a0 (a0.length:Int) 0).bind fun z=>match z with
 |.inl z1=>some (-1)
 |.inr z2=>some z2
def Rx (k:Nat)(a0:AC):Option Bool:=
 (qZh k a0).bind fun x0=>some (decide (x0≥0))
abbrev qQg:Type:=EQ→Int→Int→yA→qV→Option (Unit⊕Bool)
def H2 (k:Nat)(rec:qQg)(lP:EQ)(fM mE:Int)(b0:yA)(b1:qV):Option (Unit⊕Bool):=
 cond (decide (mE<fM)) (cond (zB mE lP.length) ((mY k b0.2.1 b1.2.2.2.2.2.1 (lP.getD mE.toNat [])).bind fun x1=>cond (!x1.2) (some (.inr false))<|cond (decide (x1.1>1152921504606846976)) (some (.inr false))<|cond (zB mE b1.2.1.length) (cond (!(decide (x1.1=(b1.2.1.getD mE.toNat (0,0,0)).2.1))) (some (.inr false))<|(Rx k (lP.getD mE.toNat [])).bind fun x2=>cond x2 (some (.inr false))<|rec lP fM (zA (mE+1)) b0 b1) none) none)<|some (.inl ())
def zn (k:Nat):Nat→qQg:=qW (fun _ _ _ _ _=>none) (H2 k)
def MU (k:Nat)(a0:yA)(a1:qV):Option Bool:=
 cond (!(decide ((a1.2.2.2.2.2.1.length:Int)=(a0.2.1.length:Int)))) (some false)<|cond (!(decide ((a1.2.2.2.2.2.2.1.length:Int)=a0.1))) (some false)<|(MS k a1.2.2.2.2.2.1).bind fun x0=>cond x0 (some false)<|(zn k k a1.2.2.2.2.2.2.1 (a1.2.2.2.2.2.2.1.length:Int) 0 a0 a1).bind fun z=>match z with
 |.inl z1=>some true
 |.inr z2=>some z2
abbrev yEi:Type:=List zD→Int→Option (Unit⊕Bool)
def Rv (k:Nat)(rec:yEi)(s0:List zD)(s5:Int):Option (Unit⊕Bool):=
 cond (decide (s5>0)) (cond (zB s5 s0.length) (cond (zB (zA (s5 - 1)) s0.length) ((F8 k (s0.getD s5.toNat (0,0,0,0,0,0,0)).1 (s0.getD s5.toNat (0,0,0,0,0,0,0)).2.1 (s0.getD s5.toNat (0,0,0,0,0,0,0)).2.2.1 (s0.getD s5.toNat (0,0,0,0,0,0,0)).2.2.2.1 (s0.getD s5.toNat (0,0,0,0,0,0,0)).2.2.2.2.1 (s0.getD s5.toNat (0,0,0,0,0,0,0)).2.2.2.2.2.1 (s0.getD s5.toNat (0,0,0,0,0,0,0)).2.2.2.2.2.2 (s0.getD (zA (s5-1)).toNat (0,0,0,0,0,0,0)).1 (s0.getD (zA (s5-1)).toNat (0,0,0,0,0,0,0)).2.1 (s0.getD (zA (s5-1)).toNat (0,0,0,0,0,0,0)).2.2.1 (s0.getD (zA (s5-1)).toNat (0,0,0,0,0,0,0)).2.2.2.1 (s0.getD (zA (s5-1)).toNat (0,0,0,0,0,0,0)).2.2.2.2.1 (s0.getD (zA (s5-1)).toNat (0,0,0,0,0,0,0)).2.2.2.2.2.1 (s0.getD (zA (s5-1)).toNat (0,0,0,0,0,0,0)).2.2.2.2.2.2).bind fun x0=>cond (decide (x0<0)) (some (.inr false))<|rec s0 (zA (s5-1))) none) none)<|some (.inl ())
def CH (k:Nat):Nat→yEi:=qW (fun _ _=>none) (Rv k)
def Ru (k:Nat)(a0:List zD):Option Bool:=
 (CH k k a0 (zA ((a0.length:Int)-1))).bind fun z=>match z with
 |.inl z1=>some true
 |.inr z2=>some z2
abbrev qO6:Type:=(List zD)⊕Bool
abbrev qPd:Type:=List zD→List zD→Int→Int→Option qO6
def HW (k:Nat)(rec:qPd)(s0 s5:List zD)(s6 s7:Int):Option qO6:=
 cond (decide (s7<s6)) (cond (zB s7 s5.length) ((pt k s0 (s5.getD s7.toNat (0,0,0,0,0,0,0)).1).bind fun x0=>cond (!(decide (x0=s7))) (some (.inr false))<|rec s0 s5 s6 (zA (s7+1))) none)<|some (.inl s0)
def CG (k:Nat):Nat→qPd
 |0,_,_,_,_=>none
 |n+1,s0,s5,s6,s7=>HW k (CG k n) s0 s5 s6 s7
def MO (k:Nat)(a0:List zD):Option Bool:=
 (CG k k a0 a0 (a0.length:Int) 0).bind fun z=>match z with
 | .inl z1=>cond (decide ((z1.length : Int)≤40)) ((Ru k z1).bind fun x1=>some x1)<|some false
 |.inr z2=>some z2
abbrev qRb:Type:=AC→Int→AC→Int→Int→Option (AC⊕Bool)
def HX (k:Nat)(rec:qRb)(s0:AC)(s3:Int)(s6:AC)(s7 s8:Int):Option (AC⊕Bool):=
 cond (decide (s8<s7)) (cond (zB s8 s6.length) (cond (decide ((s6.getD s8.toNat 0)≤s3)) (some (.inr false))<|rec s0 (s6.getD s8.toNat 0) s6 s7 (zA (s8+1))) none)<|some (.inl s0)
def CI (k:Nat):Nat→qRb:=qW (fun _ _ _ _ _=>none) (HX k)
def MP (k:Nat)(a0:AC):Option Bool:=
 (CI k k a0 0 a0 (a0.length:Int) 0).bind fun z=>match z with
 |.inl z1=>some (decide ((z1.length:Int)≤200))
 |.inr z2=>some z2
def Qx (k:Nat)(a0:AC)(a1:Int):Option Bool:=
 (Gh k a0 a1).bind fun x0=>some x0.2
def Rw (k:Nat)(a0:zD)(a1:qV):Option Bool:=
 (Fl k a1.2.1 a1.2.2.1 a1.2.2.2.1 a1.2.2.2.2.1 a0.1 a0.2.1 a0.2.2.1 a0.2.2.2.1 a0.2.2.2.2.1 a0.2.2.2.2.2.1 a0.2.2.2.2.2.2).bind fun x0=>cond (!x0) (some true)<|cond (decide (a0.2.2.2.2.2.1<0)) (some true)<|(vH k a0.2.2.2.2.2.2 a0.2.2.2.2.2.1 1048576).bind fun x1=>cond (!x1) (some true)<|(Qx k a1.2.2.2.2.2.2.2.2.1 a0.1).bind fun x2=>some (!x2)
abbrev yD0:Type:=List zD→Int→Int→Int→List zJ→EQ→AC→EQ→AC→EQ→List zD→AC→Int→Bool→Option (Unit⊕Int)
def HY (k:Nat)(rec:yD0)(s0:List zD)(s7 s8 af:Int)(ah:List zJ)(aj:EQ)(ag:AC)(ba:EQ)(bp:AC)(bq:EQ)(dX:List zD)(dY:AC)(dZ:Int)(bX:Bool):Option (Unit⊕Int):=
 cond (decide (s8<s7)) (cond (zB s8 s0.length) ((Rw k (s0.getD s8.toNat (0,0,0,0,0,0,0)) (af,ah,aj,ag,ba,bp,bq,dX,dY,dZ,bX)).bind fun x0=>cond x0 (some (.inr s8))<|rec s0 s7 (zA (s8+1)) af ah aj ag ba bp bq dX dY dZ bX) none)<|some (.inl ())
def CJ (k:Nat):Nat→yD0
 |0,_,_,_,_,_,_,_,_,_,_,_,_,_,_=>none
 |n+1,s0,s7,s8,af,ah,aj,ag,ba,bp,bq,dX,dY,dZ,bX=>HY k (CJ k n) s0 s7 s8 af ah aj ag ba bp bq dX dY dZ bX
def qOx (k:Nat)(a0:List zD)(gp:Int)(bS:List zJ)(cF:EQ)(cG:AC)(cH:EQ)(dJ:AC)(eK:EQ)(gq:List zD)(j0:AC)(eL:Int)(gu:Bool):Option Int:=
 (CJ k k a0 (a0.length:Int) 0 gp bS cF cG cH dJ eK gq j0 eL gu).bind fun z=>match z with
 |.inl z1=>some (-1)
 |.inr z2=>some z2
def MR (k:Nat)(a0:List zD)(gp:Int)(bS:List zJ)(cF:EQ)(cG:AC)(cH:EQ)(dJ:AC)(eK:EQ)(gq:List zD)(j0:AC)(eL:Int)(gu:Bool):Option Bool:=
 (qOx k a0 gp bS cF cG cH dJ eK gq j0 eL gu).bind fun x0=>some (decide (x0≥0))
def MQ (k:Nat)(a0:qV):Option Bool:=
 (MO k a0.2.2.2.2.2.2.2.1).bind fun x0=>cond x0 ((MP k a0.2.2.2.2.2.2.2.2.1).bind fun x1=>cond x1 ((MR k a0.2.2.2.2.2.2.2.1 a0.1 a0.2.1 a0.2.2.1 a0.2.2.2.1 a0.2.2.2.2.1 a0.2.2.2.2.2.1 a0.2.2.2.2.2.2.1 a0.2.2.2.2.2.2.2.1 a0.2.2.2.2.2.2.2.2.1 a0.2.2.2.2.2.2.2.2.2.1 a0.2.2.2.2.2.2.2.2.2.2).bind fun x2=>some (!x2))<|some false)<|some false
abbrev yAr:Type:=yA×qV×AC
abbrev qR9:Type:=List zJ→Int→Int→yA→qV→AC→Option yAr
def H5 (k:Nat)(rec:qR9)(oJ:List zJ)(s45 TC:Int)(b0:yA)(b1:qV)(r2:AC):Option yAr:=
 cond (decide (TC<s45)) (cond (zB TC oJ.length) (cond (zM (r2.length+1) 8) (rec oJ s45 (zA (TC+1)) b0 b1 (r2++[(oJ.getD TC.toNat (0,0,0)).1])) none) none)<|some (b0,b1,r2)
def H4 (k:Nat):Nat→qR9:=qW (fun _ _ _ _ _ _=>none) (H5 k)
def H3 (k:Nat)(a0:yA)(a1:qV):Option Bool:=
 (vH k a1.1 0 a0.2.2.2.1).bind fun x0=>cond (!x0) (some false)<|(Fe k a1.2.1 a1.2.2.1 a1.2.2.2.1 a1.2.2.2.2.1).bind fun x1=>cond (!x1) (some false)<|cond (!(decide ((a1.2.1.length:Int)=a0.1))) (some false)<|(MU k a0 a1).bind fun x2=>cond (!x2) (some false)<|(MQ k a1).bind fun x3=>cond (!x3) (some false)<|(H4 k k a1.2.1 (a1.2.1.length:Int) 0 a0 a1 []).bind fun z=>(Gk k z.2.2).bind fun x4=>cond (!x4.2) (some false)<|cond (!(decide (x4.1=z.2.1.2.2.2.2.2.2.2.2.2.1))) (some false)<|(vH k x4.1 0 1152921504606846976).bind fun x5=>cond (!x5) (some false)<|(Cg k z.1.1 z.1.2.1 z.1.2.2.1 z.1.2.2.2.1 z.1.2.2.2.2 z.2.1.1).bind fun x6=>cond (fP z.2.1.2.2.2.2.2.2.2.2.2.2 x6) (cond (!z.2.1.2.2.2.2.2.2.2.2.2.2) (some true)<|some (decide ((z.2.1.2.2.2.2.2.2.2.1.length:Int)=0)))<|some false
abbrev qXg:Type:=Int×Bool×Ds×AC×AC×yA×vS×qV
abbrev qM9:Type:=Int→Bool→EQ→Int→Int→Ds→AC→AC→yA→vS→qV→Option qXg
def II (k:Nat)(rec:qM9)(s2:Int)(cL:Bool)(TD:EQ)(s73 NY:Int)(b0:Ds)(r1 r2:AC)(b3:yA)(b4:vS)(b5:qV):Option qXg:=
 cond (decide (NY<s73)) (cond (zB NY TD.length) ((RX k (TD.getD NY.toNat [])).bind fun x8=>cond (decide (x8.2=0)) ((IF k b3 b5 x8.1).bind fun x9=>rec s2 cL TD s73 (zA (NY+1)) b0 r1 r2 b3 b4 x9.1)<|rec s2 cL TD s73 (zA (NY+1)) b0 r1 r2 b3 b4 b5) none)<|some (s2,cL,b0,r1,r2,b3,b4,b5)
def tq (k:Nat):Nat→qM9:=qW (fun _ _ _ _ _ _ _ _ _ _ _=>none) (II k)
def ja (k:Nat)(a0:yA)(a1:wJ)(a2:Int):Option ((Int×wJ×gP×vS)⊕(Int×wJ)):=
 (qS3 k a0).bind fun x0=>cond (!x0) (some (.inr (1,a1)))<|cond (decide (a2<1)) (some (.inr (1,a1)))<|cond (decide (a2>1000)) (some (.inr (1,a1)))<|(Ms k a1).bind fun x1=>(zx k a0).bind fun x2=>(lD k x2).bind fun x3=>(qYg k a1 x3).bind fun x4=>match x4 with
 |.inl x5=>cond (!(decide (x5.2.2.1=0))) (some (.inr (x5.2.2.1,x5.2.2.2.1)))<|(Hy k x5.1).bind fun x6=>cond (!x6.2) ((zx k a0).bind fun x7=>(tq k k a2 x1.2.2.2.2 x5.2.1 (x5.2.1.length:Int) 0 (x5.2.2.2.1.1,x5.2.2.2.1.2.2.1,x5.2.2.2.1.2.2.2.2) x5.2.2.2.1.2.1 x5.2.2.2.1.2.2.2.1 a0 x5.2.2.2.2 x7).bind fun z=>cond z.2.1 ((lD k z.2.2.2.2.2.2.2).bind fun bC=>(ot k z.2.2.2.2.2.2.1 (z.2.2.1.1,z.2.2.2.1,z.2.2.1.2.1,z.2.2.2.2.1,z.2.2.1.2.2) bC).bind fun dr=>cond (!(decide (dr.1=0))) (some (.inr (dr.1,dr.2.2)))<|some (.inl (0,dr.2.2,(vK z.2.2.2.2.2.1 (lF z (z.1,false))),dr.2.1)))<|some (.inl (0,(z.2.2.1.1,z.2.2.2.1,z.2.2.1.2.1,z.2.2.2.2.1,z.2.2.1.2.2),(vK z.2.2.2.2.2.1 (lF z (z.1,false))),z.2.2.2.2.2.2.1)))<|(H3 k a0 x6.1).bind fun ik=>cond (!ik) ((zx k a0).bind fun oF=>(tq k k a2 x1.2.2.2.2 x5.2.1 (x5.2.1.length:Int) 0 (x5.2.2.2.1.1,x5.2.2.2.1.2.2.1,x5.2.2.2.1.2.2.2.2) x5.2.2.2.1.2.1 x5.2.2.2.1.2.2.2.1 a0 x5.2.2.2.2 oF).bind fun z1=>cond z1.2.1 ((lD k z1.2.2.2.2.2.2.2).bind fun oG=>(ot k z1.2.2.2.2.2.2.1 (z1.2.2.1.1,z1.2.2.2.1,z1.2.2.1.2.1,z1.2.2.2.2.1,z1.2.2.1.2.2) oG).bind fun bD=>cond (!(decide (bD.1=0))) (some (.inr (bD.1,bD.2.2)))<|some (.inl (0,bD.2.2,(vK z1.2.2.2.2.2.1 (lF z1 (z1.1,false))),bD.2.1)))<|some (.inl (0,(z1.2.2.1.1,z1.2.2.2.1,z1.2.2.1.2.1,z1.2.2.2.2.1,z1.2.2.1.2.2),(vK z1.2.2.2.2.2.1 (lF z1 (z1.1,false))),z1.2.2.2.2.2.2.1)))<|(tq k k a2 x1.2.2.2.2 x5.2.1 (x5.2.1.length:Int) 0 (x5.2.2.2.1.1,x5.2.2.2.1.2.2.1,x5.2.2.2.1.2.2.2.2) x5.2.2.2.1.2.1 x5.2.2.2.1.2.2.2.1 a0 x5.2.2.2.2 x6.1).bind fun z2=>cond z2.2.1 ((lD k z2.2.2.2.2.2.2.2).bind fun ee=>(ot k z2.2.2.2.2.2.2.1 (z2.2.2.1.1,z2.2.2.2.1,z2.2.2.1.2.1,z2.2.2.2.2.1,z2.2.2.1.2.2) ee).bind fun cq=>cond (!(decide (cq.1=0))) (some (.inr (cq.1,cq.2.2)))<|some (.inl (0,cq.2.2,(vK z2.2.2.2.2.2.1 (lF z2 (z2.1,false))),cq.2.1)))<|some (.inl (0,(z2.2.2.1.1,z2.2.2.2.1,z2.2.2.1.2.1,z2.2.2.2.2.1,z2.2.2.1.2.2),(vK z2.2.2.2.2.2.1 (lF z2 (z2.1,false))),z2.2.2.2.2.2.2.1))
 |.inr dt=>cond (!(decide (dt.2.2.1=0))) (some (.inr (dt.2.2.1,dt.2.2.2)))<|(Hy k dt.1).bind fun kl=>cond (!kl.2) ((zx k a0).bind fun lL=>none)<|(H3 k a0 kl.1).bind fun pI=>cond (!pI) ((zx k a0).bind fun nA=>none) none
def I4 (k:Nat)(a0 a1 a2:Int):Option Bool:=
 cond (decide (a0≥a1)) (some (decide (a0≤a2)))<|some false
abbrev qWl:Type:=yA⊕Bool
abbrev qSl:Type:=Int→yA→Option qWl
def yK6 (k:Nat)(rec:qSl)(s3:Int)(b0:yA):Option qWl:=
 cond (decide (s3<b0.2.1.length)) (cond (zB s3 b0.2.1.length) ((I4 k (b0.2.1.getD s3.toNat (0,0)).1 0 1048576).bind fun x0=>cond (!x0) (some (.inr false))<|cond (zB s3 b0.2.1.length) ((I4 k (b0.2.1.getD s3.toNat (0,0)).2 0 10000).bind fun x1=>cond (!x1) (some (.inr false))<|rec (zA (s3+1)) b0) none) none)<|some (.inl b0)
def qXa (k:Nat):Nat→qSl:=qW (fun _ _=>none) (yK6 k)
def qYx (k:Nat)(a0:yA):Option Bool:=
 cond (decide (a0.1<1)) (some false)<|cond (decide (a0.1>6)) (some false)<|cond (decide ((a0.2.1.length:Int)>3)) (some false)<|(qXa k k 0 a0).bind fun z=>match z with
 |.inl z1=>(I4 k z1.2.2.2.1 1 1048576).bind fun x2=>cond x2 ((I4 k z1.2.2.1 0 z1.2.2.2.1).bind fun x3=>cond x3 ((I4 k z1.2.2.2.2 1 1048576).bind fun x4=>some x4)<|some false)<|some false
 |.inr z2=>some z2
def qTk (k:Nat)(a0:jG)(a1:Int):Option AC:=
 cond (decide (a1<0)) (some [])<|cond (decide (a1>1)) (some [])<|cond (decide (a1=0)) (cond (zM (0+a0.1.length) 1) (some a0.1) none)<|cond (decide (a1=1)) (cond (zM (0+a0.2.1.length) 1) (some a0.2.1) none) none
def Ra (k:Nat)(rec:qN6)(s0:AC)(r0:EQ):Option yC7:=
 cond (decide ((s0.length : Int)≥2)) (cond (zB 0 s0.length) (cond (zB 1 s0.length) (cond (decide ((zA ((zA ((zA ((s0.getD 0 0)))*256))+(zA ((s0.getD 1 0)))))>60000)) (some (s0,r0))<|cond (decide ((zA ((zA ((zA ((s0.getD 0 0)))*256))+(zA ((s0.getD 1 0)))))>(zA ((s0.length:Int)-2)))) (some (s0,r0))<|cond ((decide (2≤(zA (2+(zA ((zA ((zA ((s0.getD 0 0))) * 256))+(zA ((s0.getD 1 0)))))))))&&(decide ((zA (2+(zA ((zA ((zA ((s0.getD 0 0))) * 256))+(zA ((s0.getD 1 0)))))))≤(s0.length : Int)))) (cond (zM (0+(qM s0 2 ((zA (2+(zA ((zA ((zA ((s0.getD 0 0))) * 256))+(zA ((s0.getD 1 0))))))).toNat - 2)).length) 1) (let y0:AC:=(qM s0 2 ((zA (2+(zA ((zA ((zA ((s0.getD 0 0)))*256))+(zA ((s0.getD 1 0))))))).toNat-2))
      cond (zM (r0.length+1) 24) (cond ((decide (0≤(zA (2+(zA ((zA ((zA ((s0.getD 0 0)))*256))+(zA ((s0.getD 1 0)))))))))&&(decide ((zA (2+(zA ((zA ((zA ((s0.getD 0 0)))*256))+(zA ((s0.getD 1 0)))))))≤(s0.length:Int)))) (rec (List.drop (zA (2+(zA ((zA ((zA ((s0.getD 0 0)))*256))+(zA ((s0.getD 1 0))))))).toNat s0) (r0++[y0])) none) none) none) none) none) none)<|some (s0,r0)
def Mq (k:Nat):Nat→qN6:=qW (fun _ _=>none) (Ra k)
def qRm (k:Nat)(a0:AC):Option (EQ×Int):=
 (Mq k k a0 []).bind fun z=>some (z.2,(z.1.length:Int))
def Px (k:Nat)(rec:AC→Int→Int→Option Int)(s0:AC)(s3 s4:Int):Option Int:=
 cond (decide (s4<8)) (cond (zB s4 s0.length) (rec s0 (wR .u64 (shl .u64 s3 8) (IntKind.wrap .u64 ((s0.getD s4.toNat 0)))) (zA (s4+1))) none)<|some s3
def KB (k:Nat):Nat→AC→Int→Int→Option Int:=qW (fun _ _ _=>none) (Px k)
def KA (k:Nat)(a0:AC):Option Int:=
 (KB k k a0 0 0).bind fun z=>some (zA (z))
abbrev qR0:Type:=AC→Int→AC→Option AC
def EO (k:Nat)(rec:qR0)(s0:AC)(s5:Int)(r0:AC):Option AC:=
 cond (decide (s5<s0.length)) (cond (((decide (0≤s5))&&(decide (s5≤(zA (s5+8)))))&&(decide ((zA (s5+8))≤s0.length))) ((KA k (qM s0 s5.toNat ((zA (s5+8)).toNat-s5.toNat))).bind fun x0=>cond (zM (r0.length+1) 8) (rec s0 (zA (s5+8)) (r0++[x0])) none) none)<|some r0
def BL (k:Nat):Nat→qR0:=qW (fun _ _ _=>none) (EO k)
def xF (k:Nat)(a0:AC):Option (AC×Int):=
 cond (!(decide ((Int.tmod (a0.length:Int) 8)=0))) (some ([],2))<|(BL k k a0 0 []).bind fun z=>some (z,0)
def Mr (k:Nat)(a0:jG)(a1:Int):Option (Int×AC×EQ×Bool):=
 (qTk k a0 a1).bind fun x0=>(qRm k x0).bind fun x1=>cond (decide ((x1.1.length:Int)=0)) (some (0,[],[],false))<|cond (zB 0 x1.1.length) (cond (decide (((x1.1.getD 0 []).length:Int)<8)) (some (0,[],[],false))<|cond (zB 0 x1.1.length) (cond (decide (8≤((x1.1.getD 0 []).length : Int))) ((xF k (List.take 8 (x1.1.getD 0 []))).bind fun x2=>cond (zB 0 x2.1.length) (cond (decide ((x2.1.getD 0 0)<1)) (some (0,[],[],false))<|cond (zB 0 x2.1.length) (cond (decide ((x2.1.getD 0 0)>4611686018427387904)) (some (0,[],[],false))<|cond (zB 0 x2.1.length) (cond (zB 0 x1.1.length) (cond (decide (8≤((x1.1.getD 0 []).length : Int))) (cond (decide (1≤(x1.1.length:Int))) (some ((x2.1.getD 0 0),(List.drop 8 (x1.1.getD 0 [])),(qM x1.1 1 (x1.1.length-1)),true)) none) none) none) none) none) none) none) none) none
def Mt (k:Nat)(a0:jG):Option (Int×Int×AC×EQ×Bool):=
 (Mr k a0 0).bind fun x0=>(Mr k a0 1).bind fun x1=>cond x1.2.2.2 (cond (!x0.2.2.2) (some (x1.1,1,x1.2.1,x1.2.2.1,true))<|cond (decide (x1.1>x0.1)) (some (x1.1,1,x1.2.1,x1.2.2.1,true))<|some (x0.1,0,x0.2.1,x0.2.2.1,x0.2.2.2))<|some (x0.1,0,x0.2.1,x0.2.2.1,x0.2.2.2)
def yGr (k:Nat)(rec:qVd)(s0 s1 s6:Int)(r0:AC):Option AC:=
 cond (decide (s6<s0)) (cond (zB s6 r0.length) (rec s0 s1 (zA (s6+1)) (r0.set s6.toNat s1)) none)<|some r0
def SW (k:Nat):Nat→qVd
 |0,_,_,_,_=>none
 |n+1,s0,s1,s6,r0=>yGr k (SW k n) s0 s1 s6 r0
def qSn (k:Nat)(a0 a1:Int):Option AC:=
 cond (decide (a0<0)) (some [])<|cond (decide (a0>6)) (some [])<|cond (oZ a0 a0 8) ((SW k k a0 a1 0 (List.replicate a0.toNat (0:Int))).bind fun z=>some z) none
abbrev qUx:Type:=Int→Int→Int→EQ→Option EQ
def yR2 (k:Nat)(rec:qUx)(s0 s1 s6:Int)(m0:EQ):Option EQ:=
 cond (decide (s6<s0)) ((qSn k s0 s1).bind fun x0=>cond (zM (m0.length+1) 24) (rec s0 s1 (zA (s6+1)) (m0++[x0])) none)<|some m0
def SX (k:Nat):Nat→qUx
 |0,_,_,_,_=>none
 |n+1,s0,s1,s6,m0=>yR2 k (SX k n) s0 s1 s6 m0
def qVw (k:Nat)(a0 a1:Int):Option EQ:=
 cond (decide (a0<0)) (some [])<|cond (decide (a0>6)) (some [])<|(SX k k a0 a1 0 []).bind fun z=>some z
abbrev qWr:Type:=Int→Int→yA→yQ→yQ→List zJ→EQ→AC→EQ→AC→Option qY3
def vJd (k:Nat)(rec:qWr)(s3 s5:Int)(b0:yA)(b1 b2:yQ)(r3:List zJ)(m4:EQ)(r5:AC)(m6:EQ)(r7:AC):Option qY3:=
 cond (decide (s5<b0.2.1.length)) (cond (zB s5 b0.2.1.length) (cond (zM (r7.length+1) 8) (rec s3 (zA (s5+1)) b0 b1 b2 r3 m4 r5 m6 (r7++[(b0.2.1.getD s5.toNat (0,0)).1])) none) none)<|some (s3,b0,b1,b2,r3,m4,r5,m6,r7)
def yEr (k:Nat):Nat→qWr:=qW (fun _ _ _ _ _ _ _ _ _ _=>none) (vJd k)
def yIu (k:Nat)(rec:qPa)(s3 s6:Int)(b0:yA)(b1 b2:yQ)(r3:List zJ)(m4:EQ)(r5:AC)(m6:EQ)(r7:AC)(m8:EQ):Option qVr:=
 cond (decide (s6<s3)) (cond (oZ (b0.2.1.length : Int) (b0.2.1.length : Int) 8) (cond (zM (m8.length+1) 24) (rec s3 (zA (s6+1)) b0 b1 b2 r3 m4 r5 m6 r7 (m8++[(List.replicate b0.2.1.length (0:Int))])) none) none)<|some (b1,b2,r3,m4,r5,m6,r7,m8)
def yEx (k:Nat):Nat→qPa:=qW (fun _ _ _ _ _ _ _ _ _ _ _=>none) (yIu k)
def C4 (k:Nat)(a0:yA):Option qV:=
 cond (oZ a0.1 a0.1 24) ((qVw k a0.1 (-1)).bind fun x0=>(qSn k a0.1 (-1)).bind fun x1=>(qVw k a0.1 0).bind fun x2=>(yEr k k a0.1 0 a0 (0,0,false) (0,0,false) (List.replicate a0.1.toNat ((0,0,0):Int×Int×Int)) x0 x1 x2 []).bind fun z=>(yEx k k z.1 0 z.2.1 z.2.2.1 z.2.2.2.1 z.2.2.2.2.1 z.2.2.2.2.2.1 z.2.2.2.2.2.2.1 z.2.2.2.2.2.2.2.1 z.2.2.2.2.2.2.2.2 []).bind fun z1=>some (z1.2.1.1,(yQ6 z1 ([],[],z1.2.1.2)))) none
abbrev qSa:Type:=AC→Int→Int→AC→Option qSc
def Q0 (k:Nat)(rec:qSa)(s0:AC)(s4 s5:Int)(r0:AC):Option qSc:=
 cond (decide (s5≥0)) (cond (zB s4 s0.length) (cond (!(decide ((IntKind.wrap .u64 (s5))<0))) (cond (zM (r0.length+1) 1) (rec s0 s4 (zA (s5-8)) (r0++[(IntKind.wrap .u8 ((shr .u64 (IntKind.wrap .u64 ((s0.getD s4.toNat 0))) (IntKind.wrap .u64 (s5)))))])) none) none) none)<|some (s0,s4,r0)
def Mi (k:Nat):Nat→qSa:=qW (fun _ _ _ _=>none) (Q0 k)
def G6 (k:Nat)(rec:qR0)(s0:AC)(s4:Int)(r0:AC):Option AC:=
 cond (decide (s4<s0.length)) ((Mi k k s0 s4 56 r0).bind fun z=>rec z.1 (zA (z.2.1+1)) z.2.2)<|some r0
def Cm (k:Nat):Nat→qR0:=qW (fun _ _ _=>none) (G6 k)
def yl (k:Nat)(a0:AC):Option AC:=
 (Cm k k a0 0 []).bind fun z1=>some z1
def ki (k:Nat)(a0:AC):Option AC:=
 (yl k [(a0.length:Int)]).bind fun x0=>(yl k a0).bind fun x1=>cond (zM (x0.length+x1.length) 1) (some (x0++x1)) none
abbrev qSu:Type:=EQ→Int→AC→Option AC
def G8 (k:Nat)(rec:qSu)(s0:EQ)(s4:Int)(r0:AC):Option AC:=
 cond (decide (s4<s0.length)) (cond (zB s4 s0.length) ((ki k (s0.getD s4.toNat [])).bind fun x0=>cond (zM (r0.length+x0.length) 1) (rec s0 (zA (s4+1)) (r0++x0)) none) none)<|some r0
def G7 (k:Nat):Nat→qSu:=qW (fun _ _ _=>none) (G8 k)
def pB (k:Nat)(a0:EQ):Option AC:=
 (G7 k k a0 0 []).bind fun z=>some z
abbrev qPw:Type:=qV×AH×AC
abbrev qN9:Type:=Int→qV→AH→AC→Option qPw
def G9 (k:Nat)(rec:qN9)(s6:Int)(b0:qV)(b1:AH)(r2:AC):Option qPw:=
 cond (decide (s6<b1.1.length)) (cond (zB s6 b1.1.length) (cond (zB s6 b1.1.length) (cond (zB s6 b1.1.length) ((ki k [(b1.1.getD s6.toNat (0,0,0)).1,(b1.1.getD s6.toNat (0,0,0)).2.1,(b1.1.getD s6.toNat (0,0,0)).2.2]).bind fun x1=>cond (zM (r2.length+x1.length) 1) (rec (zA (s6+1)) b0 b1 (r2++x1)) none) none) none) none)<|some (b0,b1,r2)
def uU (k:Nat):Nat→qN9:=qW (fun _ _ _ _=>none) (G9 k)
abbrev qMv:Type:=qV×AC
abbrev qNm:Type:=Int→qV→AC→Option qMv
def Ha (k:Nat)(rec:qNm)(s7:Int)(b0:qV)(r1:AC):Option qMv:=
 cond (decide (s7<b0.2.2.2.2.2.2.2.1.length)) (cond (zB s7 b0.2.2.2.2.2.2.2.1.length) ((ki k [(b0.2.2.2.2.2.2.2.1.getD s7.toNat (0,0,0,0,0,0,0)).1,(b0.2.2.2.2.2.2.2.1.getD s7.toNat (0,0,0,0,0,0,0)).2.1,(b0.2.2.2.2.2.2.2.1.getD s7.toNat (0,0,0,0,0,0,0)).2.2.1,(b0.2.2.2.2.2.2.2.1.getD s7.toNat (0,0,0,0,0,0,0)).2.2.2.1,(b0.2.2.2.2.2.2.2.1.getD s7.toNat (0,0,0,0,0,0,0)).2.2.2.2.1,(b0.2.2.2.2.2.2.2.1.getD s7.toNat (0,0,0,0,0,0,0)).2.2.2.2.2.1,(b0.2.2.2.2.2.2.2.1.getD s7.toNat (0,0,0,0,0,0,0)).2.2.2.2.2.2]).bind fun x7=>cond (zM (r1.length+x7.length) 1) (rec (zA (s7+1)) b0 (r1++x7)) none) none)<|some (b0,r1)
def uV (k:Nat):Nat→qNm:=qW (fun _ _ _=>none) (Ha k)
def oq (k:Nat)(a0:qV):Option AC:=
 cond a0.2.2.2.2.2.2.2.2.2.2 ((ki k [a0.1,a0.2.2.2.2.2.2.2.2.2.1,1,(a0.2.1.length:Int),(a0.2.2.1.length:Int),(a0.2.2.2.1.length:Int),(a0.2.2.2.2.1.length:Int),(a0.2.2.2.2.2.2.1.length:Int),(a0.2.2.2.2.2.2.2.1.length:Int)]).bind fun x0=>(uU k k 0 a0 (zz a0) x0).bind fun z=>(pB k z.2.1.2.1).bind fun x2=>cond (zM (z.2.2.length+x2.length) 1) ((ki k z.2.1.2.2.1).bind fun x3=>cond (zM ((z.2.2++x2).length+x3.length) 1) ((pB k z.2.1.2.2.2).bind fun x4=>cond (zM (((z.2.2++x2)++x3).length+x4.length) 1) ((ki k z.1.2.2.2.2.2.1).bind fun x5=>cond (zM ((((z.2.2++x2)++x3)++x4).length+x5.length) 1) ((pB k z.1.2.2.2.2.2.2.1).bind fun x6=>cond (zM (((((z.2.2++x2)++x3)++x4)++x5).length+x6.length) 1) ((uV k k 0 z.1 (((((z.2.2++x2)++x3)++x4)++x5)++x6)).bind fun z1=>(ki k z1.1.2.2.2.2.2.2.2.2.1).bind fun x8=>cond (zM (z1.2.length+x8.length) 1) (some (z1.2++x8)) none) none) none) none) none) none)<|(ki k [a0.1,a0.2.2.2.2.2.2.2.2.2.1,0,(a0.2.1.length:Int),(a0.2.2.1.length:Int),(a0.2.2.2.1.length:Int),(a0.2.2.2.2.1.length:Int),(a0.2.2.2.2.2.2.1.length:Int),(a0.2.2.2.2.2.2.2.1.length:Int)]).bind fun x9=>(uU k k 0 a0 (zz a0) x9).bind fun z2=>(pB k z2.2.1.2.1).bind fun bC=>cond (zM (z2.2.2.length+bC.length) 1) ((ki k z2.2.1.2.2.1).bind fun dr=>cond (zM ((z2.2.2++bC).length+dr.length) 1) ((pB k z2.2.1.2.2.2).bind fun ik=>cond (zM (((z2.2.2++bC)++dr).length+ik.length) 1) ((ki k z2.1.2.2.2.2.2.1).bind fun oF=>cond (zM ((((z2.2.2++bC)++dr)++ik).length+oF.length) 1) ((pB k z2.1.2.2.2.2.2.2.1).bind fun oG=>cond (zM (((((z2.2.2++bC)++dr)++ik)++oF).length+oG.length) 1) ((uV k k 0 z2.1 (((((z2.2.2++bC)++dr)++ik)++oF)++oG)).bind fun z3=>(ki k z3.1.2.2.2.2.2.2.2.2.1).bind fun bD=>cond (zM (z3.2.length+bD.length) 1) (some (z3.2++bD)) none) none) none) none) none) none
def Mk (k:Nat)(a0:AC):Option wW:=
 cond (decide ((a0.length:Int)>60000)) (some ([],false))<|cond (zM (2+a0.length) 1) (let y0:AC:=([(IntKind.wrap .u8 ((zA (Int.tdiv (a0.length:Int) 256)))),(IntKind.wrap .u8 ((Int.tmod (a0.length:Int) 256)))]++a0)
  some (y0,true)) none
def qZ5 (k:Nat)(a0:jG):Option Int:=
 some a0.2.2.2.2.1
def qOq (k:Nat)(a0:jG)(a1:Int):Option (Int×jG):=
 cond a0.2.2.2.2.2.2.2.2.2 (some (11,a0))<|cond (decide (a1<0)) (some (1,a0))<|cond (decide (a1>1)) (some (1,a0))<|(uW k a0).bind fun x0=>cond x0.1 (some (11,x0.2))<|cond (decide (a1=0)) (cond (decide (a1=0)) (some (0,[],x0.2.2.1,0,x0.2.2.2.2))<|cond (decide (a1=1)) (some (0,[],x0.2.2.1,x0.2.2.2.1,0,x0.2.2.2.2.2)) none)<|cond (decide (a1=1)) (cond (decide (a1=0)) (some (0,x0.2.1,[],0,x0.2.2.2.2))<|cond (decide (a1=1)) (some (0,x0.2.1,[],x0.2.2.2.1,0,x0.2.2.2.2.2)) none) none
def Hd (k:Nat)(a0:jG)(a1 a2:Int)(a3:AC):Option (Int×jG):=
 (yl k [a1]).bind fun x0=>cond (zM (x0.length+a3.length) 1) ((Mk k (x0++a3)).bind fun x1=>cond (!x1.2) (some (10,a0))<|(qZ5 k a0).bind fun x2=>cond (decide (x1.1.length>x2)) (some (10,a0))<|cond (decide (a1>4611686018427387904)) (some (10,a0))<|(qOq k a0 a2).bind fun x3=>cond (decide (x3.1=0)) ((ym k x3.2 a2 x1.1).bind fun x4=>cond (decide (x4.1=0)) ((yn k x4.2).bind fun x5=>some (x5.1,x5.2))<|some (x4.1,x4.2))<|cond (decide (x3.1=0)) ((yn k x3.2).bind fun x6=>some (x6.1,x6.2))<|some (x3.1,x3.2)) none
def qWj (k:Nat)(a0:jG)(a1:AC):Option ((AC×EQ×Int×jG×vS)⊕(AC×EQ×Int×jG)):=
 (Mt k a0).bind fun x0=>cond x0.2.2.2.2 (some (.inl (x0.2.2.1,x0.2.2.2.1,0,a0,x0.1,x0.2.1,(x0.2.2.2.1.length:Int),true)))<|(Hd k a0 1 0 a1).bind fun x1=>cond (!(decide (x1.1=0))) (some (.inr ([],[],x1.1,x1.2)))<|cond (zM (0+a1.length) 1) (some (.inl (a1,[],0,x1.2,1,0,0,false))) none
def Q5 (k:Nat)(a0:AC):Option (AC×AC×Bool):=
 cond (decide ((a0.length:Int)<8)) (some ([],[],false))<|cond (decide (8≤(a0.length : Int))) ((KA k (List.take 8 a0)).bind fun x0=>cond (decide (x0<0)) (some ([],[],false))<|cond (decide (x0>(zA (Int.tdiv (zA ((a0.length:Int)-8)) 8)))) (some ([],[],false))<|cond ((decide (8≤(zA (8+(zA (8 * x0))))))&&(decide ((zA (8+(zA (8 * x0))))≤(a0.length : Int)))) ((xF k (qM a0 8 ((zA (8+(zA (8*x0)))).toNat-8))).bind fun x1=>cond ((decide (0≤(zA (8+(zA (8*x0))))))&&(decide ((zA (8+(zA (8*x0))))≤(a0.length:Int)))) (some (x1.1,(List.drop (zA (8+(zA (8*x0)))).toNat a0),true)) none) none) none
def yt (k:Nat)(a0:wW):Option (AC×wW):=
 (Q5 k a0.1).bind fun x0=>cond a0.2 (some (x0.1,x0.2))<|some (x0.1,x0.2.1,false)
def uY (k:Nat)(a0:wW)(a1:Int):Option (AC×wW):=
 (yt k a0).bind fun x0=>cond (!(decide ((x0.1.length : Int)=a1))) (cond (oZ a1 a1 8) (some ((List.replicate a1.toNat (0:Int)),x0.2.1,false)) none)<|some (x0.1,x0.2)
abbrev qZ6:Type:=Int→Int→wW→EQ→Option qT4
def Hs (k:Nat)(rec:qZ6)(s1 s6:Int)(b0:wW)(r1:EQ):Option qT4:=
 cond (decide (s6<s1)) (cond b0.2 ((yt k b0).bind fun x0=>cond (zM (r1.length+1) 24) (rec s1 (zA (s6+1)) x0.2 (r1++[x0.1])) none)<|some (b0,r1))<|some (b0,r1)
def Hr (k:Nat):Nat→qZ6:=qW (fun _ _ _ _=>none) (Hs k)
def Hn (k:Nat)(a0:wW)(a1:Int):Option (EQ×wW):=
 (Hr k k a1 0 a0 []).bind fun z=>some (z.2,z.1)
def Hu (k:Nat)(rec:yAp)(s0:AC)(s7:Int)(b0:yQ)(b1:wW)(r2:AC)(b3:yQ)(r4:List zJ):Option yEh:=
 cond (zB 3 r2.length) (cond (decide (s7<(r2.getD 3 0))) (cond b1.2 ((uY k b1 3).bind fun x1=>cond (zB 0 x1.1.length) (cond (zB 1 x1.1.length) (cond (zB 2 x1.1.length) (cond (zM (r4.length+1) 24) (let y0:List zJ:=(r4++[((x1.1.getD 0 0),(x1.1.getD 1 0),(x1.1.getD 2 0))])
        rec s0 (zA (s7+1)) b0 x1.2 r2 b3 y0) none) none) none) none)<|some (s0,b0,b1,r2,b3,r4))<|some (s0,b0,b1,r2,b3,r4)) none
def Ct (k:Nat):Nat→yAp:=qW (fun _ _ _ _ _ _ _=>none) (Hu k)
abbrev yE8:Type:=AC→Int→yQ→wW→AC→yQ→List zJ→EQ→AC→EQ→AC→EQ→List zD→Option yEv
def Hw (k:Nat)(rec:yE8)(s0:AC)(s9:Int)(b0:yQ)(b1:wW)(r2:AC)(b3:yQ)(r4:List zJ)(r5:EQ)(r6:AC)(r7:EQ)(r8:AC)(r9:EQ)(TE:List zD):Option yEv:=
 cond (zB 8 r2.length) (cond (decide (s9<(r2.getD 8 0))) (cond b1.2 ((uY k b1 7).bind fun x7=>cond (zB 0 x7.1.length) (cond (zB 1 x7.1.length) (cond (zB 2 x7.1.length) (cond (zB 3 x7.1.length) (cond (zB 4 x7.1.length) (cond (zB 5 x7.1.length) (cond (zB 6 x7.1.length) (cond (zM (TE.length+1) 56) (let y1:List zD:=(TE++[((x7.1.getD 0 0),(x7.1.getD 1 0),(x7.1.getD 2 0),(x7.1.getD 3 0),(x7.1.getD 4 0),(x7.1.getD 5 0),(x7.1.getD 6 0))])
            rec s0 (zA (s9+1)) b0 x7.2 r2 b3 r4 r5 r6 r7 r8 r9 y1) none) none) none) none) none) none) none) none)<|some (s0,b0,b1,b3,r4,r5,r6,r7,r8,r9,TE))<|some (s0,b0,b1,b3,r4,r5,r6,r7,r8,r9,TE)) none
def Cv (k:Nat):Nat→yE8:=qW (fun _ _ _ _ _ _ _ _ _ _ _ _ _=>none) (Hw k)
def Hz (k:Nat)(a0:AC):Option (qV×Bool):=
 (uY k (a0,true) 9).bind fun x0=>cond (zB 0 x0.1.length) (cond (zB 1 x0.1.length) (cond (zB 2 x0.1.length) ((Ct k k a0 0 (0,0,false) x0.2 x0.1 ((x0.1.getD 0 0),(x0.1.getD 1 0),(decide ((x0.1.getD 2 0)=1))) []).bind fun z=>cond (zB 4 z.2.2.2.1.length) ((Hn k z.2.2.1 (z.2.2.2.1.getD 4 0)).bind fun x2=>(yt k x2.2).bind fun x3=>cond (zB 6 z.2.2.2.1.length) ((Hn k x3.2 (z.2.2.2.1.getD 6 0)).bind fun x4=>(yt k x4.2).bind fun x5=>cond (zB 7 z.2.2.2.1.length) ((Hn k x5.2 (z.2.2.2.1.getD 7 0)).bind fun x6=>(Cv k k z.1 0 z.2.1 x6.2 z.2.2.2.1 z.2.2.2.2.1 z.2.2.2.2.2 x2.1 x3.1 x4.1 x5.1 x6.1 []).bind fun z1=>(yt k z1.2.2.1).bind fun x8=>cond (!x8.2.2) (some ((0,[],[],[],[],[],[],[],[],0,false),false))<|cond (decide ((x8.2.1.length:Int)>0)) (some ((0,[],[],[],[],[],[],[],[],0,false),false))<|(oq k (z1.2.2.2.1.1,(ND z1 (x8.1,z1.2.2.2.1.2)))).bind fun x9=>cond (!(oL x9 z1.1)) (some ((0,[],[],[],[],[],[],[],[],0,false),false))<|some ((z1.2.2.2.1.1,(ND z1 (x8.1,z1.2.2.2.1.2))),true)) none) none) none) none) none) none
def BM (k:Nat)(a0:Int):Option Int:=
 cond (decide (a0<0)) (some (-1))<|cond (decide (a0≥24)) (some (-1))<|cond (zB a0 24) (some (List.getD [(-1),6,1,2,2,2,1,1,2,0,2,2,2,0,0,0,1,5,4,1,1,1,1,1] a0.toNat 0)) none
abbrev yAg:Type:=zD×zD
abbrev yDx:Type:=Int→zD→zD→AC→Option yAg
def vDy (k:Nat)(rec:yDx)(s7:Int)(b0 b1:zD)(r2:AC):Option yAg:=
 cond (decide (s7<r2.length)) (cond (zB s7 r2.length) (cond (decide (s7=0)) (rec (zA (s7+1)) b0 (b1.1,(r2.getD s7.toNat 0),b1.2.2) r2)<|cond (decide (s7=1)) (rec (zA (s7+1)) b0 (b1.1,b1.2.1,(r2.getD s7.toNat 0),b1.2.2.2) r2)<|cond (decide (s7=2)) (rec (zA (s7+1)) b0 (b1.1,b1.2.1,b1.2.2.1,(r2.getD s7.toNat 0),b1.2.2.2.2) r2)<|cond (decide (s7=3)) (rec (zA (s7+1)) b0 (vV b1 ((r2.getD s7.toNat 0),b1.2.2.2.2.2)) r2)<|cond (decide (s7=4)) (rec (zA (s7+1)) b0 (gg b1 ((r2.getD s7.toNat 0),b1.2.2.2.2.2.2)) r2)<|cond (decide (s7=5)) (rec (zA (s7+1)) b0 (jH b1 (r2.getD s7.toNat 0)) r2) none) none)<|some (b0,b1)
def Pz (k:Nat):Nat→yDx:=qW (fun _ _ _ _=>none) (vDy k)
def EP (k:Nat)(a0:AC):Option (zD×Int):=
 cond (decide ((a0.length:Int)=0)) (some ((0,0,0,0,0,0,0),2))<|cond (zB 0 a0.length) (cond (decide (1≤(a0.length : Int))) ((xF k (List.drop 1 a0)).bind fun x0=>cond (!(decide (x0.2=0))) (some ((0,0,0,0,0,0,0),2))<|(BM k (zA ((a0.getD 0 0)))).bind fun x1=>cond (!(decide ((x0.1.length:Int)=x1))) (some ((0,0,0,0,0,0,0),2))<|(Pz k k 0 (0,0,0,0,0,0,0) ((zA ((a0.getD 0 0))),0,0,0,0,0,0) x0.1).bind fun z=>some (z.2,0)) none) none
def RY (k:Nat)(a0:AC):Option (qJ×Int):=
 cond (decide ((a0.length:Int)<8)) (some ((0,0,0,0,0,0,0,0),2))<|cond (decide (8≤(a0.length : Int))) ((xF k (List.take 8 a0)).bind fun x0=>cond (decide (8≤(a0.length : Int))) ((EP k (List.drop 8 a0)).bind fun x1=>cond (!(decide (x1.2=0))) (some ((0,0,0,0,0,0,0,0),2))<|cond (zB 0 x0.1.length) (some (((x0.1.getD 0 0),x1.1),0)) none) none) none
def RN (k:Nat)(a0:Int):Option Bool:=
 cond (decide (a0≥1)) (some (decide (a0≤14)))<|some false
abbrev qRa:Type:=Int→Int→zD→Option (Int⊕Bool)
def yDw (k:Nat)(rec:qRa)(s3 s4:Int)(b0:zD):Option (Int⊕Bool):=
 cond (decide (s4<6)) (cond (decide (s4=0)) (cond (!(decide (b0.2.1=0))) (some (.inr false))<|rec s3 (zA (s4+1)) b0)<|cond (decide (s4=1)) (cond (!(decide (b0.2.2.1=0))) (some (.inr false))<|rec s3 (zA (s4+1)) b0)<|cond (decide (s4=2)) (cond (!(decide (b0.2.2.2.1=0))) (some (.inr false))<|rec s3 (zA (s4+1)) b0)<|cond (decide (s4=3)) (cond (!(decide (b0.2.2.2.2.1=0))) (some (.inr false))<|rec s3 (zA (s4+1)) b0)<|cond (decide (s4=4)) (cond (!(decide (b0.2.2.2.2.2.1=0))) (some (.inr false))<|rec s3 (zA (s4+1)) b0)<|cond (decide (s4=5)) (cond (!(decide (b0.2.2.2.2.2.2=0))) (some (.inr false))<|rec s3 (zA (s4+1)) b0) none)<|some (.inl s3)
def zr (k:Nat):Nat→qRa:=qW (fun _ _ _=>none) (yDw k)
def tm (k:Nat)(a0:zD):Option Bool:=
 (BM k a0.1).bind fun x0=>(zr k k x0 (yC false x0 0) a0).bind fun z=>match z with
 |.inl z1=>some (decide (z1≥0))
 |.inr z2=>some z2
def RO (k:Nat)(a0:Int):Option Bool:=
 cond (decide (a0≥10)) (some (decide (a0≤14)))<|some false
def CX (k:Nat)(a0:yA)(a1:qJ):Option Bool:=
 (RN k a1.2.1).bind fun x0=>cond (!x0) (some false)<|(tm k a1.2).bind fun x1=>cond (!x1) (some false)<|(RO k a1.2.1).bind fun x2=>cond x2 (some (decide (a1.1=(-1))))<|cond (decide (a1.1≥0)) (some (decide (a1.1<a0.1)))<|some false
abbrev qOo:Type:=List zD→Int→Int→List zD→Option qZc
def FW (k:Nat)(rec:qOo)(s0:List zD)(s1 s6:Int)(r0:List zD):Option qZc:=
 cond (decide (s6<s0.length)) (cond (zB s6 s0.length) (cond (decide ((s0.getD s6.toNat (0,0,0,0,0,0,0)).2.1=s1)) (cond (zB s6 s0.length) (cond (zM (r0.length+1) 56) (let y0:List zD:=(r0++[(s0.getD s6.toNat (0,0,0,0,0,0,0))])
      rec s0 s1 (zA (s6+1)) y0) none) none)<|rec s0 s1 (zA (s6+1)) r0) none)<|some r0
def Ls (k:Nat):Nat→qOo
 |0,_,_,_,_=>none
 |n+1,s0,s1,s6,r0=>FW k (Ls k n) s0 s1 s6 r0
def uI (k:Nat)(a0:List zD)(a1:Int):Option (List zD):=
 (Ls k k a0 a1 0 []).bind fun z=>some z
abbrev yDh:Type:=Int×Int×Int×Int×Int×Int×Int×Int×Int×Int×Int×Int×Int×Int
abbrev qNk:Type:=AC→Int→Int→Int→Int→Int→Int→Int→Int→Int→Int→Int→Int→Int→Int→Int→Option yDh
def yWi (k:Nat)(rec:qNk)(s1:AC)(s6 af ah aj ag ba bp bq aw aD aE aG aJ aK aL:Int):Option yDh:=
 cond (decide (s6<s1.length)) (cond (decide (s6<6)) (cond (zB s6 s1.length) (cond (decide (s6=0)) (rec s1 (zA (s6+1)) af ah aj ag ba bp bq aw (s1.getD s6.toNat 0) aE aG aJ aK aL)<|cond (decide (s6=1)) (rec s1 (zA (s6+1)) af ah aj ag ba bp bq aw aD (s1.getD s6.toNat 0) aG aJ aK aL)<|cond (decide (s6=2)) (rec s1 (zA (s6+1)) af ah aj ag ba bp bq aw aD aE (s1.getD s6.toNat 0) aJ aK aL)<|cond (decide (s6=3)) (rec s1 (zA (s6+1)) af ah aj ag ba bp bq aw aD aE aG (s1.getD s6.toNat 0) aK aL)<|cond (decide (s6=4)) (rec s1 (zA (s6+1)) af ah aj ag ba bp bq aw aD aE aG aJ (s1.getD s6.toNat 0) aL)<|cond (decide (s6=5)) (rec s1 (zA (s6+1)) af ah aj ag ba bp bq aw aD aE aG aJ aK (s1.getD s6.toNat 0)) none) none)<|some (af,ah,aj,ag,ba,bp,bq,aw,aD,aE,aG,aJ,aK,aL))<|some (af,ah,aj,ag,ba,bp,bq,aw,aD,aE,aG,aJ,aK,aL)
def S4 (k:Nat):Nat→qNk
 |0,_,_,_,_,_,_,_,_,_,_,_,_,_,_,_,_=>none
 |n+1,s1,s6,af,ah,aj,ag,ba,bp,bq,aw,aD,aE,aG,aJ,aK,aL=>yWi k (S4 k n) s1 s6 af ah aj ag ba bp bq aw aD aE aG aJ aK aL
def eZ (k:Nat)(a0:Int)(a1:AC):Option zD:=
 (S4 k k a1 0 0 0 0 0 0 0 0 a0 0 0 0 0 0 0).bind fun z=>some (z.2.2.2.2.2.2.2.1,z.2.2.2.2.2.2.2.2.1,z.2.2.2.2.2.2.2.2.2.1,z.2.2.2.2.2.2.2.2.2.2.1,z.2.2.2.2.2.2.2.2.2.2.2.1,z.2.2.2.2.2.2.2.2.2.2.2.2.1,z.2.2.2.2.2.2.2.2.2.2.2.2.2)
def RM (k:Nat)(a0:yA)(a1:Int):Option Bool:=
 some (decide (a1=a0.2.2.2.1))
def yD7 (k:Nat)(cf bj bB cw bN ca bR a1:Int):Option Bool:=
 some (decide (a1>bR))
abbrev yAt:Type:=List zD→Int→Int→Option (Unit⊕Int)
def F4 (k:Nat)(rec:yAt)(s0:List zD)(s1 s5:Int):Option (Unit⊕Int):=
 cond (decide (s5<s0.length)) (cond (zB s5 s0.length) (cond (decide ((s0.getD s5.toNat (0,0,0,0,0,0,0)).1=s1)) (some (.inr s5))<|rec s0 s1 (zA (s5+1))) none)<|some (.inl ())
def F3 (k:Nat):Nat→yAt
 |0,_,_,_=>none
 |n+1,s0,s1,s5=>F4 k (F3 k n) s0 s1 s5
def mq (k:Nat)(a0:List zD)(a1:Int):Option Int:=
 (F3 k k a0 a1 0).bind fun z=>match z with
 |.inl z1=>some (-1)
 |.inr z2=>some z2
def ou (k:Nat)(a0:List zD)(a1:Int):Option yAv:=
 (mq k a0 a1).bind fun x0=>cond (decide (x0<0)) (some (a0,0,0,0,0,0,0,0,4))<|cond ((decide (0≤x0))&&(decide (x0≤a0.length))) (cond (zM (0+(List.take x0.toNat a0).length) 56) (cond ((decide (0≤(zA (x0+1))))&&(decide ((zA (x0+1))≤a0.length))) (cond (zM ((List.take x0.toNat a0).length+(List.drop (zA (x0+1)).toNat a0).length) 56) (cond (zB x0 a0.length) (some (((List.take x0.toNat a0)++(List.drop (zA (x0+1)).toNat a0)),(gh (a0.getD x0.toNat (0,0,0,0,0,0,0)) 0))) none) none) none) none) none
def Nf (k:Nat)(a0:yA)(a1:Int):Option Bool:=
 cond (decide (a1>0)) (cond (decide (a1<a0.2.2.2.1)) (cond (!(decide (a0.2.2.2.2=0))) (some (decide ((Int.tmod a1 a0.2.2.2.2)=0))) none)<|some false)<|some false
def YY (k:Nat)(cf bj bB cw bN ca bR a1:Int):Option Bool:=
 cond (decide (a1≥ca)) (some (decide (a1≤bR)))<|some false
def FV (k:Nat)(rec:qOo)(s0:List zD)(s1 s6:Int)(r0:List zD):Option qZc:=
 cond (decide (s6<s0.length)) (cond (zB s6 s0.length) ((YY k (s0.getD s6.toNat (0,0,0,0,0,0,0)).1 (s0.getD s6.toNat (0,0,0,0,0,0,0)).2.1 (s0.getD s6.toNat (0,0,0,0,0,0,0)).2.2.1 (s0.getD s6.toNat (0,0,0,0,0,0,0)).2.2.2.1 (s0.getD s6.toNat (0,0,0,0,0,0,0)).2.2.2.2.1 (s0.getD s6.toNat (0,0,0,0,0,0,0)).2.2.2.2.2.1 (s0.getD s6.toNat (0,0,0,0,0,0,0)).2.2.2.2.2.2 s1).bind fun x0=>cond x0 (cond (zB s6 s0.length) (cond (zM (r0.length+1) 56) (let y0:List zD:=(r0++[(s0.getD s6.toNat (0,0,0,0,0,0,0))])
      rec s0 s1 (zA (s6+1)) y0) none) none)<|rec s0 s1 (zA (s6+1)) r0) none)<|some r0
def Lr (k:Nat):Nat→qOo
 |0,_,_,_,_=>none
 |n+1,s0,s1,s6,r0=>FV k (Lr k n) s0 s1 s6 r0
def FU (k:Nat)(a0:List zD)(a1:Int):Option (List zD):=
 (Lr k k a0 a1 0 []).bind fun z=>some z
end Go.Ab.Gi
