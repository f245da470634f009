/- part 6 -/
import Derived.Test.YtbejmoaalcabdaaGreatGiAbD
set_option linter.unusedVariables false
set_option maxRecDepth 100000
abbrev Go.Ab.Ty.i:Go.Ab.Ty:=.int .i64
abbrev Go.Ab.CS.i:Go.Ab.CS:=.int .i64
abbrev Go.Ab.PC.i:Go.Ab.PC:=.int .i64
abbrev Go.Ab.RC.i:Go.Ab.RC:=.int .i64
namespace Go.Ab.Gi
abbrev AC:=List Int
abbrev EQ:=List AC
abbrev kD:Type:=AC×Bool
abbrev wB:Go.Ab.Ty:=.pair .i .i
abbrev vM:Type:=Int×AC×Int×AC×Int×Int×Int×Bool×Bool×Int
abbrev jW:Type:=Int×Bool
abbrev tG:Type:=Int×Int×AC×Int×Int
abbrev nP:Type:=Int×Int×Bool×Bool
abbrev vH:Type:=Int×Int×Bool
abbrev fR:Type:=Int×Int×Int×Bool
abbrev xc:Type:=Int×Int×Int×Int×Int×Bool×Bool×Int
abbrev qA:Type:=Int×Int×Int×Int×Int×Int×Int×Int
abbrev zB:Type:=Int×Int×Int×Int×Int×Int×Int
abbrev J7:Type:=Int×Int×Int×Int×Int×Int
abbrev zK:Type:=Int×Int×Int
abbrev vJ:Type:=Int×Int
abbrev qR8:Type:=(List zB)×Int×Int×Int×Int×Int×Int×Int×Int
abbrev rp:Type:=(List zK)×EQ×AC×EQ×(List zB)×(List zB)
abbrev J8:Type:=(List zK)×EQ×AC×EQ
abbrev qX:Go.Ab.Ty:=.pair .i wB
abbrev FI:Go.Ab.Ty:=.pair (.sl (.int .u8)) wB
abbrev yMq:Type:=Bool×Int×Int×Int×Int×Int×Int×Int×Int×Int×Int×Int×Int×Int×Int×(List zK)×EQ×AC×EQ
abbrev PJ:Type:=Int×(List zK)×EQ×AC×EQ×AC×EQ×(List zB)×AC×Int×Bool×(List qA)
abbrev qVl:Type:=Int×(List zK)×EQ×AC×EQ×AC×EQ×(List zB)×AC×Int×Bool×Bool
abbrev yT:Type:=Int×(List zK)×EQ×AC×EQ×AC×EQ×(List zB)×AC×Int×Bool
abbrev tE:Type:=Int×(List vJ)×Int×Int×Int×Int×(List zK)×EQ×AC×EQ×AC×EQ×(List zB)×AC×Int×Bool×Int×(List qA)×Int
abbrev jF:Type:=Int×(List vJ)×Int×Int×Int×Int×(List zK)×EQ×AC×EQ×AC×EQ×(List zB)×AC×Int×Bool×Int×(List qA)
abbrev nQ:Type:=Int×(List vJ)×Int×Int×Int×Int×(List zK)×EQ×AC×EQ×AC×EQ×(List zB)×AC×Int×Bool×Int×Bool
abbrev pg:Type:=Int×(List vJ)×Int×Int×Int×Int×(List zK)×EQ×AC×EQ×AC×EQ×(List zB)×AC×Int×Bool×Int×Int
abbrev kE:Type:=Int×(List vJ)×Int×Int×Int×Int×(List zK)×EQ×AC×EQ×AC×EQ×(List zB)×AC×Int×Bool×Int
abbrev yO:Type:=Int×(List vJ)×Int×Int×Int
abbrev aaO:Go.Ab.Ty:=.pair .i qX
abbrev vEq:Go.Ab.Ty:=.pair .i aaO
abbrev vB2:Go.Ab.Ty:=.pair .i vEq
abbrev zH:Go.Ab.Ty:=.pair .i vB2
abbrev qN:Go.Ab.Ty:=.pair .i zH
abbrev Zv:List Go.Ab.CS:=[.dat false .i,.dat false .i,.dat false (.sl .i)]
abbrev jN:List Go.Ab.CS:=[.dat false qX,.dat false (.sl .i),.dat false .i,.dat false (.sl .i)]
abbrev FN:List Go.Ab.CS:=[.dat true (.int .u8),.bool]
abbrev vV:List Go.Ab.CS:=[.dat true qX,.dat true (.sl .i),.dat true .i,.dat true (.sl .i)]
abbrev Pd:List Go.Ab.CS:=[.i,.dat false qX,.dat false (.sl .i),.dat false .i,.dat false (.sl .i),.dat false .i,.dat false (.sl .i),.dat false zH,.dat false .i,.i,.bool]
abbrev oU:List Go.Ab.CS:=[.i,.dat false wB,.i,.i,.i]
abbrev fP:List Go.Ab.CS:=[.i,.dat true qX,.dat true (.sl .i),.dat true .i,.dat true (.sl .i),.dat true .i,.dat true (.sl .i),.dat true zH,.dat true .i,.i,.bool]
abbrev w6:List Go.Ab.CS:=[.i,.dat true wB,.i,.i,.i]
abbrev YZ:List Go.Ab.CS:=[.i,.dat true wB,.i,.i,.i,.i,.dat true qX,.dat true (.sl .i),.dat true .i,.dat true (.sl .i),.dat true .i,.dat true (.sl .i),.dat true zH,.dat true .i,.i,.bool,.i,.lit (.osl 1001001 none)]
abbrev qV7:List Go.Ab.CS:=[.i,.dat true wB,.i,.i,.i,.i,.dat true qX,.dat true (.sl .i),.dat true .i,.dat true (.sl .i),.dat true .i,.dat true (.sl .i),.dat true zH,.dat true .i,.i,.bool,.i,.lit .nsl]
abbrev Wc:List Go.Ab.CS:=[.i,.dat true wB,.i,.i,.i,.i,.dat true qX,.dat true (.sl .i),.dat true .i,.dat true (.sl .i),.dat true .i,.dat true (.sl .i),.dat true zH,.dat true .i,.i,.bool,.i,.lit .nsl,.i]
abbrev wL:List Go.Ab.CS:=[.i,.i,.i,.i,.i,.i,.i]
abbrev yAa:List Go.Ab.CS:=[.i,.i,.i,.i,.i,.i,.i,.i,.i,.i,.i,.i,.i,.i,.dat true qX,.dat true (.sl .i),.dat true .i,.dat true (.sl .i)]
abbrev OZ:List Go.Ab.CS:=[.i,.i,.i,.i,.i,.i,.i,.i,.i,.i,.i,.i,.i,.i,.lit .nsl,.lit .nsl,.lit .nsl,.lit .nsl]
abbrev WH:List Go.Ab.CS:=[.i,.lit (.osl 1001001 none),.i,.i,.i]
abbrev yU9:List Go.Ab.CS:=[.i,.lit (.osl 1001001 none),.i,.lit (.osl 1001002 none),.i,.i,.i,.bool,.bool,.i]
abbrev yBp:List Go.Ab.CS:=[.i,.lit (.osl 1001002 none),.lit (.osl 1001003 none),.lit (.osl 1001004 none),.lit (.osl 1001005 none),.lit (.osl 1001006 none),.lit (.osl 1001007 none),.lit .nsl,.lit .nsl,.i,.bool]
abbrev yMj:List Go.Ab.CS:=[.i,.lit (.osl 1001003 none),.i,.lit (.osl 1001004 none),.i,.i,.i,.bool,.bool,.i]
abbrev yCm:List Go.Ab.CS:=[.i,.lit (.osl 1001003 none),.lit (.osl 1001004 none),.lit (.osl 1001005 none),.lit (.osl 1001006 none),.lit (.osl 1001007 none),.lit (.osl 1001008 none),.lit (.osl 1001009 none),.lit .nsl,.i,.bool]
abbrev yGd:List Go.Ab.CS:=[.i,.lit (.osl 1001003 none),.lit (.osl 1001004 none),.lit (.osl 1001005 none),.lit (.osl 1001006 none),.lit (.osl 1001007 none),.lit (.osl 1001008 none),.lit .nsl,.lit .nsl,.i,.bool]
abbrev Ol:List Go.Ab.CS:=[.i,.lit (.osl 1001003 none),.lit (.osl 1001004 none),.lit (.osl 1001005 none),.lit (.osl 1001006 none),.lit (.osl 1001007 none),.lit .nsl,.lit .nsl,.lit .nsl,.i,.bool]
abbrev yIm:List Go.Ab.CS:=[.i,.lit (.osl 1001004 none),.lit .nsl,.lit .nsl,.lit .nsl,.lit .nsl,.lit .nsl,.lit .nsl,.lit .nsl,.i,.bool]
abbrev eX:List Go.Ab.CS:=[.i,.lit .nsl,.lit .nsl,.lit .nsl,.lit .nsl,.lit .nsl,.lit .nsl,.lit .nsl,.lit .nsl,.i,.bool]
abbrev Zn:List Go.Ab.CS:=[.lit (.osl 1001002 none),.lit (.osl 1001003 none),.lit (.osl 1001004 none)]
abbrev qy:List Go.Ab.CS:=[.lit (.osl 1001003 none),.lit (.osl 1001004 none),.lit (.osl 1001005 none),.lit (.osl 1001006 none)]
abbrev vBn:List Go.Ab.CS:=[.lit (.osl 1001004 none),.lit (.osl 1001005 none),.lit (.osl 1001006 none),.lit (.osl 1001007 none)]
abbrev Pp:List Go.Ab.CS:=[.lit .nsl,.lit .nsl,.i,.lit .nsl,.lit .nsl,.lit .nsl,.lit .nsl,.lit .nsl,.lit .nsl,.lit .nsl,.lit .nsl,.i,.bool,.bool]
abbrev mN:List Go.Ab.CS:=[.lit .nsl,.lit .nsl,.lit .nsl,.lit .nsl]
abbrev OX:List Go.Ab.PC:=[.dat false .i,.dat false .i,.dat false (.sl .i)]
abbrev jJ:List Go.Ab.PC:=[.dat false qX,.dat false (.sl .i),.dat false .i,.dat false (.sl .i)]
abbrev ke:List Go.Ab.PC:=[.dat true qX,.dat true (.sl .i),.dat true .i,.dat true (.sl .i)]
abbrev JK:List Go.Ab.PC:=[.i,.dat false (.int .u8),.i,.dat false (.int .u8),.i,.i,.i,.bool,.bool,.i]
abbrev qz:List Go.Ab.PC:=[.i,.dat false qX,.dat false (.sl .i),.dat false .i,.dat false (.sl .i),.dat false .i,.dat false (.sl .i),.dat false zH,.dat false .i,.i,.bool]
abbrev iS:List Go.Ab.PC:=[.i,.dat false wB,.i,.i,.i]
abbrev Yr:List Go.Ab.PC:=[.i,.dat false wB,.i,.i,.i,.i,.dat false qX,.dat false (.sl .i),.dat false .i,.dat false (.sl .i),.dat false .i,.dat false (.sl .i),.dat false zH,.dat false .i,.i,.bool,.i,.dat false qN]
abbrev yVm:List Go.Ab.PC:=[.i,.dat false wB,.i,.i,.i,.i,.dat false qX,.dat false (.sl .i),.dat false .i,.dat false (.sl .i),.dat false .i,.dat false (.sl .i),.dat false zH,.dat false .i,.i,.bool,.i,.dat false qN,.i]
abbrev wm:List Go.Ab.PC:=[.i,.dat true qX,.dat true (.sl .i),.dat true .i,.dat true (.sl .i),.dat true .i,.dat true (.sl .i),.dat true zH,.dat true .i,.i,.bool]
abbrev FH:List Go.Ab.PC:=[.i,.dat true wB,.i,.i,.i]
abbrev mM:List Go.Ab.PC:=[.i,.i,.i]
abbrev JR:List Go.Ab.PC:=[.i,.i,.i,.i,.i,.i]
abbrev vD:List Go.Ab.PC:=[.i,.i,.i,.i,.i,.i,.i]
abbrev AU:List Go.Ab.PC:=[.i,.i,.i,.i,.i,.i,.i,.i]
abbrev nN:List Go.Ab.RC:=[.fro (.int .u8)]
abbrev rf:List Go.Ab.RC:=[.fro (.sl (.int .u8))]
abbrev jC:List Go.Ab.RC:=[.fro qX,.fro (.sl .i),.fro .i,.fro (.sl .i)]
abbrev vK:List Go.Ab.RC:=[.fro zH]
abbrev qI:List Go.Ab.RC:=[.i]
abbrev kz:List Go.Ab.RC:=[.i,.fro qX,.fro (.sl .i),.fro .i,.fro (.sl .i),.fro .i,.fro (.sl .i),.fro zH,.fro .i,.i,.bool]
abbrev yCa:List Go.Ab.RC:=[.i,.fro qX,.fro (.sl .i),.fro .i,.fro (.sl .i),.fro .i,.fro (.sl .i),.own zH,.fro .i,.i,.bool]
abbrev wQ:List Go.Ab.RC:=[.i,.fro wB,.i,.i,.i,.i,.fro qX,.fro (.sl .i),.fro .i,.fro (.sl .i),.fro .i,.fro (.sl .i),.fro zH,.fro .i,.i,.bool,.i,.own qN]
abbrev l9:List Go.Ab.RC:=[.i,.fro wB,.i,.i,.i,.i,.fro qX,.fro (.sl .i),.fro .i,.fro (.sl .i),.fro .i,.fro (.sl .i),.fro zH,.fro .i,.i,.bool,.i,.own qN,.i]
abbrev wk:List Go.Ab.RC:=[.i,.i,.i]
abbrev fQ:List Go.Ab.RC:=[.i,.i,.i,.i,.i,.i,.i]
abbrev OE:List Go.Ab.RC:=[.i,.i,.i,.i,.i,.i,.i,.i]
abbrev yTw:List Go.Ab.RC:=[.i,.i,.i,.i,.i,.i,.i,.i,.i,.i,.i,.i,.i,.i,.fro qX,.fro (.sl .i),.fro .i,.fro (.sl .i)]
abbrev vQ:List Go.Ab.RC:=[.i,.own (.int .u8),.i,.own (.int .u8),.i,.i,.i,.bool,.bool,.i]
abbrev FK:List Go.Ab.RC:=[.i,.own qX,.mat,.own .i,.mat,.own .i,.mat,.own zH,.own .i,.i,.bool]
abbrev yFk:List Go.Ab.RC:=[.i,.own wB,.i,.i,.i,.i,.own qX,.mat,.own .i,.mat,.own .i,.mat,.own zH,.own .i,.i,.bool,.i,.own qN]
abbrev Ow:List Go.Ab.RC:=[.link 0,.i,.i,.i,.bool]
abbrev w7:List Go.Ab.RC:=[.link 1,.i,.fro wB,.i,.i,.i,.i,.fro qX,.fro (.sl .i),.fro .i,.fro (.sl .i),.fro .i,.fro (.sl .i),.fro zH,.fro .i,.i,.bool,.i,.bool]
abbrev FW:List Go.Ab.RC:=[.link 1,.i,.i,.i,.bool]
abbrev yNe:List Go.Ab.RC:=[.link 2,.i,.fro wB,.i,.i,.i,.i,.fro qX,.fro (.sl .i),.fro .i,.fro (.sl .i),.fro .i,.fro (.sl .i),.fro zH,.fro .i,.i,.bool,.i,.bool]
abbrev w8:List Go.Ab.RC:=[.link 2,.i,.i,.i,.bool]
abbrev nM:List Go.Ab.RC:=[.own .i]
abbrev qZm:List Go.Ab.RC:=[.own (.sl qN),.own qN,.i,.fro qX,.fro (.sl .i),.fro .i,.fro (.sl .i),.fro .i,.fro (.sl .i),.fro zH,.fro .i,.i,.bool,.bool]
abbrev ON:List Go.Ab.RC:=[.own qX,.mat,.own .i,.mat]
abbrev Pj:List Go.Ab.XC:=[.link 1,.p .i,.p (.dat true wB),.p .i,.p .i,.p .i,.p .i,.p (.dat true qX),.p (.dat true (.sl .i)),.p (.dat true .i),.p (.dat true (.sl .i)),.p (.dat true .i),.p (.dat true (.sl .i)),.p (.dat true zH),.p (.dat true .i),.p .i,.p .bool,.p .i,.p .bool]
abbrev qRn:List Go.Ab.XC:=[.link 1,.p .i,.p .i,.p .i,.p .bool]
abbrev Pk:List Go.Ab.XC:=[.link 2,.p .i,.p .i,.p .i,.p .bool]
abbrev kA:List Go.Ab.XC:=[.p .i,.own (.int .u8),.p .i,.own (.int .u8),.p .i,.p .i,.p .i,.p .bool,.p .bool,.p .i]
abbrev wy:List Go.Ab.XC:=[.p .i,.p (.dat true wB),.p .i,.p .i,.p .i,.p .i,.p (.dat true qX),.p (.dat true (.sl .i)),.p (.dat true .i),.p (.dat true (.sl .i)),.p (.dat true .i),.p (.dat true (.sl .i)),.p (.dat true zH),.p (.dat true .i),.p .i,.p .bool,.p .i,.own qN]
abbrev wv:List Go.Ab.XC:=[.p .i,.p (.dat true wB),.p .i,.p .i,.p .i,.p .i,.p (.dat true qX),.p (.dat true (.sl .i)),.p (.dat true .i),.p (.dat true (.sl .i)),.p (.dat true .i),.p (.dat true (.sl .i)),.p (.dat true zH),.p (.dat true .i),.p .i,.p .bool,.p .i,.p (.nil)]
abbrev AR:List Go.Ab.XC:=[.p .i,.p (.dat true wB),.p .i,.p .i,.p .i,.p .i,.p (.dat true qX),.p (.dat true (.sl .i)),.p (.dat true .i),.p (.dat true (.sl .i)),.p (.dat true .i),.p (.dat true (.sl .i)),.p (.dat true zH),.p (.dat true .i),.p .i,.p .bool,.p .i,.p (.nil),.p .i]
section
variable {A B C D E F G H I J K L M N O P Q R S U V W X Z a b Aa Ab Ac Ad Ae Af Ag Ah Ai Aj Ak Al Am An Ao Ap Aq Ar As At T Y:Type}
abbrev jO (x:A×B×C×D)(t:T):=(x.1,x.2.1,x.2.2.1,x.2.2.2,t)
abbrev wS (x:A×B×C×D×E)(t:T):=(x.1,jO x.2 t)
abbrev mO (x:A×B×C×D×E×F)(t:T):=(x.1,wS x.2 t)
abbrev gb (x:A×B×C×D×E×F×G)(t:T):=(x.1,mO x.2 t)
abbrev FO (x:A×B×C×D×E×F×G×H)(t:T):=(x.1,gb x.2 t)
abbrev OK (x:A×B×C×D×E×F×G×H×I)(t:T):=(x.1,FO x.2 t)
abbrev gF (x:A×B×C×D×E×F×G×H×I×J)(t:T):=(x.1,OK x.2 t)
abbrev vU (x:A×B×C×D×E×F×G×H×I×J×K)(t:T):=(x.1,gF x.2 t)
abbrev AV (x:A×B×C×D×E×F×G×H×I×J×K×L)(t:T):=(x.1,vU x.2 t)
abbrev vNi (x:A×B×C×D×E×F×G×H×I×J×K×L×M)(t:T):=(x.1,AV x.2 t)
abbrev O0 (x:A×B×C×D×E×F×G×H×I×J×K×L×M×N)(t:T):=(x.1,vNi x.2 t)
abbrev yHf (x:A×B×C×D×E×F×G×H×I×J×K×L×M×N×O)(t:T):=(x.1,O0 x.2 t)
abbrev vSl (x:A×B×C×D×E×F×G×H×I×J×K×L×M×N×O×P)(t:T):=(x.1,yHf x.2 t)
abbrev vI (x:A×B×C×D×E×F×G×H×I×J×K×L×M×N×O×P×Q)(t:T):=(x.1,vSl x.2 t)
abbrev wZ (x:A×B×C×D×E×F×G×H×I×J×K×L×M×N×O×P×Q×R)(t:T):=(x.1,vI x.2 t)
abbrev wi (x:A×B×C×D×E×F×G×H×I×J×K×L×M×N×O×P×Q×R×S)(t:T):=(x.1,wZ x.2 t)
abbrev wK (x:A×B×C×D×E):=(x.1,x.2.1,x.2.2.1,x.2.2.2.1)
abbrev yF (x:A×B×C×D×E×F):=(x.1,wK x.2)
abbrev mb (x:A×B×C×D×E×F×G):=(x.1,yF x.2)
abbrev wD (x:A×B×C×D×E×F×G×H):=(x.1,mb x.2)
abbrev ma (x:A×B×C×D×E×F×G×H×I):=(x.1,wD x.2)
abbrev OM (x:A×B×C×D×E×F×G×H×I×J):=(x.1,ma x.2)
abbrev eW (x:A×B×C×D×E×F×G×H×I×J×K):=(x.1,OM x.2)
abbrev qW (x:A×B×C×D×E×F×G×H×I×J×K×L):=(x.1,eW x.2)
abbrev wu (x:A×B×C×D×E×F×G×H×I×J×K×L×M):=(x.1,qW x.2)
abbrev vI3 (x:A×B×C×D×E×F×G×H×I×J×K×L×M×N):=(x.1,wu x.2)
abbrev qMq (x:A×B×C×D×E×F×G×H×I×J×K×L×M×N×O):=(x.1,vI3 x.2)
abbrev yBt (x:A×B×C×D×E×F×G×H×I×J×K×L×M×N×O×P):=(x.1,qMq x.2)
abbrev vZ9 (x:A×B×C×D×E×F×G×H×I×J×K×L×M×N×O×P×Q):=(x.1,yBt x.2)
abbrev kB (x:A×B×C×D×E×F×G×H×I×J×K×L×M×N×O×P×Q×R):=(x.1,vZ9 x.2)
abbrev jQ (x:A×B×C×D×E×F×G×H×I×J×K×L×M×N×O×P×Q×R×S):=(x.1,kB x.2)
abbrev O1 (x:A×B×C×D×E×F×G×H×I×J×K×L×M×N×O×P×Q×R×S×U):=(x.1,jQ x.2)
abbrev vP (x:A×B×C×D×E)(t:T):=(x.1,x.2.1,x.2.2.1,x.2.2.2.1,t)
abbrev oW (x:A×B×C×D×E×F)(t:T):=(x.1,vP x.2 t)
abbrev wY (x:A×B×C×D×E×F×G)(t:T):=(x.1,oW x.2 t)
abbrev iR (x:A×B×C×D×E×F×G×H)(t:T):=(x.1,wY x.2 t)
abbrev yYq (x:A×B×C×D×E×F×G×H×I)(t:T):=(x.1,iR x.2 t)
abbrev qN0 (x:A×B×C×D×E×F×G×H×I×J)(t:T):=(x.1,yYq x.2 t)
abbrev vOa (x:A×B×C×D×E×F×G×H×I×J×K)(t:T):=(x.1,qN0 x.2 t)
abbrev w5 (x:A×B×C×D×E×F×G×H×I×J×K×L)(t:T):=(x.1,vOa x.2 t)
abbrev iV (x:A×B×C×D×E×F×G×H×I×J×K×L×M)(t:T):=(x.1,w5 x.2 t)
abbrev vLq (x:A×B×C×D×E×F×G×H×I×J×K×L×M×N)(t:T):=(x.1,iV x.2 t)
abbrev qLf (x:A×B×C×D×E×F×G×H×I×J×K×L×M×N×O)(t:T):=(x.1,vLq x.2 t)
abbrev vOz (x:A×B×C×D×E×F×G×H×I×J×K×L×M×N×O×P)(t:T):=(x.1,qLf x.2 t)
abbrev vDj (x:A×B×C×D×E×F×G×H×I×J×K×L×M×N×O×P×Q)(t:T):=(x.1,vOz x.2 t)
abbrev yC (x:A×B×C×D×E×F×G×H×I×J×K×L×M×N×O×P×Q×R)(t:T):=(x.1,vDj x.2 t)
abbrev yM4 (x:A×B×C×D×E×F×G×H×I×J×K×L×M×N×O×P×Q×R×S)(t:T):=(x.1,yC x.2 t)
abbrev yZ (f:A→B→C→D→Y)(x:A×B×C×D×E):Y:=f x.1 x.2.1 x.2.2.1 x.2.2.2.1
abbrev kC (f:A→B→C→D→E→Y)(x:A×B×C×D×E×F):Y:=yZ (f x.1) x.2
abbrev iU (f:A→B→C→D→E→F→Y)(x:A×B×C×D×E×F×G):Y:=kC (f x.1) x.2
abbrev lk (f:A→B→C→D→E→F→G→Y)(x:A×B×C×D×E×F×G×H):Y:=iU (f x.1) x.2
abbrev lj (f:A→B→C→D→E→F→G→H→Y)(x:A×B×C×D×E×F×G×H×I):Y:=lk (f x.1) x.2
abbrev OW (f:A→B→C→D→E→F→G→H→I→Y)(x:A×B×C×D×E×F×G×H×I×J):Y:=lj (f x.1) x.2
abbrev vEr (f:A→B→C→D→E→F→G→H→I→J→Y)(x:A×B×C×D×E×F×G×H×I×J×K):Y:=OW (f x.1) x.2
abbrev rj (f:A→B→C→D→E→F→G→H→I→J→K→Y)(x:A×B×C×D×E×F×G×H×I×J×K×L):Y:=vEr (f x.1) x.2
abbrev JW (f:A→B→C→D→E→F→G→H→I→J→K→L→Y)(x:A×B×C×D×E×F×G×H×I×J×K×L×M):Y:=rj (f x.1) x.2
abbrev Zy (f:A→B→C→D→E→F→G→H→I→J→K→L→M→Y)(x:A×B×C×D×E×F×G×H×I×J×K×L×M×N):Y:=JW (f x.1) x.2
abbrev FP (f:A→B→C→D→E→F→G→H→I→J→K→L→M→N→Y)(x:A×B×C×D×E×F×G×H×I×J×K×L×M×N×O):Y:=Zy (f x.1) x.2
abbrev vT5 (f:A→B→C→D→E→F→G→H→I→J→K→L→M→N→O→Y)(x:A×B×C×D×E×F×G×H×I×J×K×L×M×N×O×P):Y:=FP (f x.1) x.2
abbrev yAs (f:A→B→C→D→E→F→G→H→I→J→K→L→M→N→O→P→Y)(x:A×B×C×D×E×F×G×H×I×J×K×L×M×N×O×P×Q):Y:=vT5 (f x.1) x.2
abbrev aaP (f:A→B→C→D→E→F→G→H→I→J→K→L→M→N→O→P→Q→Y)(x:A×B×C×D×E×F×G×H×I×J×K×L×M×N×O×P×Q×R):Y:=yAs (f x.1) x.2
abbrev vEa (f:A→B→C→D→E→F→G→H→I→J→K→L→M→N→O→P→Q→R→Y)(x:A×B×C×D×E×F×G×H×I×J×K×L×M×N×O×P×Q×R×S):Y:=aaP (f x.1) x.2
abbrev vQd (f:A→B→C→D→E→F→G→H→I→J→K→L→M→N→O→P→Q→R→S→Y)(x:A×B×C×D×E×F×G×H×I×J×K×L×M×N×O×P×Q×R×S×U):Y:=vEa (f x.1) x.2
abbrev qVo (x:A×B×C×D×E×F×G×H×I×J×K×L×M×N×O×P×Q)(t:T):=jO x.2.2.2.2.2.2.2.2.2.2.2.2.2 t
abbrev zy (x:A×B×C×D×E×F)(t:T):=jO x.2.2 t
abbrev vL1 (x:A×B×C×D×E×F×G)(t:T):=jO x.2.2.2 t
abbrev yXp (x:A×B×C×D×E×F×G×H)(t:T):=jO x.2.2.2.2 t
abbrev aav (x:A×B×C×D×E×F×G×H×I)(t:T):=jO x.2.2.2.2.2 t
abbrev vGu (x:A×B×C×D×E×F×G×H×I×J×K×L)(t:T):=jO x.2.2.2.2.2.2.2.2 t
abbrev qZx (x:A×B×C×D×E×F×G×H×I×J×K×L×M×N×O×P×Q)(t:T):=wS x.2.2.2.2.2.2.2.2.2.2.2.2 t
abbrev UR (x:A×B×C×D×E×F×G×H×I×J×K×L×M×N×O×P×Q)(t:T):=mO x.2.2.2.2.2.2.2.2.2.2.2 t
abbrev yKy (x:A×B×C×D×E×F×G×H)(t:T):=mO x.2.2 t
abbrev qSs (x:A×B×C×D×E×F×G×H×I×J×K×L×M×N×O×P×Q)(t:T):=gb x.2.2.2.2.2.2.2.2.2.2 t
abbrev yBe (x:A×B×C×D×E×F×G×H)(t:T):=gb x.2 t
abbrev qX4 (x:A×B×C×D×E×F×G×H×I×J×K)(t:T):=gb x.2.2.2.2 t
abbrev yDg (x:A×B×C×D×E×F×G×H×I×J×K×L×M×N)(t:T):=gb x.2.2.2.2.2.2.2 t
abbrev yQl (x:A×B×C×D×E×F×G×H×I×J×K×L×M×N×O)(t:T):=gb x.2.2.2.2.2.2.2.2 t
abbrev vP2 (x:A×B×C×D×E×F×G×H×I×J×K×L)(t:T):=vU x.2 t
abbrev F0 (x:A×B×C×D×E×F×G×H×I×J×K×L×M×N×O×P×Q×R)(t:T):=vU x.2.2.2.2.2.2.2 t
abbrev vP6 (x:A×B×C×D×E×F×G×H×I×J×K×L×M×N×O)(t:T):=O0 x.2 t
abbrev qKh (x:A×B×C×D×E×F×G×H×I×J×K×L×M×N×O×P×Q×R×S)(t:T):=wZ x.2 t
abbrev vX6 (x:A×B×C×D×E×F×G×H×I×J×K×L×M×N×O×P×Q×R×S×U):=wK x.2.2.2.2.2.2.2.2.2.2.2.2.2.2.2
abbrev O7 (x:A×B×C×D×E×F):=wK x.2
abbrev Pl (x:A×B×C×D×E×F×G×H×I×J×K×L×M×N×O×P×Q×R×S×U×V×W×X×Z×a):=wK x.2.2.2.2.2.2.2.2.2.2.2.2.2.2.2.2.2.2.2.2
abbrev qXo (x:A×B×C×D×E×F×G×H×I×J×K×L×M×N×O×P×Q×R×S×U×V×W×X×Z×a×b):=wK x.2.2.2.2.2.2.2.2.2.2.2.2.2.2.2.2.2.2.2.2.2
abbrev qYg (x:A×B×C×D×E×F×G):=wK x.2.2
abbrev vLc (x:A×B×C×D×E×F×G×H×I×J×K×L×M×N×O×P×Q×R×S×U×V×W×X×Z×a×b×Aa×Ab×Ac×Ad×Ae×Af×Ag×Ah×Ai×Aj):=wK x.2.2.2.2.2.2.2.2.2.2.2.2.2.2.2.2.2.2.2.2.2.2.2.2.2.2.2.2.2.2.2
abbrev vRi (x:A×B×C×D×E×F×G×H×I×J×K×L×M×N×O×P×Q×R×S×U×V×W×X×Z×a×b×Aa×Ab×Ac×Ad×Ae×Af×Ag×Ah×Ai×Aj×Ak):=wK x.2.2.2.2.2.2.2.2.2.2.2.2.2.2.2.2.2.2.2.2.2.2.2.2.2.2.2.2.2.2.2.2
abbrev yXu (x:A×B×C×D×E×F×G×H×I×J×K×L×M×N×O×P×Q×R×S×U×V×W×X×Z×a):=mb x.2.2.2.2.2.2.2.2.2.2.2.2.2.2.2.2.2.2
abbrev vOw (x:A×B×C×D×E×F×G×H×I×J×K×L×M×N×O×P×Q×R×S×U×V×W×X×Z×a×b):=mb x.2.2.2.2.2.2.2.2.2.2.2.2.2.2.2.2.2.2.2
abbrev yG8 (x:A×B×C×D×E×F×G×H×I×J×K×L×M×N×O×P×Q×R×S×U×V×W×X×Z×a×b×Aa):=mb x.2.2.2.2.2.2.2.2.2.2.2.2.2.2.2.2.2.2.2.2
abbrev FR (x:A×B×C×D×E×F×G×H×I×J×K×L×M×N×O×P×Q×R×S×U×V×W×X×Z×a×b):=wD x.2.2.2.2.2.2.2.2.2.2.2.2.2.2.2.2.2.2
abbrev vTm (x:A×B×C×D×E×F×G×H×I×J×K×L×M×N×O×P×Q×R×S×U×V×W×X×Z×a×b×Aa):=wD x.2.2.2.2.2.2.2.2.2.2.2.2.2.2.2.2.2.2.2
abbrev DT (x:A×B×C×D×E×F×G×H×I):=wD x.2
abbrev X5 (x:A×B×C×D×E×F×G×H×I×J×K×L×M×N):=wD x.2.2.2.2.2.2
abbrev qRv (x:A×B×C×D×E×F×G×H×I×J×K×L×M×N×O):=wD x.2.2.2.2.2.2.2
abbrev Wj (x:A×B×C×D×E×F×G×H×I×J×K×L×M×N×O×P×Q×R×S×U×V×W×X×Z×a):=ma x.2.2.2.2.2.2.2.2.2.2.2.2.2.2.2.2
abbrev vKo (x:A×B×C×D×E×F×G×H×I×J×K×L×M×N):=ma x.2.2.2.2.2
abbrev FJ (x:A×B×C×D×E×F×G×H×I×J×K×L):=eW x.2
abbrev Pm (x:A×B×C×D×E×F×G×H×I×J×K×L×M×N×O×P×Q×R×S×U×V×W×X×Z×a×b×Aa×Ab×Ac×Ad×Ae×Af×Ag×Ah×Ai):=eW x.2.2.2.2.2.2.2.2.2.2.2.2.2.2.2.2.2.2.2.2.2.2.2.2
abbrev qR4 (x:A×B×C×D×E×F×G×H×I×J×K×L×M×N×O×P×Q×R×S×U×V×W×X×Z×a×b×Aa×Ab×Ac×Ad×Ae×Af×Ag×Ah×Ai×Aj):=eW x.2.2.2.2.2.2.2.2.2.2.2.2.2.2.2.2.2.2.2.2.2.2.2.2.2
abbrev yGv (x:A×B×C×D×E×F×G×H×I×J×K×L×M):=eW x.2.2
abbrev vSr (x:A×B×C×D×E×F×G×H×I×J×K×L×M×N×O×P×Q×R×S×U×V×W×X×Z×a×b×Aa×Ab×Ac×Ad×Ae×Af×Ag×Ah×Ai×Aj×Ak×Al×Am×An×Ao×Ap×Aq×Ar×As×At):=eW x.2.2.2.2.2.2.2.2.2.2.2.2.2.2.2.2.2.2.2.2.2.2.2.2.2.2.2.2.2.2.2.2.2.2.2
abbrev yQa (x:A×B×C×D×E×F×G×H×I×J×K×L×M×N×O):=eW x.2.2.2.2
abbrev O8 (x:A×B×C×D×E×F×G×H×I×J×K×L×M×N×O×P):=eW x.2.2.2.2.2
abbrev qRm (x:A×B×C×D×E×F×G×H×I×J×K×L×M×N×O×P×Q):=eW x.2.2.2.2.2.2
abbrev vQc (x:A×B×C×D×E×F×G×H×I×J×K×L×M×N×O×P×Q×R×S×U×V×W×X):=qW x.2.2.2.2.2.2.2.2.2.2.2
abbrev vSy (x:A×B×C×D×E×F×G×H×I×J×K×L×M×N):=qW x.2.2
abbrev qu (x:A×B×C×D×E×F×G×H×I×J×K×L×M×N×O×P×Q):=qW x.2.2.2.2.2
abbrev vHo (x:A×B×C×D×E×F×G×H×I×J×K×L×M×N×O×P×Q×R×S):=qW x.2.2.2.2.2.2.2
abbrev aal (x:A×B×C×D×E×F×G×H×I×J×K×L×M×N×O×P×Q×R×S×U×V×W×X×Z×a×b×Aa×Ab×Ac×Ad×Ae):=jQ x.2.2.2.2.2.2.2.2.2.2.2.2
abbrev vKn (x:A×B×C×D×E×F×G×H×I×J×K×L×M×N×O×P×Q×R×S×U×V×W×X×Z×a×b×Aa×Ab×Ac×Ad×Ae×Af):=jQ x.2.2.2.2.2.2.2.2.2.2.2.2.2
abbrev iT (x:A×B×C×D×E×F×G×H×I×J×K×L×M×N×O×P×Q×R×S×U):=jQ x.2
abbrev qLl (x:A×B×C×D×E×F×G×H×I×J×K×L×M×N×O×P×Q×R×S×U×V):=jQ x.2.2
abbrev AT (x:A×B×C×D×E×F×G×H×I×J×K×L×M×N×O×P×Q×R×S×U×V):=O1 x.2
abbrev FY (x:A×B×C×D×E×F×G×H×I×J×K×L×M×N×O)(t:T):=vP x.2.2.2.2.2.2.2.2.2.2 t
abbrev PK (x:A×B×C×D×E×F×G×H×I×J×K×L×M×N×O×P×Q×R)(t:T):=vP x.2.2.2.2.2.2.2.2.2.2.2.2.2 t
abbrev gH (x:A×B×C×D×E×F)(t:T):=vP x.2 t
abbrev OG (x:A×B×C×D×E×F×G)(t:T):=vP x.2.2 t
abbrev vX7 (x:A×B×C×D×E×F×G×H×I×J)(t:T):=vP x.2.2.2.2.2 t
abbrev yUe (x:A×B×C×D×E×F×G×H×I×J×K×L×M×N×O×P×Q×R)(t:T):=oW x.2.2.2.2.2.2.2.2.2.2.2.2 t
abbrev yO6 (x:A×B×C×D×E×F×G×H×I×J×K×L×M×N×O×P×Q×R)(t:T):=wY x.2.2.2.2.2.2.2.2.2.2.2 t
abbrev F1 (x:A×B×C×D×E×F×G×H×I×J×K)(t:T):=wY x.2.2.2.2 t
abbrev qNe (x:A×B×C×D×E×F×G×H×I×J×K×L×M×N×O×P×Q×R)(t:T):=iR x.2.2.2.2.2.2.2.2.2.2 t
abbrev vIk (x:A×B×C×D×E×F×G×H×I×J×K×L×M×N×O×P×Q×R×S×U)(t:T):=iR x.2.2.2.2.2.2.2.2.2.2.2.2 t
abbrev qPy (x:A×B×C×D×E×F×G×H×I)(t:T):=iR x.2 t
abbrev vT9 (x:A×B×C×D×E×F×G×H×I×J×K×L×M)(t:T):=iR x.2.2.2.2.2 t
abbrev aaQ (x:A×B×C×D×E×F×G×H×I×J×K×L×M)(t:T):=yYq x.2.2.2.2 t
abbrev vDp (x:A×B×C×D×E×F×G×H×I×J×K×L×M×N×O×P×Q)(t:T):=w5 x.2.2.2.2.2 t
abbrev vZ1 (x:A×B×C×D×E×F×G×H×I×J×K×L×M×N×O×P×Q×R×S×U×V)(t:T):=qLf x.2.2.2.2.2.2 t
abbrev NY (x:A×B×C×D×E×F×G×H×I×J×K×L×M×N×O×P×Q×R×S)(t:T):=yC x.2 t
end
def U7 (k:Nat)(a0:Int):Option (vM⊕Unit):=
 bif decide (a0<0) then some (.inr ())
 else bif decide (a0>200000) then some (.inr ())
 else some (.inl (a0,[],0,[],0,0,0,false,false,0))
def re (k:Nat)(a0 a1 a2:Int):Option Bool:=
 bif decide (a0≥a1) then some (decide (a0≤a2))
 else some false
def yU7 (k:Nat)(a0:vJ):Option Bool:=
 (re k a0.1 0 1048576).bind fun x0=>
 bif !x0 then some true
 else(re k a0.2 0 10000).bind fun x1=>
 some (!x1)
abbrev WO:Type:=List vJ→Int→Int→Option (Unit⊕Int)
def yL0 (k:Nat)(rec:WO)(s0:List vJ)(s7 s8:Int):Option (Unit⊕Int):=
 bif decide (s8 < s7) then (bif zC s8 s0.length then ((yU7 k (s0.getD s8.toNat (0,0))).bind fun x0=>
   bif x0 then some (.inr s8)
   else rec s0 s7 (zA (s8+1)))
  else none)
 else some (.inl ())
def WR (k:Nat):Nat→WO:=yH (fun _ _ _=>none) (yL0 k)
def yQo (k:Nat)(a0:List vJ):Option Int:=
 (WR k k a0 (a0.length:Int) 0).bind fun z=>
 match z with
 |.inl z1=>some (-1)
 |.inr z2=>some z2
def yVn (k:Nat)(a0:List vJ):Option Bool:=
 (yQo k a0).bind fun x0=>
 some (decide (x0≥0))
def AO (k:Nat)(a0:yO):Option Bool:=
 (re k a0.1 1 6).bind fun x0=>
 bif x0 then ((re k a0.2.2.2.1 1 1048576).bind fun x1=>
  bif x1 then ((re k a0.2.2.1 0 a0.2.2.2.1).bind fun x2=>
   bif x2 then ((re k a0.2.2.2.2 1 1048576).bind fun x3=>
    bif decide ((a0.2.1.length : Int) ≤ 3) then (bif x3 then ((yVn k a0.2.1).bind fun x4=>
      some (!x4))
     else some false)
    else some false)
   else bif decide ((a0.2.1.length:Int)≤3) then some false
   else some false)
  else bif decide ((a0.2.1.length:Int)≤3) then some false
  else some false)
 else(re k a0.2.2.2.1 1 1048576).bind fun x5=>
 bif x5 then ((re k a0.2.2.1 0 a0.2.2.2.1).bind fun x6=>
  bif x6 then ((re k a0.2.2.2.2 1 1048576).bind fun x7=>
   some false)
  else some false)
 else some false
def Oh (k:Nat)(a0:Int):Option Bool:=
 bif decide (a0≥0) then some (decide (a0<2))
 else some false
def WT (k:Nat)(a0:AC):Option AC:=
 bif zO (0+a0.length) 1 then some a0
 else none
def ySi (k:Nat)(a0:vM)(a1:Int):Option AC:=
 (Oh k a1).bind fun x0=>
 bif !x0 then some []
 else bif decide (a1 = 0) then ((WT k a0.2.1).bind fun x1=>
  some x1)
 else bif decide (a1 = 1) then ((WT k a0.2.2.2.1).bind fun x2=>
  some x2)
 else none
abbrev WW:Type:=AC×EQ
abbrev WU:Type:=AC→EQ→Option WW
def yVh (k:Nat)(rec:WU)(s0:AC)(r0:EQ):Option WW:=
 bif decide ((s0.length : Int) ≥ 2) then (bif zC 0 s0.length then (bif zC 1 s0.length then (bif decide ((wO .i64 (shl .i64 (zA ((s0.getD 0 0))) 8) (zA ((s0.getD 1 0))))>60000) then some (s0,r0)
    else bif decide ((wO .i64 (shl .i64 (zA ((s0.getD 0 0))) 8) (zA ((s0.getD 1 0))))>(zA ((s0.length:Int)-2))) then some (s0,r0)
    else bif (decide (2 ≤ (zA (2 + (wO .i64 (shl .i64 (zA ((s0.getD 0 0))) 8) (zA ((s0.getD 1 0)))))))) && (decide ((zA (2 + (wO .i64 (shl .i64 (zA ((s0.getD 0 0))) 8) (zA ((s0.getD 1 0)))))) ≤ (s0.length : Int))) then (bif zO (0 + (qZ s0 2 ((zA (2 + (wO .i64 (shl .i64 (zA ((s0.getD 0 0))) 8) (zA ((s0.getD 1 0)))))).toNat - 2)).length) 1 then (let y0:AC:=(qZ s0 2 ((zA (2+(wO .i64 (shl .i64 (zA ((s0.getD 0 0))) 8) (zA ((s0.getD 1 0)))))).toNat-2))
      bif zO (r0.length + 1) 24 then (bif (decide (0≤(zA (2+(wO .i64 (shl .i64 (zA ((s0.getD 0 0))) 8) (zA ((s0.getD 1 0))))))))&&(decide ((zA (2+(wO .i64 (shl .i64 (zA ((s0.getD 0 0))) 8) (zA ((s0.getD 1 0))))))≤(s0.length:Int))) then(rec (List.drop (zA (2+(wO .i64 (shl .i64 (zA ((s0.getD 0 0))) 8) (zA ((s0.getD 1 0)))))).toNat s0) (r0++[y0]))
       else none)
      else none)
     else none)
    else none)
   else none)
  else none)
 else some (s0,r0)
def WX (k:Nat):Nat→WU:=yH (fun _ _=>none) (yVh k)
def WZ (k:Nat)(a0:AC):Option (EQ×Int):=
 (WX k k a0 []).bind fun z=>
 some (z.2,(z.1.length:Int))
abbrev W2:Type:=AC×Int×AC
abbrev W0:Type:=AC→Int→AC→Int→Int→AC→Option W2
def LB (k:Nat)(rec:W0)(s0:AC)(s5:Int)(bP:AC)(bd kf:Int)(r0:AC):Option W2:=
 bif decide (kf < bd) then (bif zC kf bP.length then(rec s0 (wO .u64 (shl .u64 s5 8) (IntKind.wrap .u64 ((bP.getD kf.toNat 0)))) bP bd (zA (kf+1)) r0)
  else none)
 else some (s0,s5,r0)
def Cm (k:Nat):Nat→W0:=yH (fun _ _ _ _ _ _=>none) (LB k)
def Co (k:Nat)(rec:AC→AC→Option AC)(s0 r0:AC):Option AC:=
 bif decide ((s0.length : Int) > 0) then (bif decide (8 ≤ (s0.length : Int)) then ((Cm k k s0 0 (List.take 8 s0) ((List.take 8 s0).length:Int) 0 r0).bind fun z=>
   bif zO (z.2.2.length + 1) 8 then (bif decide (8≤(z.1.length:Int)) then(rec (List.drop 8 z.1) (z.2.2++[(zA (z.2.1))]))
    else none)
   else none)
  else none)
 else some r0
def Cn (k:Nat):Nat→AC→AC→Option AC:=yH (fun _ _=>none) (Co k)
def sD (k:Nat)(a0:AC):Option (AC×Int):=
 bif !(decide ((Int.tmod (a0.length:Int) 8)=0)) then some ([],2)
 else(Cn k k a0 []).bind fun z1=>
 some (z1,0)
def Oi (k:Nat)(a0:vM)(a1:Int):Option (Int×AC×EQ):=
 (ySi k a0 a1).bind fun x0=>
 (WZ k x0).bind fun x1=>
 bif decide ((x1.1.length:Int)=0) then some (0,[],[])
 else bif zC 0 x1.1.length then (bif decide (((x1.1.getD 0 []).length:Int)<8) then some (0,[],[])
  else bif zC 0 x1.1.length then (bif decide (8 ≤ ((x1.1.getD 0 []).length : Int)) then ((sD k (List.take 8 (x1.1.getD 0 []))).bind fun x2=>
    bif zC 0 x2.1.length then (bif decide ((x2.1.getD 0 0)<1) then some (0,[],[])
     else bif zC 0 x2.1.length then (bif decide ((x2.1.getD 0 0)>4611686018427387904) then some (0,[],[])
      else bif zC 0 x2.1.length then (bif zC 0 x1.1.length then (bif decide (8 ≤ ((x1.1.getD 0 []).length : Int)) then (bif decide (1≤(x1.1.length:Int)) then some ((x2.1.getD 0 0),(List.drop 8 (x1.1.getD 0 [])),(qZ x1.1 1 (x1.1.length-1)))
         else none)
        else none)
       else none)
      else none)
     else none)
    else none)
   else none)
  else none)
 else none
def W7 (k:Nat)(a0:vM):Option (Int×Int×AC×EQ×Bool):=
 (Oi k a0 0).bind fun x0=>
 bif decide (x0.1 > 0) then ((Oi k a0 1).bind fun x1=>
  bif decide (x1.1>x0.1) then some (x1.1,1,x1.2.1,x1.2.2,true)
  else some (x0.1,0,x0.2.1,x0.2.2,true))
 else(Oi k a0 1).bind fun x2=>
 bif decide (x2.1>0) then some (x2.1,1,x2.2.1,x2.2.2,true)
 else some (0,0,[],[],false)
def H6 (k:Nat)(a0:Int):Option Bool:=
 bif decide (a0≥0) then some (decide (a0≤6))
 else some false
abbrev W9:Type:=Int→Int→Int→AC→Option AC
def De (k:Nat)(rec:W9)(s1 bo bz:Int)(r0:AC):Option AC:=
 bif decide (bz < bo) then (bif zC bz r0.length then(rec s1 bo (zA (bz+1)) (r0.set bz.toNat s1))
  else none)
 else some r0
def H7 (k:Nat):Nat→W9
 |0,_,_,_,_=>none
 |n+1,s1,bo,bz,r0=>De k (H7 k n) s1 bo bz r0
def yx (k:Nat)(a0 a1:Int):Option AC:=
 (H6 k a0).bind fun x0=>
 bif !x0 then some []
 else bif pP a0 a0 8 then ((H7 k k a1 ((List.replicate a0.toNat (0:Int)).length:Int) 0 (List.replicate a0.toNat (0:Int))).bind fun z=>
  some z)
 else none
abbrev Xb:Type:=Int→Int→Int→Int→EQ→Option EQ
def Dg (k:Nat)(rec:Xb)(s0 s1 bo bz:Int)(m0:EQ):Option EQ:=
 bif decide (bz < bo) then ((yx k s0 s1).bind fun x1=>
  bif zC bz m0.length then(rec s0 s1 bo (zA (bz+1)) (m0.set bz.toNat x1))
  else none)
 else some m0
def H8 (k:Nat):Nat→Xb
 |0,_,_,_,_,_=>none
 |n+1,s0,s1,bo,bz,m0=>Dg k (H8 k n) s0 s1 bo bz m0
def Df (k:Nat)(a0 a1:Int):Option EQ:=
 (H6 k a0).bind fun x0=>
 bif !x0 then some []
 else bif pP a0 a0 24 then ((H8 k k a0 a1 ((List.replicate a0.toNat ([]:AC)).length:Int) 0 (List.replicate a0.toNat ([]:AC))).bind fun z=>
  some z)
 else none
abbrev Xf:Type:=Int×yO×vH×vH×(List zK)×EQ×AC×EQ×AC
abbrev Xe:Type:=Int→List vJ→Int→Int→yO→vH→vH→List zK→EQ→AC→EQ→AC→Option Xf
def yPv (k:Nat)(rec:Xe)(s3:Int)(cH:List vJ)(s21 PN:Int)(b0:yO)(b1 b2:vH)(r3:List zK)(m4:EQ)(r5:AC)(m6:EQ)(r7:AC):Option Xf:=
 bif decide (PN < s21) then (bif zC PN cH.length then (bif zO (r7.length+1) 8 then(rec s3 cH s21 (zA (PN+1)) b0 b1 b2 r3 m4 r5 m6 (r7++[(cH.getD PN.toNat (0,0)).1]))
   else none)
  else none)
 else some (s3,b0,b1,b2,r3,m4,r5,m6,r7)
def Xg (k:Nat):Nat→Xe:=yH (fun _ _ _ _ _ _ _ _ _ _ _ _=>none) (yPv k)
abbrev Xi:Type:=vH×vH×(List zK)×EQ×AC×EQ×AC×EQ
abbrev Xh:Type:=Int→Int→yO→vH→vH→List zK→EQ→AC→EQ→AC→EQ→Option Xi
def yZ1 (k:Nat)(rec:Xh)(A2 rq:Int)(b0:yO)(b1 b2:vH)(r3:List zK)(m4:EQ)(r5:AC)(m6:EQ)(r7:AC)(m8:EQ):Option Xi:=
 bif decide (rq < A2) then (bif pP (b0.2.1.length : Int) (b0.2.1.length : Int) 8 then (bif zO (m8.length+1) 24 then(rec A2 (zA (rq+1)) b0 b1 b2 r3 m4 r5 m6 r7 (m8++[(List.replicate b0.2.1.length (0:Int))]))
   else none)
  else none)
 else some (b1,b2,r3,m4,r5,m6,r7,m8)
def Xj (k:Nat):Nat→Xh:=yH (fun _ _ _ _ _ _ _ _ _ _ _=>none) (yZ1 k)
def oS (k:Nat)(a0:yO):Option yT:=
 bif pP a0.1 a0.1 24 then ((Df k a0.1 (-1)).bind fun x0=>
  (yx k a0.1 (-1)).bind fun x1=>
  (Df k a0.1 0).bind fun x2=>
  (Xg k k a0.1 a0.2.1 (a0.2.1.length:Int) 0 a0 (0,0,false) (0,0,false) (List.replicate a0.1.toNat ((0,0,0):Int×Int×Int)) x0 x1 x2 []).bind fun z=>
  (Xj k k z.1 0 z.2.1 z.2.2.1 z.2.2.2.1 z.2.2.2.2.1 z.2.2.2.2.2.1 z.2.2.2.2.2.2.1 z.2.2.2.2.2.2.2.1 z.2.2.2.2.2.2.2.2 []).bind fun z1=>
  some (z1.2.1.1,(yKy z1 ([],[],z1.2.1.2))))
 else none
def LJ (k:Nat)(a0:Bool):Option Int:=
 bif a0 then some 1
 else some 0
abbrev Xo:Type:=AC×Int×Int×AC
abbrev Xm:Type:=Int→Int→AC→Int→Int→AC→Option Xo
def LH (k:Nat)(rec:Xm)(s5 s6:Int)(aP:AC)(bR bo:Int)(r0:AC):Option Xo:=
 bif decide (s6 ≥ 0) then (bif !(decide ((zA (8 * s6)) < 0)) then (bif zO (r0.length+1) 1 then(rec s5 (zA (s6-1)) aP bR bo (r0++[(IntKind.wrap .u8 ((shr .i64 s5 (zA (8*s6)))))]))
   else none)
  else none)
 else some (aP,bR,bo,r0)
def uL (k:Nat):Nat→Xm:=yH (fun _ _ _ _ _ _=>none) (LH k)
abbrev Xp:Type:=AC→Int→Int→AC→Option AC
def Cr (k:Nat)(rec:Xp)(aP:AC)(bR bo:Int)(r0:AC):Option AC:=
 bif decide (bo < bR) then (bif zC bo aP.length then ((uL k k (aP.getD bo.toNat 0) 7 aP bR bo r0).bind fun z=>
   rec z.1 z.2.1 (zA (z.2.2.1+1)) z.2.2.2)
  else none)
 else some r0
def ym (k:Nat):Nat→Xp:=yH (fun _ _ _ _=>none) (Cr k)
def uM (k:Nat)(a0:AC):Option AC:=
 bif pP 0 (zA (8 * (a0.length : Int))) 1 then ((ym k k a0 (a0.length:Int) 0 []).bind fun z1=>
  some z1)
 else none
def LI (k:Nat)(a0:AC):Option AC:=
 (uM k [(a0.length:Int)]).bind fun x0=>
 (uM k a0).bind fun x1=>
 bif zO (x0.length+x1.length) 1 then some (x0++x1)
 else none
abbrev Xt:Type:=EQ→Int→Int→AC→Option AC
def Cu (k:Nat)(rec:Xt)(s6:EQ)(s7 s8:Int)(r0:AC):Option AC:=
 bif decide (s8 < s7) then (bif zC s8 s6.length then ((LI k (s6.getD s8.toNat [])).bind fun x0=>
   bif zO (r0.length+x0.length) 1 then(rec s6 s7 (zA (s8+1)) (r0++x0))
   else none)
  else none)
 else some r0
def Ct (k:Nat):Nat→Xt:=yH (fun _ _ _ _=>none) (Cu k)
def HA (k:Nat)(a0:EQ):Option AC:=
 (Ct k k a0 (a0.length:Int) 0 []).bind fun z=>
 some z
abbrev Xy:Type:=yT×J8×EQ
abbrev Xx:Type:=List zK→Int→Int→yT→J8→EQ→Option Xy
def Cx (k:Nat)(rec:Xx)(kF:List zK)(fS ik:Int)(b0:yT)(b1:J8)(r2:EQ):Option Xy:=
 bif decide (ik < fS) then (bif zC ik kF.length then (bif zO (r2.length + 1) 24 then (let y0:EQ:=(r2++[[(kF.getD ik.toNat (0,0,0)).1,(kF.getD ik.toNat (0,0,0)).2.1,(kF.getD ik.toNat (0,0,0)).2.2]])
    rec kF fS (zA (ik+1)) b0 b1 y0)
   else none)
  else none)
 else some (b0,b1,r2)
def yp (k:Nat):Nat→Xx:=yH (fun _ _ _ _ _ _=>none) (Cx k)
abbrev XA:Type:=yT×EQ
abbrev Xz:Type:=List zB→Int→Int→yT→EQ→Option XA
def Cy (k:Nat)(rec:Xz)(tH:List zB)(s80 rr:Int)(b0:yT)(r1:EQ):Option XA:=
 bif decide (rr < s80) then (bif zC rr tH.length then (bif zO (r1.length + 1) 24 then (let y3:EQ:=(r1++[[(tH.getD rr.toNat (0,0,0,0,0,0,0)).1,(tH.getD rr.toNat (0,0,0,0,0,0,0)).2.1,(tH.getD rr.toNat (0,0,0,0,0,0,0)).2.2.1,(tH.getD rr.toNat (0,0,0,0,0,0,0)).2.2.2.1,(tH.getD rr.toNat (0,0,0,0,0,0,0)).2.2.2.2.1,(tH.getD rr.toNat (0,0,0,0,0,0,0)).2.2.2.2.2.1,(tH.getD rr.toNat (0,0,0,0,0,0,0)).2.2.2.2.2.2]])
    rec tH s80 (zA (rr+1)) b0 y3)
   else none)
  else none)
 else some (b0,r1)
def yq (k:Nat):Nat→Xz:=yH (fun _ _ _ _ _=>none) (Cy k)
def ku (k:Nat)(a0:yT):Option AC:=
 (LJ k a0.2.2.2.2.2.2.2.2.2.2).bind fun x0=>
 (yp k k a0.2.1 (a0.2.1.length:Int) 0 a0 (O7 a0) [[a0.1,a0.2.2.2.2.2.2.2.2.2.1,x0,(a0.2.1.length:Int),(a0.2.2.1.length:Int),(a0.2.2.2.1.length:Int),(a0.2.2.2.2.1.length:Int),(a0.2.2.2.2.2.2.1.length:Int),(a0.2.2.2.2.2.2.2.1.length:Int)]]).bind fun z=>
 bif zO (z.2.2.length + z.2.1.2.1.length) 24 then (bif zO ((z.2.2 ++ z.2.1.2.1).length + 1) 24 then (let y1:EQ:=((z.2.2++z.2.1.2.1)++[z.2.1.2.2.1])
   bif zO (y1.length + z.2.1.2.2.2.length) 24 then (bif zO ((y1 ++ z.2.1.2.2.2).length + 1) 24 then (let y2:EQ:=((y1++z.2.1.2.2.2)++[z.1.2.2.2.2.2.1])
     bif zO (y2.length + z.1.2.2.2.2.2.2.1.length) 24 then ((yq k k z.1.2.2.2.2.2.2.2.1 (z.1.2.2.2.2.2.2.2.1.length:Int) 0 z.1 (y2++z.1.2.2.2.2.2.2.1)).bind fun z1=>
      bif zO (z1.2.length + 1) 24 then (let y4:EQ:=(z1.2++[z1.1.2.2.2.2.2.2.2.2.1])
       (HA k y4).bind fun x1=>
       some x1)
      else none)
     else none)
    else none)
   else none)
  else none)
 else none
def Hy (k:Nat)(a0:AC):Option kD:=
 bif decide ((a0.length:Int)>60000) then some ([],false)
 else bif zO (2+a0.length) 1 then some (([(IntKind.wrap .u8 ((shr .i64 (a0.length:Int) 8))),(IntKind.wrap .u8 ((a0.length:Int)))]++a0),true)
 else none
def S8 (k:Nat)(a0:vM):Option Int:=
 some a0.1
def Ov (k:Nat)(a0:vM):Option Bool:=
 some a0.2.2.2.2.2.2.2.2.1
def JN (k:Nat)(a0:vM):Option (Bool×vM):=
 bif !a0.2.2.2.2.2.2.2.1 then some (false,(qN0 a0 (zA (a0.2.2.2.2.2.2.2.2.2+1))))
 else bif decide (a0.2.2.2.2.2.2.2.2.2<a0.2.2.2.2.2.1) then some (false,(qN0 a0 (zA (a0.2.2.2.2.2.2.2.2.2+1))))
 else bif (decide (0 ≤ (zA (a0.2.2.1 + (wJ true (wJ false a0.2.2.2.2.2.2.1 0) (zA ((a0.2.1.length : Int) - a0.2.2.1))))))) && (decide ((zA (a0.2.2.1 + (wJ true (wJ false a0.2.2.2.2.2.2.1 0) (zA ((a0.2.1.length : Int) - a0.2.2.1))))) ≤ (a0.2.1.length : Int))) then (bif (decide (0≤(zA (a0.2.2.2.2.1+(wJ true (zA ((wJ false a0.2.2.2.2.2.2.1 0)-(wJ true (wJ false a0.2.2.2.2.2.2.1 0) (zA ((a0.2.1.length:Int)-a0.2.2.1))))) (zA ((a0.2.2.2.1.length:Int)-a0.2.2.2.2.1)))))))&&(decide ((zA (a0.2.2.2.2.1+(wJ true (zA ((wJ false a0.2.2.2.2.2.2.1 0)-(wJ true (wJ false a0.2.2.2.2.2.2.1 0) (zA ((a0.2.1.length:Int)-a0.2.2.1))))) (zA ((a0.2.2.2.1.length:Int)-a0.2.2.2.2.1)))))≤(a0.2.2.2.1.length:Int))) then some (true,a0.1,(List.take ((zA (a0.2.2.1+(wJ true (wJ false a0.2.2.2.2.2.2.1 0) (zA ((a0.2.1.length:Int)-a0.2.2.1))))).toNat-0) a0.2.1),(zA (a0.2.2.1+(wJ true (wJ false a0.2.2.2.2.2.2.1 0) (zA ((a0.2.1.length:Int)-a0.2.2.1))))),(List.take ((zA (a0.2.2.2.2.1+(wJ true (zA ((wJ false a0.2.2.2.2.2.2.1 0)-(wJ true (wJ false a0.2.2.2.2.2.2.1 0) (zA ((a0.2.1.length:Int)-a0.2.2.1))))) (zA ((a0.2.2.2.1.length:Int)-a0.2.2.2.2.1))))).toNat-0) a0.2.2.2.1),(zA (a0.2.2.2.2.1+(wJ true (zA ((wJ false a0.2.2.2.2.2.2.1 0)-(wJ true (wJ false a0.2.2.2.2.2.2.1 0) (zA ((a0.2.1.length:Int)-a0.2.2.1))))) (zA ((a0.2.2.2.1.length:Int)-a0.2.2.2.2.1))))),a0.2.2.2.2.2.1,a0.2.2.2.2.2.2.1,a0.2.2.2.2.2.2.2.1,true,a0.2.2.2.2.2.2.2.2.2)
  else none)
 else none
def LG (k:Nat)(a0:vM)(a1:Int):Option (Int×vM):=
 (Ov k a0).bind fun x0=>
 bif x0 then some (11,a0)
 else(Oh k a1).bind fun x1=>
 bif !x1 then some (1,a0)
 else(JN k a0).bind fun x2=>
 bif x2.1 then some (11,x2.2)
 else bif decide (a1 = 0) then (bif decide (a1=0) then some (0,x2.2.1,[],0,x2.2.2.2.2)
  else bif decide (a1=1) then some (0,x2.2.1,[],x2.2.2.2.1,x2.2.2.2.2.1,0,x2.2.2.2.2.2.2)
  else none)
 else bif decide (a1 = 1) then (bif decide (a1=0) then some (0,x2.2.1,x2.2.2.1,0,[],x2.2.2.2.2.2)
  else bif decide (a1=1) then some (0,x2.2.1,x2.2.2.1,x2.2.2.2.1,[],0,x2.2.2.2.2.2.2)
  else none)
 else none
def sG (k:Nat)(a0:vM)(a1:Int)(a2:AC):Option (Int×vM):=
 (Ov k a0).bind fun x0=>
 bif x0 then some (11,a0)
 else(Oh k a1).bind fun x1=>
 bif !x1 then some (1,a0)
 else bif decide (a1 = 0) then (bif decide ((a2.length:Int)>(zA (a0.1-(a0.2.1.length:Int)))) then some (3,a0)
  else(JN k a0).bind fun x2=>
  bif x2.1 then some (11,x2.2)
  else bif decide (a1 = 0) then (bif zO (x2.2.2.1.length+a2.length) 1 then some (0,x2.2.1,(x2.2.2.1++a2),x2.2.2.2)
   else none)
  else bif decide (a1 = 1) then (bif zO (x2.2.2.2.2.1.length+a2.length) 1 then some (0,x2.2.1,x2.2.2.1,x2.2.2.2.1,(x2.2.2.2.2.1++a2),x2.2.2.2.2.2)
   else none)
  else none)
 else bif decide (a1 = 1) then (bif decide ((a2.length:Int)>(zA (a0.1-(a0.2.2.2.1.length:Int)))) then some (3,a0)
  else(JN k a0).bind fun x3=>
  bif x3.1 then some (11,x3.2)
  else bif decide (a1 = 0) then (bif zO (x3.2.2.1.length+a2.length) 1 then some (0,x3.2.1,(x3.2.2.1++a2),x3.2.2.2)
   else none)
  else bif decide (a1 = 1) then (bif zO (x3.2.2.2.2.1.length+a2.length) 1 then some (0,x3.2.1,x3.2.2.1,x3.2.2.2.1,(x3.2.2.2.2.1++a2),x3.2.2.2.2.2)
   else none)
  else none)
 else none
def Hv (k:Nat)(a0:vM):Option (Int×vM):=
 (Ov k a0).bind fun x0=>
 bif x0 then some (11,a0)
 else(JN k a0).bind fun x1=>
 bif x1.1 then some (11,x1.2)
 else some (0,x1.2.1,x1.2.2.1,(x1.2.2.1.length:Int),x1.2.2.2.2.1,(x1.2.2.2.2.1.length:Int),x1.2.2.2.2.2.2)
def LL (k:Nat)(a0:vM)(a1 a2:Int)(a3:AC):Option (Int×vM):=
 (uM k [a2]).bind fun x0=>
 bif zO (x0.length + a3.length) 1 then ((Hy k (x0++a3)).bind fun x1=>
  bif !x1.2 then some (10,a0)
  else bif decide (a2>4611686018427387904) then some (10,a0)
  else(S8 k a0).bind fun x2=>
  bif decide ((x1.1.length:Int)>x2) then some (10,a0)
  else(LG k a0 a1).bind fun x3=>
  bif !(decide (x3.1=0)) then some (x3.1,x3.2)
  else(sG k x3.2 a1 x1.1).bind fun x4=>
  bif !(decide (x4.1=0)) then some (x4.1,x4.2)
  else(Hv k x4.2).bind fun x5=>
  some (x5.1,x5.2))
 else none
def yCe (k:Nat)(a0:vM)(a1:AC):Option ((AC×EQ×Int×vM×fR)⊕(AC×EQ×Int×vM)):=
 (W7 k a0).bind fun x0=>
 bif x0.2.2.2.2 then some (.inl (x0.2.2.1,x0.2.2.2.1,0,a0,x0.2.1,x0.1,(x0.2.2.2.1.length:Int),true))
 else(LL k a0 0 1 a1).bind fun x1=>
 bif !(decide (x1.1=0)) then some (.inr ([],[],x1.1,x1.2))
 else bif zO (0+a1.length) 1 then some (.inl (a1,[],0,x1.2,0,1,0,false))
 else none
def yK3 (k:Nat)(a0:AC):Option (AC×AC×Bool):=
 bif decide ((a0.length:Int)<8) then some ([],[],false)
 else bif decide (8 ≤ (a0.length : Int)) then ((sD k (List.take 8 a0)).bind fun x0=>
  bif decide (8 ≤ (a0.length : Int)) then (bif zC 0 x0.1.length then (bif decide ((x0.1.getD 0 0)<0) then some ([],[],false)
    else bif zC 0 x0.1.length then (bif decide ((x0.1.getD 0 0)>(zA (Int.tdiv ((List.drop 8 a0).length:Int) 8))) then some ([],[],false)
     else bif zC 0 x0.1.length then (bif (decide (0 ≤ (zA (8 * (x0.1.getD 0 0))))) && (decide ((zA (8 * (x0.1.getD 0 0))) ≤ ((List.drop 8 a0).length : Int))) then ((sD k (List.take (zA (8*(x0.1.getD 0 0))).toNat (List.drop 8 a0))).bind fun x1=>
       bif (decide (0≤(zA (8*(x0.1.getD 0 0)))))&&(decide ((zA (8*(x0.1.getD 0 0)))≤((List.drop 8 a0).length:Int))) then some (x1.1,(List.drop (zA (8*(x0.1.getD 0 0))).toNat (List.drop 8 a0)),true)
       else none)
      else none)
     else none)
    else none)
   else none)
  else none)
 else none
def FL (k:Nat)(a0:kD):Option (AC×kD):=
 (yK3 k a0.1).bind fun x0=>
 bif a0.2 then some (x0.1,x0.2.1,true)
 else some (x0.1,x0.2.1,(!x0.2.2))
def Ox (k:Nat)(a0:kD)(a1:Int):Option (AC×kD):=
 (FL k a0).bind fun x0=>
 bif !(decide ((x0.1.length : Int) = a1)) then (bif pP a1 a1 8 then some ((List.replicate a1.toNat (0:Int)),x0.2.1,true)
  else none)
 else some (x0.1,x0.2)
abbrev XK:Type:=kD×EQ
abbrev XI:Type:=Int→kD→EQ→Option XK
def yTl (k:Nat)(rec:XI)(s1:Int)(b0:kD)(r1:EQ):Option XK:=
 bif decide (s1 > 0) then (bif !b0.2 then ((FL k b0).bind fun x0=>
   bif zO (r1.length+1) 24 then(rec (zA (s1-1)) x0.2 (r1++[x0.1]))
   else none)
  else some (b0,r1))
 else some (b0,r1)
def XM (k:Nat):Nat→XI:=yH (fun _ _ _=>none) (yTl k)
def Oy (k:Nat)(a0:kD)(a1:Int):Option (EQ×kD):=
 (XM k k a1 a0 []).bind fun z=>
 some (z.2,z.1)
def yXf (k:Nat)(a0 a1:AC):Option Bool:=
 some (F7 a0 a1)
abbrev XQ:Type:=AC×vH×kD×AC×vH×(List zK)
abbrev XP:Type:=AC→Int→vH→kD→AC→vH→List zK→Option XQ
def yE4 (k:Nat)(rec:XP)(s0:AC)(s7:Int)(b0:vH)(b1:kD)(r2:AC)(b3:vH)(r4:List zK):Option XQ:=
 bif decide (s7 > 0) then (bif !b1.2 then ((Ox k b1 3).bind fun x1=>
   bif zC 0 x1.1.length then (bif zC 1 x1.1.length then (bif zC 2 x1.1.length then (bif zO (r4.length + 1) 24 then (let y0:List zK:=(r4++[((x1.1.getD 0 0),(x1.1.getD 1 0),(x1.1.getD 2 0))])
       rec s0 (zA (s7-1)) b0 x1.2 r2 b3 y0)
      else none)
     else none)
    else none)
   else none)
  else some (s0,b0,b1,r2,b3,r4))
 else some (s0,b0,b1,r2,b3,r4)
def XR (k:Nat):Nat→XP:=yH (fun _ _ _ _ _ _ _=>none) (yE4 k)
abbrev XT:Type:=AC×vH×kD×vH×(List zK)×EQ×AC×EQ×AC×EQ×(List zB)
abbrev XS:Type:=AC→Int→vH→kD→vH→List zK→EQ→AC→EQ→AC→EQ→List zB→Option XT
def yOz (k:Nat)(rec:XS)(s0:AC)(s9:Int)(b0:vH)(b1:kD)(b2:vH)(r3:List zK)(r4:EQ)(r5:AC)(r6:EQ)(r7:AC)(r8:EQ)(r9:List zB):Option XT:=
 bif decide (s9 > 0) then (bif !b1.2 then ((Ox k b1 7).bind fun x7=>
   bif zC 0 x7.1.length then (bif zC 1 x7.1.length then (bif zC 2 x7.1.length then (bif zC 3 x7.1.length then (bif zC 4 x7.1.length then (bif zC 5 x7.1.length then (bif zC 6 x7.1.length then (bif zO (r9.length + 1) 56 then (let y1:List zB:=(r9++[((x7.1.getD 0 0),(x7.1.getD 1 0),(x7.1.getD 2 0),(x7.1.getD 3 0),(x7.1.getD 4 0),(x7.1.getD 5 0),(x7.1.getD 6 0))])
           rec s0 (zA (s9-1)) b0 x7.2 b2 r3 r4 r5 r6 r7 r8 y1)
          else none)
         else none)
        else none)
       else none)
      else none)
     else none)
    else none)
   else none)
  else some (s0,b0,b1,b2,r3,r4,r5,r6,r7,r8,r9))
 else some (s0,b0,b1,b2,r3,r4,r5,r6,r7,r8,r9)
def XU (k:Nat):Nat→XS:=yH (fun _ _ _ _ _ _ _ _ _ _ _ _=>none) (yOz k)
def OB (k:Nat)(a0:AC):Option (yT×Bool):=
 (Ox k (a0,false) 9).bind fun x0=>
 bif zC 0 x0.1.length then (bif zC 1 x0.1.length then (bif zC 2 x0.1.length then (bif zC 3 x0.1.length then ((XR k k a0 (x0.1.getD 3 0) (0,0,false) x0.2 x0.1 ((x0.1.getD 0 0),(x0.1.getD 1 0),(decide ((x0.1.getD 2 0)=1))) []).bind fun z=>
     bif zC 4 z.2.2.2.1.length then ((Oy k z.2.2.1 (z.2.2.2.1.getD 4 0)).bind fun x2=>
      (FL k x2.2).bind fun x3=>
      bif zC 6 z.2.2.2.1.length then ((Oy k x3.2 (z.2.2.2.1.getD 6 0)).bind fun x4=>
       (FL k x4.2).bind fun x5=>
       bif zC 7 z.2.2.2.1.length then ((Oy k x5.2 (z.2.2.2.1.getD 7 0)).bind fun x6=>
        bif zC 8 z.2.2.2.1.length then ((XU k k z.1 (z.2.2.2.1.getD 8 0) z.2.1 x6.2 z.2.2.2.2.1 z.2.2.2.2.2 x2.1 x3.1 x4.1 x5.1 x6.1 []).bind fun z1=>
         (FL k z1.2.2.1).bind fun x8=>
         bif x8.2.2 then some ((0,[],[],[],[],[],[],[],[],0,false),false)
         else(ku k (z1.2.2.2.1.1,(qX4 z1 (x8.1,z1.2.2.2.1.2)))).bind fun x9=>
         (yXf k x9 z1.1).bind fun dC=>
         bif !dC then some ((0,[],[],[],[],[],[],[],[],0,false),false)
         else some ((z1.2.2.2.1.1,(qX4 z1 (x8.1,z1.2.2.2.1.2))),true))
        else none)
       else none)
      else none)
     else none)
    else none)
   else none)
  else none)
 else none
def sE (k:Nat)(a0:Int):Option Int:=
 bif decide (a0=9) then some 0
 else bif decide (a0=13) then some 0
 else bif decide (a0=14) then some 0
 else bif decide (a0=15) then some 0
 else bif decide (a0=2) then some 1
 else bif decide (a0=6) then some 1
 else bif decide (a0=7) then some 1
 else bif decide (a0=16) then some 1
 else bif decide (a0=19) then some 1
 else bif decide (a0=20) then some 1
 else bif decide (a0=21) then some 1
 else bif decide (a0=22) then some 1
 else bif decide (a0=23) then some 1
 else bif decide (a0=3) then some 2
 else bif decide (a0=4) then some 2
 else bif decide (a0=5) then some 2
 else bif decide (a0=8) then some 2
 else bif decide (a0=10) then some 2
 else bif decide (a0=11) then some 2
 else bif decide (a0=12) then some 2
 else bif decide (a0=18) then some 4
 else bif decide (a0=17) then some 5
 else bif decide (a0=1) then some 6
 else some (-1)
def nA (k:Nat)(a0:AC):Option (zB×Int):=
 bif decide ((a0.length:Int)=0) then some ((0,0,0,0,0,0,0),2)
 else bif decide (1 ≤ (a0.length : Int)) then ((sD k (List.drop 1 a0)).bind fun x0=>
  bif !(decide (x0.2=0)) then some ((0,0,0,0,0,0,0),2)
  else bif zC 0 a0.length then ((sE k (zA ((a0.getD 0 0)))).bind fun x1=>
   bif !(decide ((x0.1.length:Int)=x1)) then some ((0,0,0,0,0,0,0),2)
   else bif zC 0 a0.length then some (((zA ((a0.getD 0 0))),(bif (Nat.blt 0 x0.1.length) then(x0.1.getD 0 0) else 0),(bif (Nat.blt 1 x0.1.length) then(x0.1.getD 1 0) else 0),(bif (Nat.blt 2 x0.1.length) then(x0.1.getD 2 0) else 0),(bif (Nat.blt 3 x0.1.length) then(x0.1.getD 3 0) else 0),(bif (Nat.blt 4 x0.1.length) then(x0.1.getD 4 0) else 0),(bif (Nat.blt 5 x0.1.length) then(x0.1.getD 5 0) else 0)),0)
   else none)
  else none)
 else none
def XW (k:Nat)(a0:AC):Option (qA×Int):=
 bif decide ((a0.length:Int)<8) then some ((0,0,0,0,0,0,0,0),2)
 else bif decide (8 ≤ (a0.length : Int)) then ((sD k (List.take 8 a0)).bind fun x0=>
  bif decide (8 ≤ (a0.length : Int)) then ((nA k (List.drop 8 a0)).bind fun x1=>
   bif !(decide (x1.2=0)) then some ((0,0,0,0,0,0,0,0),2)
   else bif zC 0 x0.1.length then some (((x0.1.getD 0 0),x1.1),0)
   else none)
  else none)
 else none
def Nc (k:Nat)(a0:Int):Option Bool:=
 bif decide (a0≥10) then some (decide (a0≤14))
 else some false
def I1 (k:Nat)(a0:Int):Option Bool:=
 bif decide (a0≥1) then some (decide (a0≤14))
 else some false
abbrev XY:Type:=AC→Int→Int→Option (Unit⊕Bool)
def vp (k:Nat)(rec:XY)(bo:AC)(bz aZ:Int):Option (Unit⊕Bool):=
 bif decide (aZ < bz) then (bif zC aZ bo.length then (bif !(decide ((bo.getD aZ.toNat 0)=0)) then some (.inr false)
   else rec bo bz (zA (aZ+1)))
  else none)
 else some (.inl ())
def th (k:Nat):Nat→XY:=yH (fun _ _ _=>none) (vp k)
def qt (k:Nat)(a0:zB):Option Bool:=
 (sE k a0.1).bind fun x0=>
 bif decide (x0<0) then some false
 else bif (decide (0 ≤ x0)) && (decide (x0 ≤ 6)) then ((th k k (qZ [a0.2.1,a0.2.2.1,a0.2.2.2.1,a0.2.2.2.2.1,a0.2.2.2.2.2.1,a0.2.2.2.2.2.2] x0.toNat (6-x0.toNat)) ((qZ [a0.2.1,a0.2.2.1,a0.2.2.2.1,a0.2.2.2.2.1,a0.2.2.2.2.2.1,a0.2.2.2.2.2.2] x0.toNat (6-x0.toNat)).length:Int) 0).bind fun z=>
  match z with
  |.inl z1=>some true
  |.inr z2=>some z2)
 else none
def tj (k:Nat)(a0:yO)(a1:yT)(a2:qA):Option Int:=
 (Nc k a2.2.1).bind fun x0=>
 bif decide (a2.1 ≥ 0) then ((I1 k a2.2.1).bind fun x1=>
  bif !x1 then some 5
  else(qt k a2.2).bind fun x2=>
  bif !x2 then some 5
  else bif x0 then (bif !(decide (a2.1=(-1))) then some 5
   else bif !x0 then (bif !(decide (a2.1<a0.1)) then some 5
    else bif a1.2.2.2.2.2.2.2.2.2.2 then (bif !(decide (a2.2.1=9)) then some 7
     else some 0)
    else some 0)
   else bif a1.2.2.2.2.2.2.2.2.2.2 then (bif !(decide (a2.2.1=9)) then some 7
    else some 0)
   else some 0)
  else bif !x0 then (bif !(decide (a2.1<a0.1)) then some 5
   else bif a1.2.2.2.2.2.2.2.2.2.2 then (bif !(decide (a2.2.1=9)) then some 7
    else some 0)
   else some 0)
  else bif a1.2.2.2.2.2.2.2.2.2.2 then (bif !(decide (a2.2.1=9)) then some 7
   else some 0)
  else some 0)
 else(I1 k a2.2.1).bind fun x3=>
 bif !x3 then some 5
 else(qt k a2.2).bind fun x4=>
 bif !x4 then some 5
 else bif x0 then (bif !(decide (a2.1=(-1))) then some 5
  else bif !x0 then some 5
  else bif a1.2.2.2.2.2.2.2.2.2.2 then (bif !(decide (a2.2.1=9)) then some 7
   else some 0)
  else some 0)
 else bif !x0 then some 5
 else bif a1.2.2.2.2.2.2.2.2.2.2 then (bif !(decide (a2.2.1=9)) then some 7
  else some 0)
 else some 0
def Uq (k:Nat)(bZ ba bq cn bH bT bJ a1:Int):Option Bool:=
 some (decide (ba=a1))
abbrev X2:Type:=List zB
abbrev X0:Type:=List zB→Int→Int→Int→List zB→Option X2
def Em (k:Nat)(rec:X0)(s8:List zB)(s9 aw af:Int)(r1:List zB):Option X2:=
 bif decide (aw < s9) then (bif zC aw s8.length then ((Uq k (s8.getD aw.toNat (0,0,0,0,0,0,0)).1 (s8.getD aw.toNat (0,0,0,0,0,0,0)).2.1 (s8.getD aw.toNat (0,0,0,0,0,0,0)).2.2.1 (s8.getD aw.toNat (0,0,0,0,0,0,0)).2.2.2.1 (s8.getD aw.toNat (0,0,0,0,0,0,0)).2.2.2.2.1 (s8.getD aw.toNat (0,0,0,0,0,0,0)).2.2.2.2.2.1 (s8.getD aw.toNat (0,0,0,0,0,0,0)).2.2.2.2.2.2 af).bind fun x0=>
   bif x0 then (bif zO (r1.length + 1) 56 then (let y0:List zB:=(r1++[(s8.getD aw.toNat (0,0,0,0,0,0,0))])
     rec s8 s9 (zA (aw+1)) af y0)
    else none)
   else rec s8 s9 (zA (aw+1)) af r1)
  else none)
 else some r1
def IN (k:Nat):Nat→X0
 |0,_,_,_,_,_=>none
 |n+1,s8,s9,aw,af,r1=>Em k (IN k n) s8 s9 aw af r1
def Uo (k:Nat)(a0:List zB)(cS:Int):Option (List zB):=
 (IN k k a0 (a0.length:Int) 0 cS []).bind fun z=>
 some z
def IM (k:Nat)(a0:List zB)(a1:Int):Option (List zB):=
 (Uo k a0 a1).bind fun x0=>
 some x0
def yB5 (k:Nat)(a0:(Int×Int×Int×Int×Int×Int×Bool×Int))(a1:Int)(a2:AC):Option jF:=
 some (a0.1,[],(gH a0 ([],[],[],[],[],[],[],[],a0.2.2.2.2.2.1,a0.2.2.2.2.2.2.1,a0.2.2.2.2.2.2.2,[(a0.2.2.2.2.2.2.2,a1,(bif (Nat.blt 0 a2.length) then(a2.getD 0 0) else 0),(bif (Nat.blt 1 a2.length) then(a2.getD 1 0) else 0),(bif (Nat.blt 2 a2.length) then(a2.getD 2 0) else 0),(bif (Nat.blt 3 a2.length) then(a2.getD 3 0) else 0),(bif (Nat.blt 4 a2.length) then(a2.getD 4 0) else 0),(bif (Nat.blt 5 a2.length) then(a2.getD 5 0) else 0))])))
def Jc (k:Nat)(a0:yT)(a1:Int):Option (List qA):=
 bif zC a1 a0.2.1.length then ((IM k a0.2.2.2.2.2.2.2.1 a1).bind fun x0=>
  (yB5 k (0,0,0,0,0,0,false,a1) 17 [(a0.2.1.getD a1.toNat (0,0,0)).1,(a0.2.1.getD a1.toNat (0,0,0)).2.1,(a0.2.1.getD a1.toNat (0,0,0)).2.2,(x0.length:Int),a0.1]).bind fun x1=>
  some x1.2.2.2.2.2.2.2.2.2.2.2.2.2.2.2.2.2)
 else none
def N0 (k:Nat)(a0:kE)(a1:Int)(a2:AC):Option jF:=
 some (vI a0 [(a0.2.2.2.2.2.2.2.2.2.2.2.2.2.2.2.2,a1,(bif (Nat.blt 0 a2.length) then(a2.getD 0 0) else 0),(bif (Nat.blt 1 a2.length) then(a2.getD 1 0) else 0),(bif (Nat.blt 2 a2.length) then(a2.getD 2 0) else 0),(bif (Nat.blt 3 a2.length) then(a2.getD 3 0) else 0),(bif (Nat.blt 4 a2.length) then(a2.getD 4 0) else 0),(bif (Nat.blt 5 a2.length) then(a2.getD 5 0) else 0))])
def vE (k:Nat)(a0 a1 a2:Int):Option Bool:=
 bif decide (a0≥a1) then some (decide (a0≤a2))
 else some false
def IX (k:Nat)(a0:yO)(a1:Int):Option Bool:=
 bif decide (a1≥0) then some (decide (a1<a0.1))
 else some false
def M8 (k:Nat)(a0:yO)(a1:Int)(a2:zB):Option Bool:=
 (IX k a0 a2.2.1).bind fun x0=>
 bif x0 then ((IX k a0 a2.2.2.1).bind fun x1=>
  bif x1 then (bif decide (a2.1 ≥ 1) then (bif decide (a2.2.2.2.1 ≥ 1) then (bif decide (a2.2.2.2.1 ≤ 1099511627776) then (bif decide (a2.2.2.2.2.1 ≥ 1) then (bif !(decide (a2.2.1 = a2.2.2.1)) then (bif decide (a2.2.2.2.2.1 ≤ 3) then (bif decide (a2.2.2.2.2.2.1 ≥ 0) then (bif decide (a2.2.2.2.2.2.1 ≤ a2.2.2.2.2.2.2) then (bif decide (a2.2.2.2.2.2.2≥a1) then some (decide (a2.2.2.2.2.2.2≤1048576))
           else some false)
          else some false)
         else some false)
        else some false)
       else some false)
      else bif !(decide (a2.2.1=a2.2.2.1)) then some false
      else some false)
     else bif !(decide (a2.2.1=a2.2.2.1)) then some false
     else some false)
    else bif !(decide (a2.2.1=a2.2.2.1)) then some false
    else some false)
   else bif !(decide (a2.2.1=a2.2.2.1)) then some false
   else some false)
  else bif decide (a2.1 ≥ 1) then (bif decide (a2.2.2.2.1 ≥ 1) then (bif decide (a2.2.2.2.1 ≤ 1099511627776) then (bif decide (a2.2.2.2.2.1≥1) then some false
     else some false)
    else some false)
   else some false)
  else some false)
 else bif decide (a2.1 ≥ 1) then (bif decide (a2.2.2.2.1 ≥ 1) then (bif decide (a2.2.2.2.1 ≤ 1099511627776) then (bif decide (a2.2.2.2.2.1≥1) then some false
    else some false)
   else some false)
  else some false)
 else some false
def zu (k:Nat)(a0:yO)(a1 a2:Int):Option Int:=
 bif decide (a1≥a0.2.2.2.1) then some 7
 else bif decide (a2 = 3) then (bif decide (a1≥a0.2.2.1) then some 7
  else some 0)
 else some 0
def EG (k:Nat)(a0:yO)(a1:Int)(a2:zB):Option Int:=
 (M8 k a0 a1 a2).bind fun x0=>
 bif !x0 then some 1
 else(zu k a0 a1 a2.2.2.2.2.1).bind fun x1=>
 some x1
def MF (k:Nat)(a0:Int):Option Bool:=
 some (!(decide (a0=a0)))
def ME (k:Nat)(a0 a1:Int):Option Bool:=
 (MF k a0).bind fun x0=>
 bif x0 then ((MF k a1).bind fun x1=>
  bif !x1 then some true
  else some (decide (a0<a1)))
 else some (decide (a0<a1))
def MH (k:Nat)(a0:Int):Option Bool:=
 some (!(decide (a0=a0)))
abbrev Ya:Type:=AC×Int×Int×Int
abbrev X8:Type:=AC→Int→Int→Int→Int→Option Ya
def MG (k:Nat)(rec:X8)(s0:AC)(s1 s6 s7 s8:Int):Option Ya:=
 bif decide (s7 < s8) then (bif zC (zA ((shr .u64 (IntKind.wrap .u64 ((zA (s7 + s8)))) 1))) s0.length then ((ME k (s0.getD (zA ((shr .u64 (IntKind.wrap .u64 ((zA (s7+s8)))) 1))).toNat 0) s1).bind fun x0=>
   bif x0 then(rec s0 s1 s6 (zA ((zA ((shr .u64 (IntKind.wrap .u64 ((zA (s7+s8)))) 1)))+1)) s8)
   else rec s0 s1 s6 s7 (zA ((shr .u64 (IntKind.wrap .u64 ((zA (s7+s8)))) 1))))
  else none)
 else some (s0,s1,s6,s7)
def Iy (k:Nat):Nat→X8:=yH (fun _ _ _ _ _=>none) (MG k)
def DX (k:Nat)(a0:AC)(a1:Int):Option jW:=
 (Iy k k a0 a1 (a0.length:Int) 0 (a0.length:Int)).bind fun z=>
 bif decide (z.2.2.2 < z.2.2.1) then (bif zC z.2.2.2 z.1.length then (bif decide ((z.1.getD z.2.2.2.toNat 0)=z.2.1) then some (z.2.2.2,true)
   else bif zC z.2.2.2 z.1.length then ((MH k (z.1.getD z.2.2.2.toNat 0)).bind fun x1=>
    bif x1 then ((MH k z.2.1).bind fun x2=>
     some (z.2.2.2,x2))
    else some (z.2.2.2,false))
   else none)
  else none)
 else some (z.2.2.2,false)
def oG (k:Nat)(a0:AC):Option AC:=
 bif zO (0+a0.length) 8 then some a0
 else none
abbrev vAu (k:Nat)(a0:AC)(a1:Int)(a2:AC):Option AC:=ins 8 a0 a1 a2
def DY (k:Nat)(a0:AC)(a1:Int):Option (AC×Int):=
 (DX k a0 a1).bind fun x0=>
 bif x0.2 then some (a0,6)
 else bif decide ((a0.length:Int)≥200) then some (a0,3)
 else(oG k a0).bind fun x1=>
 (vAu k x1 x0.1 [a1]).bind fun x2=>
 some (x2,0)
def T0 (k:Nat)(bZ ba bq cn bH bT bJ a1:Int):Option Bool:=
 some (decide (bZ=a1))
abbrev Yg:Type:=List zB→Int→Int→Int→Option (Unit⊕Int)
def DK (k:Nat)(rec:Yg)(s0:List zB)(s7 s8 af:Int):Option (Unit⊕Int):=
 bif decide (s8 < s7) then (bif zC s8 s0.length then ((T0 k (s0.getD s8.toNat (0,0,0,0,0,0,0)).1 (s0.getD s8.toNat (0,0,0,0,0,0,0)).2.1 (s0.getD s8.toNat (0,0,0,0,0,0,0)).2.2.1 (s0.getD s8.toNat (0,0,0,0,0,0,0)).2.2.2.1 (s0.getD s8.toNat (0,0,0,0,0,0,0)).2.2.2.2.1 (s0.getD s8.toNat (0,0,0,0,0,0,0)).2.2.2.2.2.1 (s0.getD s8.toNat (0,0,0,0,0,0,0)).2.2.2.2.2.2 af).bind fun x0=>
   bif x0 then some (.inr s8)
   else rec s0 s7 (zA (s8+1)) af)
  else none)
 else some (.inl ())
def DJ (k:Nat):Nat→Yg
 |0,_,_,_,_=>none
 |n+1,s0,s7,s8,af=>DK k (DJ k n) s0 s7 s8 af
def T1 (k:Nat)(a0:List zB)(cS:Int):Option Int:=
 (DJ k k a0 (a0.length:Int) 0 cS).bind fun z=>
 match z with
 |.inl z1=>some (-1)
 |.inr z2=>some z2
def nD (k:Nat)(a0:List zB)(a1:Int):Option Int:=
 (T1 k a0 a1).bind fun x0=>
 some x0
def MC (k:Nat)(a0:Int):Option Bool:=
 some (!(decide (a0=a0)))
def Is (k:Nat)(a0 a1:Int):Option Int:=
 (MC k a0).bind fun x0=>
 (MC k a1).bind fun x1=>
 bif x0 then (bif x1 then some 0
  else some (-1))
 else bif x1 then some 1
 else bif decide (a0<a1) then some (-1)
 else bif decide (a0>a1) then some 1
 else some 0
abbrev Yl:Type:=Int→AC→Int→Int→Option (Int⊕Int)
def yDa (k:Nat)(rec:Yl)(s3:Int)(s6:AC)(s7 s8:Int):Option (Int⊕Int):=
 bif decide (s8 < s7) then (bif zC s8 s6.length then (bif !(decide ((s6.getD s8.toNat 0)=s3)) then some (.inr (s6.getD s8.toNat 0))
   else rec s3 s6 s7 (zA (s8+1)))
  else none)
 else some (.inl s3)
def DL (k:Nat):Nat→Yl
 |0,_,_,_,_=>none
 |n+1,s3,s6,s7,s8=>yDa k (DL k n) s3 s6 s7 s8
def MB (k:Nat)(a0:AC):Option Int:=
 (DL k k 0 a0 (a0.length:Int) 0).bind fun z=>
 match z with
 |.inl z1=>some z1
 |.inr z2=>some z2
def DM (k:Nat)(bZ ba bq cn bH bT bJ gi cp dj dV dm hZ ic:Int):Option Int:=
 (Is k ba cp).bind fun x0=>
 (Is k bH dm).bind fun x1=>
 (MB k [x0,x1]).bind fun x2=>
 some x2
def uW (k:Nat)(a0:List zB):Option (List zB):=
 bif zO (0+a0.length) 56 then some a0
 else none
abbrev MD (k:Nat)(a0:List zB)(a1:Int)(a2:List zB):Option (List zB):=ins 56 a0 a1 a2
abbrev Yq:Type:=(List zB)×Int×zB
abbrev Yo:Type:=List zB→Int→zB→Option Yq
def DQ (k:Nat)(rec:Yo)(s0:List zB)(s6:Int)(b0:zB):Option Yq:=
 bif decide (s6 < (s0.length : Int)) then (bif zC s6 s0.length then ((DM k (s0.getD s6.toNat (0,0,0,0,0,0,0)).1 (s0.getD s6.toNat (0,0,0,0,0,0,0)).2.1 (s0.getD s6.toNat (0,0,0,0,0,0,0)).2.2.1 (s0.getD s6.toNat (0,0,0,0,0,0,0)).2.2.2.1 (s0.getD s6.toNat (0,0,0,0,0,0,0)).2.2.2.2.1 (s0.getD s6.toNat (0,0,0,0,0,0,0)).2.2.2.2.2.1 (s0.getD s6.toNat (0,0,0,0,0,0,0)).2.2.2.2.2.2 b0.1 b0.2.1 b0.2.2.1 b0.2.2.2.1 b0.2.2.2.2.1 b0.2.2.2.2.2.1 b0.2.2.2.2.2.2).bind fun x1=>
   bif decide (x1≤0) then(rec s0 (zA (s6+1)) b0)
   else some (s0,s6,b0))
  else none)
 else some (s0,s6,b0)
def DP (k:Nat):Nat→Yo:=yH (fun _ _ _=>none) (DQ k)
def uX (k:Nat)(a0:List zB)(a1:zB):Option ((List zB)×Int):=
 (nD k a0 a1.1).bind fun x0=>
 bif decide (x0≥0) then some (a0,6)
 else bif decide ((a0.length:Int)≥40) then some (a0,3)
 else(DP k k a0 0 a1).bind fun z=>
 (uW k z.1).bind fun x2=>
 (MD k x2 z.2.1 [z.2.2]).bind fun x3=>
 some (x3,0)
def M9 (k:Nat)(a0:jF)(a1:J7):Option (Int×jF):=
 (vE k a1.2.1 0 (zA (a0.1-1))).bind fun x0=>
 bif !x0 then some (1,a0)
 else(vE k a1.2.2.2.1 1 3).bind fun x1=>
 bif !x1 then some (1,a0)
 else(EG k (yF a0) a0.2.2.2.2.2.1 (a1.1,a0.2.2.2.2.2.2.2.2.2.2.2.2.2.2.2.2.1,a1.2)).bind fun x2=>
 bif !(decide (x2=0)) then some (x2,a0)
 else(DY k a0.2.2.2.2.2.2.2.2.2.2.2.2.2.1 a1.1).bind fun x3=>
 bif !(decide (x3.2=0)) then some (x3.2,a0)
 else(uX k a0.2.2.2.2.2.2.2.2.2.2.2.2.1 (a1.1,a0.2.2.2.2.2.2.2.2.2.2.2.2.2.2.2.2.1,a1.2)).bind fun x4=>
 bif !(decide (x4.2=0)) then some (x4.2,a0)
 else some (0,(iV a0 (x4.1,x3.1,a0.2.2.2.2.2.2.2.2.2.2.2.2.2.2)))
def Ys (k:Nat)(a0:jF)(a1:Int):Option (zB×Int):=
 (nD k a0.2.2.2.2.2.2.2.2.2.2.2.2.1 a1).bind fun x0=>
 bif decide (x0<0) then some ((0,0,0,0,0,0,0),4)
 else bif zC x0 a0.2.2.2.2.2.2.2.2.2.2.2.2.1.length then (bif !(decide ((a0.2.2.2.2.2.2.2.2.2.2.2.2.1.getD x0.toNat (0,0,0,0,0,0,0)).2.1=a0.2.2.2.2.2.2.2.2.2.2.2.2.2.2.2.2.1)) then some ((0,0,0,0,0,0,0),4)
  else bif zC x0 a0.2.2.2.2.2.2.2.2.2.2.2.2.1.length then some ((a0.2.2.2.2.2.2.2.2.2.2.2.2.1.getD x0.toNat (0,0,0,0,0,0,0)),0)
  else none)
 else none
def Ir (k:Nat)(a0:List zB)(a1 a2:Int):Option (List zB):=
 bif ((((decide (0 ≤ a1)) && (decide (a1 ≤ a2))) && (decide (a2 ≤ (a0.length : Int)))) && (decide (((a2.toNat : Nat) : Int) ≤ (a0.length : Int)))) && (decide ((a0.length : Int) ≤ (a0.length : Int))) then (bif decide (a1=a2) then some a0
  else bif (decide (0 ≤ a1)) && (decide (a1 ≤ (a0.length : Int))) then (bif (decide (0 ≤ a2)) && (decide (a2 ≤ (a0.length : Int))) then (bif Nat.ble (a1.toNat - 0) (0 + a2.toNat) then (let y0:List zB:=(((List.take (a1.toNat-0) a0)++(qZ a0 (0+a2.toNat) (a0.length-a2.toNat)))++(List.drop ((a1.toNat-0)+(a0.length-a2.toNat)) a0))
     bif ((decide (0 ≤ ((qZ y0 0 ((a1.toNat - 0) + (a0.length - a2.toNat))).length : Int))) && (decide (((qZ y0 0 ((a1.toNat - 0) + (a0.length - a2.toNat))).length : Int) ≤ (a0.length : Int)))) && (decide ((a0.length : Int) ≤ (((y0.length - 0) : Nat) : Int))) then (let y1:List zB:=(((List.take (0+(qZ y0 0 ((a1.toNat-0)+(a0.length-a2.toNat))).length) y0)++(List.replicate (a0.length-(qZ y0 0 ((a1.toNat-0)+(a0.length-a2.toNat))).length) ((0,0,0,0,0,0,0):Int×Int×Int×Int×Int×Int×Int)))++(List.drop ((0+(qZ y0 0 ((a1.toNat-0)+(a0.length-a2.toNat))).length)+(a0.length-(qZ y0 0 ((a1.toNat-0)+(a0.length-a2.toNat))).length)) y0))
      some (List.take ((a1.toNat-0)+(a0.length-a2.toNat)) y1))
     else none)
    else none)
   else none)
  else none)
 else none
def oK (k:Nat)(a0:List zB)(a1:Int):Option qR8:=
 (nD k a0 a1).bind fun x0=>
 bif decide (x0<0) then some (a0,0,0,0,0,0,0,0,4)
 else(uW k a0).bind fun x1=>
 (Ir k x1 x0 (zA (x0+1))).bind fun x2=>
 bif zC x0 a0.length then some (x2,(gb (a0.getD x0.toNat (0,0,0,0,0,0,0)) 0))
 else none
def vn (k:Nat)(a0:jF)(a1:Int)(a2:AC):Option jF:=
 bif zO (a0.2.2.2.2.2.2.2.2.2.2.2.2.2.2.2.2.2.length + 1) 64 then (let y0:List qA:=(a0.2.2.2.2.2.2.2.2.2.2.2.2.2.2.2.2.2++[(a0.2.2.2.2.2.2.2.2.2.2.2.2.2.2.2.2.1,a1,(bif (Nat.blt 0 a2.length) then(a2.getD 0 0) else 0),(bif (Nat.blt 1 a2.length) then(a2.getD 1 0) else 0),(bif (Nat.blt 2 a2.length) then(a2.getD 2 0) else 0),(bif (Nat.blt 3 a2.length) then(a2.getD 3 0) else 0),(bif (Nat.blt 4 a2.length) then(a2.getD 4 0) else 0),(bif (Nat.blt 5 a2.length) then(a2.getD 5 0) else 0))])
  some (yC a0 y0))
 else none
def DR (k:Nat)(a0:List zB)(a1 a2:Int):Option ((List zB)×Int):=
 (oK k a0 a1).bind fun x0=>
 bif !(decide (x0.2.2.2.2.2.2.2.2=0)) then some (a0,x0.2.2.2.2.2.2.2.2)
 else(uX k x0.1 (gH x0 (a2,x0.2.2.2.2.2.2.1,x0.2.2.2.2.2.2.2.1))).bind fun x1=>
 some (x1.1,x1.2)
def T6 (k:Nat)(a0:List zB)(a1:Int):Option qR8:=
 (nD k a0 a1).bind fun x0=>
 bif decide (x0<0) then none
 else(uW k a0).bind fun x1=>
 (Ir k x1 x0 (zA (x0+1))).bind fun x2=>
 bif zC x0 a0.length then some (x2,(gb (a0.getD x0.toNat (0,0,0,0,0,0,0)) 0))
 else none
abbrev Yv:Type:=Int×(List zB)×zB
abbrev Yt:Type:=Int→List zB→zB→Option Yv
def DV (k:Nat)(rec:Yt)(s9:Int)(r0:List zB)(b1:zB):Option Yv:=
 bif decide (s9 < (r0.length : Int)) then (bif zC s9 r0.length then ((DM k (r0.getD s9.toNat (0,0,0,0,0,0,0)).1 (r0.getD s9.toNat (0,0,0,0,0,0,0)).2.1 (r0.getD s9.toNat (0,0,0,0,0,0,0)).2.2.1 (r0.getD s9.toNat (0,0,0,0,0,0,0)).2.2.2.1 (r0.getD s9.toNat (0,0,0,0,0,0,0)).2.2.2.2.1 (r0.getD s9.toNat (0,0,0,0,0,0,0)).2.2.2.2.2.1 (r0.getD s9.toNat (0,0,0,0,0,0,0)).2.2.2.2.2.2 b1.1 b1.2.1 b1.2.2.1 b1.2.2.2.1 b1.2.2.2.2.1 b1.2.2.2.2.2.1 b1.2.2.2.2.2.2).bind fun x1=>
   bif decide (x1<0) then(rec (zA (s9+1)) r0 b1)
   else some (s9,r0,b1))
  else none)
 else some (s9,r0,b1)
def DU (k:Nat):Nat→Yt:=yH (fun _ _ _=>none) (DV k)
def DW (k:Nat)(a0:List zB)(a1:Int):Option ((List zB)×Int):=
 (T6 k a0 a1).bind fun x0=>
 bif !(decide (x0.2.2.2.2.2.2.2.2=0)) then some (a0,x0.2.2.2.2.2.2.2.2)
 else(DU k k 0 x0.1 (DT x0)).bind fun z=>
 (MD k z.2.1 z.1 [z.2.2]).bind fun x2=>
 some (x2,0)
def DS (k:Nat)(a0:List zB)(a1:Int):Option ((List zB)×Int):=
 (oK k a0 a1).bind fun x0=>
 bif !(decide (x0.2.2.2.2.2.2.2.2=0)) then some (a0,x0.2.2.2.2.2.2.2.2)
 else(uX k x0.1 (DT x0)).bind fun x1=>
 some (x1.1,x1.2)
def zv (k:Nat)(a0:jF)(a1:zB):Option (Int×jF):=
 (Ys k a0 a1.2.1).bind fun x0=>
 bif !(decide (x0.2=0)) then some (x0.2,a0)
 else bif decide (a1.1 = 2) then ((oK k a0.2.2.2.2.2.2.2.2.2.2.2.2.1 a1.2.1).bind fun x1=>
  (vn k (iV a0 (x1.1,a0.2.2.2.2.2.2.2.2.2.2.2.2.2)) 20 [a1.2.1]).bind fun x2=>
  some (x1.2.2.2.2.2.2.2.2,x2))
 else bif decide (a1.1 = 4) then ((vE k a1.2.2.1 1 3).bind fun x3=>
  bif !x3 then some (1,a0)
  else(zu k (yF a0) a0.2.2.2.2.2.1 a1.2.2.1).bind fun x4=>
  bif !(decide (x4=0)) then some (x4,a0)
  else(DR k a0.2.2.2.2.2.2.2.2.2.2.2.2.1 a1.2.1 a1.2.2.1).bind fun x5=>
  some (x5.2,(iV a0 (x5.1,a0.2.2.2.2.2.2.2.2.2.2.2.2.2))))
 else bif decide (a1.2.2.1 = 0) then ((DW k a0.2.2.2.2.2.2.2.2.2.2.2.2.1 a1.2.1).bind fun x6=>
  some (x6.2,(iV a0 (x6.1,a0.2.2.2.2.2.2.2.2.2.2.2.2.2))))
 else bif decide (a1.2.2.1 = 1) then ((DS k a0.2.2.2.2.2.2.2.2.2.2.2.2.1 a1.2.1).bind fun x7=>
  some (x7.2,(iV a0 (x7.1,a0.2.2.2.2.2.2.2.2.2.2.2.2.2))))
 else some (1,a0)
def Tq (k:Nat)(a0:List zK):Option (List zK):=
 bif zO (0+a0.length) 24 then some a0
 else none
def Tl (k:Nat)(a0:EQ):Option Nat:=
 bif zO (0+a0.length) 24 then some a0.length
 else none
abbrev Yx:Type:=EQ→Int→Int→EQ→Nat→Option (EQ×Nat)
def CN (k:Nat)(rec:Yx)(s8:EQ)(s9 aw:Int)(m0:EQ)(n0:Nat):Option (EQ×Nat):=
 bif decide (aw < s9) then (bif zC aw s8.length then ((oG k (s8.getD aw.toNat [])).bind fun x1=>
   bif zC aw n0 then (bif Nat.beq aw.toNat m0.length then(rec s8 s9 (zA (aw+1)) (m0++[x1]) n0)
    else none)
   else none)
  else none)
 else some (m0,n0)
def HP (k:Nat):Nat→Yx
 |0,_,_,_,_,_=>none
 |n+1,s8,s9,aw,m0,n0=>CN k (HP k n) s8 s9 aw m0 n0
def HQ (k:Nat)(a0:EQ):Option EQ:=
 (Tl k a0).bind fun x0=>
 (HP k k a0 (a0.length:Int) 0 [] x0).bind fun z=>
 Sl z.1 z.2
def fM (k:Nat)(au:List zK)(aA:EQ)(az:AC)(ax:EQ):Option J8:=
 (Tq k au).bind fun x0=>
 (HQ k aA).bind fun x1=>
 (oG k az).bind fun x2=>
 (HQ k ax).bind fun x3=>
 some (x0,x1,x2,x3)
def YB (k:Nat)(a0:jF)(a1:Int):Option Bool:=
 (vE k a1 0 (zA (a0.1-1))).bind fun x0=>
 bif x0 then some (!(decide (a1=a0.2.2.2.2.2.2.2.2.2.2.2.2.2.2.2.2.1)))
 else some false
def zw (k:Nat)(a0:jF)(a1:zB):Option (Int×jF):=
 (fM k a0.2.2.2.2.2.2.1 a0.2.2.2.2.2.2.2.1 a0.2.2.2.2.2.2.2.2.1 a0.2.2.2.2.2.2.2.2.2.1).bind fun x0=>
 bif decide (a1.1 = 5) then ((YB k a0 a1.2.1).bind fun x1=>
  bif !x1 then some (1,a0)
  else(vE k a1.2.2.1 (-1) 1152921504606846976).bind fun x2=>
  bif !x2 then some (1,a0)
  else bif zC a0.2.2.2.2.2.2.2.2.2.2.2.2.2.2.2.2.1 x0.2.1.length then (bif zC a1.2.1 (x0.2.1.getD a0.2.2.2.2.2.2.2.2.2.2.2.2.2.2.2.2.1.toNat []).length then (let y0:EQ:=(x0.2.1.set a0.2.2.2.2.2.2.2.2.2.2.2.2.2.2.2.2.1.toNat ((x0.2.1.getD a0.2.2.2.2.2.2.2.2.2.2.2.2.2.2.2.2.1.toNat []).set a1.2.1.toNat a1.2.2.1))
    some (0,(wY a0 (x0.1,y0,x0.2.2.1,x0.2.2.2,a0.2.2.2.2.2.2.2.2.2.2))))
   else none)
  else none)
 else bif decide (a1.1 = 6) then ((vE k a1.2.1 (-1) 1152921504606846976).bind fun x3=>
  bif !x3 then some (1,a0)
  else bif zC a0.2.2.2.2.2.2.2.2.2.2.2.2.2.2.2.2.1 x0.2.2.1.length then (let y1:AC:=(x0.2.2.1.set a0.2.2.2.2.2.2.2.2.2.2.2.2.2.2.2.2.1.toNat a1.2.1)
   some (0,(wY a0 (x0.1,x0.2.1,y1,x0.2.2.2,a0.2.2.2.2.2.2.2.2.2.2))))
  else none)
 else(vE k a1.2.1 0 1152921504606846976).bind fun x4=>
 bif !x4 then some (1,a0)
 else bif zC a0.2.2.2.2.2.2.2.2.2.2.2.2.2.2.2.2.1 x0.1.length then (let y2:List zK:=(x0.1.set a0.2.2.2.2.2.2.2.2.2.2.2.2.2.2.2.2.1.toNat ((x0.1.getD a0.2.2.2.2.2.2.2.2.2.2.2.2.2.2.2.2.1.toNat (0,0,0)).1,(x0.1.getD a0.2.2.2.2.2.2.2.2.2.2.2.2.2.2.2.2.1.toNat (0,0,0)).2.1,a1.2.1))
  some (0,(wY a0 (y2,x0.2.1,x0.2.2.1,x0.2.2.2,a0.2.2.2.2.2.2.2.2.2.2))))
 else none
def JS (k:Nat)(a0:jF)(a1:Int):Option Bool:=
 (vE k a1 0 (zA ((a0.2.1.length:Int)-1))).bind fun x0=>
 some x0
def EI (k:Nat)(a0:EQ):Option EQ:=
 bif zO (0+a0.length) 24 then some a0
 else none
def oN (k:Nat)(a0:AC)(a1 a2:Int):Option AC:=
 (oG k a0).bind fun x0=>
 bif decide (a1 ≥ 0) then (bif decide (a1 < (x0.length : Int)) then (bif zC a1 x0.length then some (x0.set a1.toNat a2)
   else none)
  else some x0)
 else some x0
def Ub (k:Nat)(a0:Int):Option Bool:=
 bif decide (a0≥0) then some (decide (a0≤10000))
 else some false
def IA (k:Nat)(a0 a1:Int):Option vJ:=
 some ((IntKind.wrap .u64 ((IntKind.wrap .u64 ((IntKind.wrap .u64 ((shr .u64 a0 32)*(shr .u64 a1 32)))+(shr .u64 (IntKind.wrap .u64 ((IntKind.wrap .u64 ((shr .u64 a0 32)*(yJ .u64 a1 4294967295)))+(shr .u64 (IntKind.wrap .u64 ((yJ .u64 a0 4294967295)*(yJ .u64 a1 4294967295))) 32))) 32)))+(shr .u64 (IntKind.wrap .u64 ((yJ .u64 (IntKind.wrap .u64 ((IntKind.wrap .u64 ((shr .u64 a0 32)*(yJ .u64 a1 4294967295)))+(shr .u64 (IntKind.wrap .u64 ((yJ .u64 a0 4294967295)*(yJ .u64 a1 4294967295))) 32))) 4294967295)+(IntKind.wrap .u64 ((yJ .u64 a0 4294967295)*(shr .u64 a1 32))))) 32))),(IntKind.wrap .u64 (a0*a1)))
def yWz (k:Nat)(a0:Int):Option Int:=
 bif decide (a0 ≥ 4294967296) then (bif decide ((shr .u64 a0 32) ≥ 65536) then (bif decide ((shr .u64 (shr .u64 a0 32) 16)≥256) then none
   else none)
  else bif decide ((shr .u64 a0 32)≥256) then none
  else none)
 else bif decide (a0 ≥ 65536) then (bif decide ((shr .u64 a0 16)≥256) then none
  else none)
 else bif decide (a0≥256) then none
 else none
def yGx (k:Nat)(a0:Int):Option Int:=
 (yWz k a0).bind fun x0=>
 some (zA (64-x0))
abbrev YI:Type:=Int×Int×Int×Int×Int×Int×Int×Int
abbrev YH:Type:=Int→Int→Int→Int→Int→Int→Int→Int→Int→Option YI
def yQh (k:Nat)(rec:YH)(s2 s8 s9 aw aP bo bz aZ bP:Int):Option YI:=
 bif decide (aZ ≥ 4294967296) then (bif decide ((IntKind.wrap .u64 (bP+s9))≥4294967296) then some (s2,s8,s9,aw,aP,bo,bz,(IntKind.wrap .u64 (aZ-1)))
  else rec s2 s8 s9 aw aP bo bz (IntKind.wrap .u64 (aZ-1)) (IntKind.wrap .u64 (bP+s9)))
 else bif decide ((IntKind.wrap .u64 (aZ * aw)) > (IntKind.wrap .u64 ((IntKind.wrap .u64 (4294967296 * bP)) + bo))) then (bif decide ((IntKind.wrap .u64 (bP+s9))≥4294967296) then some (s2,s8,s9,aw,aP,bo,bz,(IntKind.wrap .u64 (aZ-1)))
  else rec s2 s8 s9 aw aP bo bz (IntKind.wrap .u64 (aZ-1)) (IntKind.wrap .u64 (bP+s9)))
 else some (s2,s8,s9,aw,aP,bo,bz,aZ)
def YJ (k:Nat):Nat→YH:=yH (fun _ _ _ _ _ _ _ _ _=>none) (yQh k)
abbrev YL:Type:=Int×Int×Int×Int×Int×Int
abbrev YK:Type:=Int→Int→Int→Int→Int→Int→Int→Int→Int→Option YL
def qZc (k:Nat)(rec:YK)(s2 s8 s9 aw bz aZ bP bd kf:Int):Option YL:=
 bif decide (kf ≥ 4294967296) then (bif decide ((IntKind.wrap .u64 (bP+s9))≥4294967296) then some (s2,s8,bz,aZ,bd,(IntKind.wrap .u64 (kf-1)))
  else rec s2 s8 s9 aw bz aZ (IntKind.wrap .u64 (bP+s9)) bd (IntKind.wrap .u64 (kf-1)))
 else bif decide ((IntKind.wrap .u64 (kf * aw)) > (IntKind.wrap .u64 ((IntKind.wrap .u64 (4294967296 * bP)) + bz))) then (bif decide ((IntKind.wrap .u64 (bP+s9))≥4294967296) then some (s2,s8,bz,aZ,bd,(IntKind.wrap .u64 (kf-1)))
  else rec s2 s8 s9 aw bz aZ (IntKind.wrap .u64 (bP+s9)) bd (IntKind.wrap .u64 (kf-1)))
 else some (s2,s8,bz,aZ,bd,kf)
def YM (k:Nat):Nat→YK:=yH (fun _ _ _ _ _ _ _ _ _=>none) (qZc k)
def MJ (k:Nat)(a0 a1 a2:Int):Option vJ:=
 bif decide (a2=0) then none
 else bif decide (a2≤a0) then none
 else bif decide (a0 = 0) then (bif !(decide (a2 = 0)) then (bif !(decide (a2=0)) then some ((IntKind.wrap .u64 (Int.tdiv a1 a2)),(Int.tmod a1 a2))
   else none)
  else none)
 else(yGx k a2).bind fun x0=>
 bif !(decide ((IntKind.wrap .u64 (x0)) < 0)) then (bif !(decide ((IntKind.wrap .u64 (x0)) < 0)) then (bif !(decide ((IntKind.wrap .u64 (64 - (IntKind.wrap .u64 (x0)))) < 0)) then (bif !(decide ((IntKind.wrap .u64 (x0)) < 0)) then (bif !(decide ((shr .u64 (shl .u64 a2 (IntKind.wrap .u64 (x0))) 32) = 0)) then ((YJ k k (shl .u64 a2 (IntKind.wrap .u64 (x0))) (IntKind.wrap .u64 (x0)) (shr .u64 (shl .u64 a2 (IntKind.wrap .u64 (x0))) 32) (yJ .u64 (shl .u64 a2 (IntKind.wrap .u64 (x0))) 4294967295) (wO .u64 (shl .u64 a0 (IntKind.wrap .u64 (x0))) (shr .u64 a1 (IntKind.wrap .u64 (64-(IntKind.wrap .u64 (x0)))))) (shr .u64 (shl .u64 a1 (IntKind.wrap .u64 (x0))) 32) (yJ .u64 (shl .u64 a1 (IntKind.wrap .u64 (x0))) 4294967295) (IntKind.wrap .u64 (Int.tdiv (wO .u64 (shl .u64 a0 (IntKind.wrap .u64 (x0))) (shr .u64 a1 (IntKind.wrap .u64 (64-(IntKind.wrap .u64 (x0)))))) (shr .u64 (shl .u64 a2 (IntKind.wrap .u64 (x0))) 32))) (IntKind.wrap .u64 ((wO .u64 (shl .u64 a0 (IntKind.wrap .u64 (x0))) (shr .u64 a1 (IntKind.wrap .u64 (64-(IntKind.wrap .u64 (x0))))))-(IntKind.wrap .u64 ((IntKind.wrap .u64 (Int.tdiv (wO .u64 (shl .u64 a0 (IntKind.wrap .u64 (x0))) (shr .u64 a1 (IntKind.wrap .u64 (64-(IntKind.wrap .u64 (x0)))))) (shr .u64 (shl .u64 a2 (IntKind.wrap .u64 (x0))) 32)))*(shr .u64 (shl .u64 a2 (IntKind.wrap .u64 (x0))) 32)))))).bind fun z=>
      bif !(decide (z.2.2.1 = 0)) then ((YM k k z.1 z.2.1 z.2.2.1 z.2.2.2.1 z.2.2.2.2.2.2.1 z.2.2.2.2.2.2.2 (IntKind.wrap .u64 ((IntKind.wrap .u64 ((IntKind.wrap .u64 ((IntKind.wrap .u64 (z.2.2.2.2.1*4294967296))+z.2.2.2.2.2.1))-(IntKind.wrap .u64 (z.2.2.2.2.2.2.2*z.1))))-(IntKind.wrap .u64 ((IntKind.wrap .u64 (Int.tdiv (IntKind.wrap .u64 ((IntKind.wrap .u64 ((IntKind.wrap .u64 (z.2.2.2.2.1*4294967296))+z.2.2.2.2.2.1))-(IntKind.wrap .u64 (z.2.2.2.2.2.2.2*z.1)))) z.2.2.1))*z.2.2.1)))) (IntKind.wrap .u64 ((IntKind.wrap .u64 ((IntKind.wrap .u64 (z.2.2.2.2.1*4294967296))+z.2.2.2.2.2.1))-(IntKind.wrap .u64 (z.2.2.2.2.2.2.2*z.1)))) (IntKind.wrap .u64 (Int.tdiv (IntKind.wrap .u64 ((IntKind.wrap .u64 ((IntKind.wrap .u64 (z.2.2.2.2.1*4294967296))+z.2.2.2.2.2.1))-(IntKind.wrap .u64 (z.2.2.2.2.2.2.2*z.1)))) z.2.2.1))).bind fun z1=>
       bif !(decide (z1.2.1<0)) then some ((IntKind.wrap .u64 ((IntKind.wrap .u64 (z1.2.2.2.1*4294967296))+z1.2.2.2.2.2)),(shr .u64 (IntKind.wrap .u64 ((IntKind.wrap .u64 ((IntKind.wrap .u64 (z1.2.2.2.2.1*4294967296))+z1.2.2.1))-(IntKind.wrap .u64 (z1.2.2.2.2.2*z1.1)))) z1.2.1))
       else none)
      else none)
     else none)
    else none)
   else none)
  else none)
 else none
def MK (k:Nat)(a0 a1 a2:Int):Option jW:=
 bif decide (a0<0) then some (0,false)
 else bif decide (a1<0) then some (0,false)
 else(Ub k a2).bind fun x0=>
 bif !x0 then some (0,false)
 else(IA k (IntKind.wrap .u64 (a0)) (IntKind.wrap .u64 (a1))).bind fun x1=>
 (MJ k (Int.tmod x1.1 10000) x1.2 10000).bind fun x2=>
 (IA k x2.1 (IntKind.wrap .u64 ((zA (10000-a2))))).bind fun x3=>
 (Cf k x3.2 (IntKind.wrap .u64 (Int.tdiv (IntKind.wrap .u64 (x2.2*(IntKind.wrap .u64 ((zA (10000-a2)))))) 10000)) 0).bind fun x4=>
 bif decide ((IntKind.wrap .u64 (Int.tdiv x1.1 10000)) > 0) then (bif decide ((IntKind.wrap .u64 ((zA (10000-a2))))>0) then some (0,false)
  else bif decide ((IntKind.wrap .u64 (x3.1+x4.2))>0) then some (0,false)
  else bif decide (x4.1>9223372036854775807) then some (0,false)
  else some ((zA (x4.1)),true))
 else bif decide ((IntKind.wrap .u64 (x3.1+x4.2))>0) then some (0,false)
 else bif decide (x4.1>9223372036854775807) then some (0,false)
 else some ((zA (x4.1)),true)
abbrev YR:Type:=Int→Int→AC→Int→Int→Option vJ
def D4 (k:Nat)(rec:YR)(s4 s5:Int)(s9:AC)(aw aP:Int):Option vJ:=
 bif decide (aP < aw) then (bif zC aP s9.length then ((Cf k s5 (IntKind.wrap .u64 ((s9.getD aP.toNat 0))) 0).bind fun x0=>
   rec (zA (s4+(zA ((shr .i64 (s9.getD aP.toNat 0) 63)+(zA (x0.2)))))) x0.1 s9 aw (zA (aP+1)))
  else none)
 else some (s4,s5)
def D3 (k:Nat):Nat→YR
 |0,_,_,_,_,_=>none
 |n+1,s4,s5,s9,aw,aP=>D4 k (D3 k n) s4 s5 s9 aw aP
def Iz (k:Nat)(a0:AC):Option jW:=
 (D3 k k 0 0 a0 (a0.length:Int) 0).bind fun z=>
 bif !(decide (z.1=(shr .i64 (zA (z.2)) 63))) then some (0,false)
 else some ((zA (z.2)),true)
abbrev YU:Type:=AC→AC→List vJ→Int→Int→AC→Option (AC⊕jW)
def D6 (k:Nat)(rec:YU)(s1 s2:AC)(iX:List vJ)(aV eY:Int)(r0:AC):Option (AC⊕jW):=
 bif decide (eY < aV) then (bif zC eY iX.length then (bif zC eY s1.length then (bif zC eY s2.length then ((MK k (s1.getD eY.toNat 0) (s2.getD eY.toNat 0) (iX.getD eY.toNat (0,0)).2).bind fun x0=>
     bif !x0.2 then some (.inr (0,false))
     else bif zO (r0.length+1) 8 then(rec s1 s2 iX aV (zA (eY+1)) (r0++[x0.1]))
     else none)
    else none)
   else none)
  else none)
 else some (.inl r0)
def D5 (k:Nat):Nat→YU:=yH (fun _ _ _ _ _ _=>none) (D6 k)
def qi (k:Nat)(a0:List vJ)(a1 a2:AC):Option jW:=
 bif !(decide ((a1.length:Int)=(a0.length:Int))) then some (0,false)
 else bif !(decide ((a2.length:Int)=(a0.length:Int))) then some (0,false)
 else(D5 k k a1 a2 a0 (a0.length:Int) 0 []).bind fun z=>
 match z with
 |.inl z1=>(Iz k z1).bind fun x1=>
  some (x1.1,x1.2)
 |.inr z2=>some (z2.1,z2.2)
def Na (k:Nat)(a0:jF)(a1 a2:Int):Option (Int×jF):=
 (JS k a0 a1).bind fun x0=>
 bif !x0 then some (1,a0)
 else(vE k a2 0 1099511627776).bind fun x1=>
 bif !x1 then some (1,a0)
 else(EI k a0.2.2.2.2.2.2.2.2.2.2.2.1).bind fun x2=>
 bif zC a0.2.2.2.2.2.2.2.2.2.2.2.2.2.2.2.2.1 x2.length then ((oN k (x2.getD a0.2.2.2.2.2.2.2.2.2.2.2.2.2.2.2.2.1.toNat []) a1 a2).bind fun x3=>
  bif zC a0.2.2.2.2.2.2.2.2.2.2.2.2.2.2.2.2.1 x2.length then (let y0:EQ:=(x2.set a0.2.2.2.2.2.2.2.2.2.2.2.2.2.2.2.2.1.toNat x3)
   bif zC a0.2.2.2.2.2.2.2.2.2.2.2.2.2.2.2.2.1 y0.length then ((qi k a0.2.1 a0.2.2.2.2.2.2.2.2.2.2.1 (y0.getD a0.2.2.2.2.2.2.2.2.2.2.2.2.2.2.2.2.1.toNat [])).bind fun x4=>
    bif zC a0.2.2.2.2.2.2.2.2.2.2.2.2.2.2.2.2.1 a0.2.2.2.2.2.2.1.length then (bif !x4.2 then some (8,a0)
     else bif decide (x4.1>1152921504606846976) then some (8,a0)
     else bif decide (x4.1 < (a0.2.2.2.2.2.2.1.getD a0.2.2.2.2.2.2.2.2.2.2.2.2.2.2.2.2.1.toNat (0, 0, 0)).2.1) then (bif decide ((zA ((a0.2.2.2.2.2.2.1.getD a0.2.2.2.2.2.2.2.2.2.2.2.2.2.2.2.2.1.toNat (0,0,0)).1+x4.1))<0) then some (9,a0)
      else(fM k a0.2.2.2.2.2.2.1 a0.2.2.2.2.2.2.2.1 a0.2.2.2.2.2.2.2.2.1 a0.2.2.2.2.2.2.2.2.2.1).bind fun x5=>
      bif zC a0.2.2.2.2.2.2.2.2.2.2.2.2.2.2.2.2.1 x5.1.length then (let y1:List zK:=(x5.1.set a0.2.2.2.2.2.2.2.2.2.2.2.2.2.2.2.2.1.toNat ((x5.1.getD a0.2.2.2.2.2.2.2.2.2.2.2.2.2.2.2.2.1.toNat (0,0,0)).1,x4.1,(x5.1.getD a0.2.2.2.2.2.2.2.2.2.2.2.2.2.2.2.2.1.toNat (0,0,0)).2.2))
       some (0,(wY a0 (y1,x5.2.1,x5.2.2.1,x5.2.2.2,a0.2.2.2.2.2.2.2.2.2.2.1,y0,a0.2.2.2.2.2.2.2.2.2.2.2.2))))
      else none)
     else(fM k a0.2.2.2.2.2.2.1 a0.2.2.2.2.2.2.2.1 a0.2.2.2.2.2.2.2.2.1 a0.2.2.2.2.2.2.2.2.2.1).bind fun x6=>
     bif zC a0.2.2.2.2.2.2.2.2.2.2.2.2.2.2.2.2.1 x6.1.length then (let y2:List zK:=(x6.1.set a0.2.2.2.2.2.2.2.2.2.2.2.2.2.2.2.2.1.toNat ((x6.1.getD a0.2.2.2.2.2.2.2.2.2.2.2.2.2.2.2.2.1.toNat (0,0,0)).1,x4.1,(x6.1.getD a0.2.2.2.2.2.2.2.2.2.2.2.2.2.2.2.2.1.toNat (0,0,0)).2.2))
      some (0,(wY a0 (y2,x6.2.1,x6.2.2.1,x6.2.2.2,a0.2.2.2.2.2.2.2.2.2.2.1,y0,a0.2.2.2.2.2.2.2.2.2.2.2.2))))
     else none)
    else none)
   else none)
  else none)
 else none
def Nb (k:Nat)(a0 a1:Int):Option jW:=
 bif decide (a1 > 0) then (bif decide (a0>(zA (9223372036854775807-a1))) then some (0,false)
  else bif decide (a1 < 0) then (bif decide (a0<(zA ((-9223372036854775808)-a1))) then some (0,false)
   else some ((zA (a0+a1)),true))
  else some ((zA (a0+a1)),true))
 else bif decide (a1 < 0) then (bif decide (a0<(zA ((-9223372036854775808)-a1))) then some (0,false)
  else some ((zA (a0+a1)),true))
 else some ((zA (a0+a1)),true)
def LM (k:Nat)(g9 hY eI:Int):Option Bool:=
 bif decide (g9 > (-4611686018427387904)) then (bif decide (g9 < 4611686018427387904) then (bif decide (hY ≥ 0) then (bif decide (hY ≤ 2305843009213693952) then (bif decide (eI≥0) then some (decide (eI≤2305843009213693952))
     else some false)
    else some false)
   else some false)
  else some false)
 else some false
def IZ (k:Nat)(a0:zK)(a1:Int):Option (zK×Int):=
 (Nb k a0.1 a1).bind fun x0=>
 bif !x0.2 then some (a0,8)
 else(LM k x0.1 a0.2.1 a0.2.2).bind fun x1=>
 bif !x1 then some (a0,8)
 else some ((x0.1,a0.2),0)
def EK (k:Nat)(a0:zK)(a1:Int):Option (zK×Int):=
 (IZ k a0 a1).bind fun x0=>
 some (x0.1,x0.2)
def uR (k:Nat)(g9 hY eI a1:Int):Option Int:=
 some (wJ false (zA (eI-a1)) 0)
def EL (k:Nat)(a0:zK)(a1 a2:Int):Option (zK×Int):=
 (IZ k a0 (zA (0-a1))).bind fun x0=>
 bif decide (x0.2 = 0) then (bif decide (a2 = 1) then ((uR k a0.1 a0.2.1 a0.2.2 a1).bind fun x1=>
   some ((x0.1.1,x0.1.2.1,x1),x0.2))
  else bif decide (a2 = 2) then ((uR k a0.1 a0.2.1 a0.2.2 a1).bind fun x2=>
   some ((x0.1.1,x0.1.2.1,x2),x0.2))
  else some (x0.1,x0.2))
 else some (x0.1,x0.2)
def EM (k:Nat)(a0:zK)(a1:Int):Option Int:=
 bif decide (a1=3) then some (zA ((zA (a0.1+a0.2.1))-a0.2.2))
 else some (zA (a0.1+a0.2.1))
def YX (k:Nat)(a0:jF)(a1 a2 a3:Int):Option (Int×jF):=
 (vE k a2 0 (zA (a0.1-1))).bind fun x0=>
 bif !x0 then some (1,a0)
 else(vE k a3 1 1099511627776).bind fun x1=>
 bif !x1 then some (1,a0)
 else bif zC a2 a0.2.2.2.2.2.2.1.length then ((EK k (a0.2.2.2.2.2.2.1.getD a2.toNat (0,0,0)) a3).bind fun x2=>
  bif decide (a1 = 11) then ((EL k (a0.2.2.2.2.2.2.1.getD a2.toNat (0,0,0)) a3 3).bind fun x3=>
   (EM k (a0.2.2.2.2.2.2.1.getD a2.toNat (0,0,0)) 3).bind fun x4=>
   bif decide (x4<a3) then some (9,a0)
   else bif decide ((zA (a0.2.2.2.2.2.2.2.2.2.2.2.2.2.2.1-a3))<0) then some (9,a0)
   else bif !(decide (x3.2=0)) then some (x3.2,a0)
   else bif decide ((zA (a0.2.2.2.2.2.2.2.2.2.2.2.2.2.2.1-a3))>1152921504606846976) then some (8,a0)
   else(fM k a0.2.2.2.2.2.2.1 a0.2.2.2.2.2.2.2.1 a0.2.2.2.2.2.2.2.2.1 a0.2.2.2.2.2.2.2.2.2.1).bind fun x5=>
   bif zC a2 x5.1.length then some (0,(wY a0 ((x5.1.set a2.toNat x3.1),x5.2.1,x5.2.2.1,x5.2.2.2,(FY a0 ((zA (a0.2.2.2.2.2.2.2.2.2.2.2.2.2.2.1-a3)),a0.2.2.2.2.2.2.2.2.2.2.2.2.2.2.2)))))
   else none)
  else bif !(decide (x2.2=0)) then some (x2.2,a0)
  else bif decide ((zA (a0.2.2.2.2.2.2.2.2.2.2.2.2.2.2.1+a3))>1152921504606846976) then some (8,a0)
  else(fM k a0.2.2.2.2.2.2.1 a0.2.2.2.2.2.2.2.1 a0.2.2.2.2.2.2.2.2.1 a0.2.2.2.2.2.2.2.2.2.1).bind fun x6=>
  bif zC a2 x6.1.length then some (0,(wY a0 ((x6.1.set a2.toNat x2.1),x6.2.1,x6.2.2.1,x6.2.2.2,(FY a0 ((zA (a0.2.2.2.2.2.2.2.2.2.2.2.2.2.2.1+a3)),a0.2.2.2.2.2.2.2.2.2.2.2.2.2.2.2)))))
  else none)
 else none
abbrev Y2:Type:=(kE×(List qA)×AC×(List zK)×EQ×AC×EQ)⊕(Int×kE×(List qA))
abbrev Y0:Type:=EQ→Int→Int→kE→List qA→AC→List zK→EQ→AC→EQ→Option Y2
def yG2 (k:Nat)(rec:Y0)(fS:EQ)(ik kg:Int)(b0:kE)(r1:List qA)(r2:AC)(r4:List zK)(m5:EQ)(r6:AC)(m7:EQ):Option Y2:=
 bif decide (kg < ik) then (bif zC kg fS.length then ((qi k b0.2.1 r2 (fS.getD kg.toNat [])).bind fun x4=>
   bif !x4.2 then some (.inr (8,b0,r1))
   else bif decide (x4.1>1152921504606846976) then some (.inr (8,b0,r1))
   else bif zC kg r4.length then (let y0:List zK:=(r4.set kg.toNat ((r4.getD kg.toNat (0,0,0)).1,x4.1,(r4.getD kg.toNat (0,0,0)).2.2))
    rec fS ik (zA (kg+1)) b0 r1 r2 y0 m5 r6 m7)
   else none)
  else none)
 else some (.inl (b0,r1,r2,r4,m5,r6,m7))
def Y3 (k:Nat):Nat→Y0:=yH (fun _ _ _ _ _ _ _ _ _ _=>none) (yG2 k)
def yCc (k:Nat)(a0:jF)(a1 a2:Int):Option (Int×jF):=
 (JS k a0 a1).bind fun x0=>
 bif !x0 then some (1,a0)
 else(vE k a2 0 1048576).bind fun x1=>
 bif !x1 then some (1,a0)
 else(oN k a0.2.2.2.2.2.2.2.2.2.2.1 a1 a2).bind fun x2=>
 (fM k a0.2.2.2.2.2.2.1 a0.2.2.2.2.2.2.2.1 a0.2.2.2.2.2.2.2.2.1 a0.2.2.2.2.2.2.2.2.2.1).bind fun x3=>
 (Y3 k k a0.2.2.2.2.2.2.2.2.2.2.2.1 (a0.2.2.2.2.2.2.2.2.2.2.2.1.length:Int) 0 (kB a0) a0.2.2.2.2.2.2.2.2.2.2.2.2.2.2.2.2.2 x2 x3.1 x3.2.1 x3.2.2.1 x3.2.2.2).bind fun z=>
 match z with
 |.inl z1=>some (0,(wY z1.1 (vL1 z1 (z1.2.2.1,(UR z1.1 z1.2.1)))))
 |.inr z2=>some (z2.1,(vI z2.2.1 z2.2.2))
def NW (k:Nat)(a0:jF)(a1:zB):Option (Int×jF):=
 bif decide (a1.1 = 1) then ((M9 k a0 a1.2).bind fun x0=>
  some (x0.1,x0.2))
 else bif decide (a1.1 = 2) then ((zv k a0 a1).bind fun x1=>
  some (x1.1,x1.2))
 else bif decide (a1.1 = 3) then ((zv k a0 a1).bind fun x2=>
  some (x2.1,x2.2))
 else bif decide (a1.1 = 4) then ((zv k a0 a1).bind fun x3=>
  some (x3.1,x3.2))
 else bif decide (a1.1 = 5) then ((zw k a0 a1).bind fun x4=>
  some (x4.1,x4.2))
 else bif decide (a1.1 = 6) then ((zw k a0 a1).bind fun x5=>
  some (x5.1,x5.2))
 else bif decide (a1.1 = 7) then ((zw k a0 a1).bind fun x6=>
  some (x6.1,x6.2))
 else bif decide (a1.1 = 8) then ((Na k a0 a1.2.1 a1.2.2.1).bind fun x7=>
  some (x7.1,x7.2))
 else bif decide (a1.1 = 10) then ((YX k a0 a1.1 a1.2.1 a1.2.2.1).bind fun x8=>
  some (x8.1,x8.2))
 else bif decide (a1.1 = 11) then ((YX k a0 a1.1 a1.2.1 a1.2.2.1).bind fun x9=>
  some (x9.1,x9.2))
 else bif decide (a1.1 = 12) then ((yCc k a0 a1.2.1 a1.2.2.1).bind fun dC=>
  some (dC.1,dC.2))
 else some (0,a0)
def IW (k:Nat)(cY:Int)(dI:List vJ)(dJ cZ ca a1:Int):Option Bool:=
 some (decide (a1=cZ))
def oP (k:Nat)(a0 a1:Int)(a2:AC):Option qA:=
 some (a0,a1,(bif (Nat.blt 0 a2.length) then(a2.getD 0 0) else 0),(bif (Nat.blt 1 a2.length) then(a2.getD 1 0) else 0),(bif (Nat.blt 2 a2.length) then(a2.getD 2 0) else 0),(bif (Nat.blt 3 a2.length) then(a2.getD 3 0) else 0),(bif (Nat.blt 4 a2.length) then(a2.getD 4 0) else 0),(bif (Nat.blt 5 a2.length) then(a2.getD 5 0) else 0))
abbrev Y5:Type:=Int×(List zK)×EQ×AC×EQ×AC×EQ×(List zB)×AC×Int×Bool×Int×Int×Bool×(List qA)
abbrev Y4:Type:=List zB→Int→Int→Int→List zK→EQ→AC→EQ→AC→EQ→List zB→AC→Int→Bool→Int→Int→Bool→List qA→Option Y5
def EA (k:Nat)(rec:Y4)(aw:List zB)(aP bR af:Int)(ah:List zK)(ak:EQ)(ag:AC)(aX:EQ)(bh:AC)(bj:EQ)(dK:List zB)(dL:AC)(dM:Int)(bQ:Bool)(av bA:Int)(aU:Bool)(r2:List qA):Option Y5:=
 bif decide (bR < aP) then (bif zC bR aw.length then ((oP k (aw.getD bR.toNat (0,0,0,0,0,0,0)).2.1 22 [(aw.getD bR.toNat (0,0,0,0,0,0,0)).1]).bind fun x0=>
   bif zO (r2.length+1) 64 then(rec aw aP (zA (bR+1)) af ah ak ag aX bh bj dK dL dM bQ av bA aU (r2++[x0]))
   else none)
  else none)
 else some (af,ah,ak,ag,aX,bh,bj,dK,dL,dM,bQ,av,bA,aU,r2)
def Ez (k:Nat):Nat→Y4
 |0,_,_,_,_,_,_,_,_,_,_,_,_,_,_,_,_,_,_=>none
 |n+1,aw,aP,bR,af,ah,ak,ag,aX,bh,bj,dK,dL,dM,bQ,av,bA,aU,r2=>EA k (Ez k n) aw aP bR af ah ak ag aX bh bj dK dL dM bQ av bA aU r2
abbrev Y7:Type:=Int×(List zK)×EQ×AC×EQ×AC×EQ×(List zB)×AC×Int×Bool×Int×Int×Bool×(List qA)
abbrev Y6:Type:=List zK→Int→Int→Int→List zK→EQ→AC→EQ→AC→EQ→List zB→AC→Int→Bool→Int→Int→Bool→List qA→Option Y7
def EC (k:Nat)(rec:Y6)(kG:List zK)(eZ lu af:Int)(ah:List zK)(ak:EQ)(ag:AC)(aX:EQ)(bh:AC)(bj:EQ)(dK:List zB)(dL:AC)(dM:Int)(bQ:Bool)(av bA:Int)(aU:Bool)(r2:List qA):Option Y7:=
 bif decide (lu < eZ) then (bif zC lu kG.length then ((oP k lu 23 [(kG.getD lu.toNat (0,0,0)).1]).bind fun x1=>
   bif zO (r2.length+1) 64 then(rec kG eZ (zA (lu+1)) af ah ak ag aX bh bj dK dL dM bQ av bA aU (r2++[x1]))
   else none)
  else none)
 else some (af,ah,ak,ag,aX,bh,bj,dK,dL,dM,bQ,av,bA,aU,r2)
def EB (k:Nat):Nat→Y6
 |0,_,_,_,_,_,_,_,_,_,_,_,_,_,_,_,_,_,_=>none
 |n+1,kG,eZ,lu,af,ah,ak,ag,aX,bh,bj,dK,dL,dM,bQ,av,bA,aU,r2=>EC k (EB k n) kG eZ lu af ah ak ag aX bh bj dK dL dM bQ av bA aU r2
def M7 (k:Nat)(lq:Int)(oX:List zK)(oY:EQ)(oZ:AC)(o0:EQ)(o6:AC)(o9:EQ)(lr:List zB)(pb:AC)(pc:Int)(pf:Bool):Option PJ:=
 (Ez k k lr (lr.length:Int) 0 lq oX oY oZ o0 o6 o9 lr pb pc pf 0 0 false []).bind fun z=>
 (EB k k z.2.1 (z.2.1.length:Int) 0 z.1 z.2.1 z.2.2.1 z.2.2.2.1 z.2.2.2.2.1 z.2.2.2.2.2.1 z.2.2.2.2.2.2.1 z.2.2.2.2.2.2.2.1 z.2.2.2.2.2.2.2.2.1 z.2.2.2.2.2.2.2.2.2.1 z.2.2.2.2.2.2.2.2.2.2.1 z.2.2.2.2.2.2.2.2.2.2.2.1 z.2.2.2.2.2.2.2.2.2.2.2.2.1 z.2.2.2.2.2.2.2.2.2.2.2.2.2.1 z.2.2.2.2.2.2.2.2.2.2.2.2.2.2).bind fun z1=>
 some (iR z1 ([],z1.2.2.2.2.2.2.2.2.1,z1.2.2.2.2.2.2.2.2.2.1,true,z1.2.2.2.2.2.2.2.2.2.2.2.2.2.2))
def Ux (k:Nat)(bZ ba bq cn bH bT bJ a1:Int):Option Bool:=
 some (decide (a1>bJ))
def EF (k:Nat)(cY:Int)(dI:List vJ)(dJ cZ ca a1:Int):Option Bool:=
 bif decide (a1 > 0) then (bif decide (a1 < cZ) then (bif !(decide (ca=0)) then some (decide ((Int.tmod a1 ca)=0))
   else none)
  else some false)
 else some false
def TQ (k:Nat)(bZ ba bq cn bH bT bJ a1:Int):Option Bool:=
 bif decide (a1≥bT) then some (decide (a1≤bJ))
 else some false
def TP (k:Nat)(bZ ba bq cn bH bT bJ a1:Int):Option Bool:=
 (TQ k bZ ba bq cn bH bT bJ a1).bind fun x0=>
 some x0
abbrev Zc:Type:=List zB
abbrev Za:Type:=List zB→Int→Int→Int→List zB→Option Zc
def Dw (k:Nat)(rec:Za)(s8:List zB)(s9 aw af:Int)(r1:List zB):Option Zc:=
 bif decide (aw < s9) then (bif zC aw s8.length then ((TP k (s8.getD aw.toNat (0,0,0,0,0,0,0)).1 (s8.getD aw.toNat (0,0,0,0,0,0,0)).2.1 (s8.getD aw.toNat (0,0,0,0,0,0,0)).2.2.1 (s8.getD aw.toNat (0,0,0,0,0,0,0)).2.2.2.1 (s8.getD aw.toNat (0,0,0,0,0,0,0)).2.2.2.2.1 (s8.getD aw.toNat (0,0,0,0,0,0,0)).2.2.2.2.2.1 (s8.getD aw.toNat (0,0,0,0,0,0,0)).2.2.2.2.2.2 af).bind fun x0=>
   bif x0 then (bif zO (r1.length + 1) 56 then (let y0:List zB:=(r1++[(s8.getD aw.toNat (0,0,0,0,0,0,0))])
     rec s8 s9 (zA (aw+1)) af y0)
    else none)
   else rec s8 s9 (zA (aw+1)) af r1)
  else none)
 else some r1
def Ii (k:Nat):Nat→Za
 |0,_,_,_,_,_=>none
 |n+1,s8,s9,aw,af,r1=>Dw k (Ii k n) s8 s9 aw af r1
def TO (k:Nat)(a0:List zB)(cS:Int):Option (List zB):=
 (Ii k k a0 (a0.length:Int) 0 cS []).bind fun z=>
 some z
def Dv (k:Nat)(a0:List zB)(a1:Int):Option (List zB):=
 (TO k a0 a1).bind fun x0=>
 some x0
def TT (k:Nat)(bZ ba bq cn bH bT bJ gi cp dj dV dm hZ ic:Int):Option Bool:=
 bif decide (ba=cp) then some (!(decide (bH=3)))
 else some false
abbrev Ze:Type:=List zB→Int→Int→Int→Int→Int→Int→Int→Int→Int→Option (Unit⊕Int)
def DE (k:Nat)(rec:Ze)(s0:List zB)(s7 s8 af ah ak ag aX bh bj:Int):Option (Unit⊕Int):=
 bif decide (s8 < s7) then (bif zC s8 s0.length then ((TT k (s0.getD s8.toNat (0,0,0,0,0,0,0)).1 (s0.getD s8.toNat (0,0,0,0,0,0,0)).2.1 (s0.getD s8.toNat (0,0,0,0,0,0,0)).2.2.1 (s0.getD s8.toNat (0,0,0,0,0,0,0)).2.2.2.1 (s0.getD s8.toNat (0,0,0,0,0,0,0)).2.2.2.2.1 (s0.getD s8.toNat (0,0,0,0,0,0,0)).2.2.2.2.2.1 (s0.getD s8.toNat (0,0,0,0,0,0,0)).2.2.2.2.2.2 af ah ak ag aX bh bj).bind fun x0=>
   bif x0 then some (.inr s8)
   else rec s0 s7 (zA (s8+1)) af ah ak ag aX bh bj)
  else none)
 else some (.inl ())
def DD (k:Nat):Nat→Ze
 |0,_,_,_,_,_,_,_,_,_,_=>none
 |n+1,s0,s7,s8,af,ah,ak,ag,aX,bh,bj=>DE k (DD k n) s0 s7 s8 af ah ak ag aX bh bj
def TU (k:Nat)(a0:List zB)(lv ft lx dp dW dX fu:Int):Option Int:=
 (DD k k a0 (a0.length:Int) 0 lv ft lx dp dW dX fu).bind fun z=>
 match z with
 |.inl z1=>some (-1)
 |.inr z2=>some z2
def Mx (k:Nat)(a0:List zB)(lv ft lx dp dW dX fu:Int):Option Bool:=
 (TU k a0 lv ft lx dp dW dX fu).bind fun x0=>
 some (decide (x0≥0))
def TX (k:Nat)(bZ ba bq cn bH bT bJ:Int)(a1:List jW)(a2:List zB):Option (Bool×(List jW)):=
 bif !(Option.getD (List.lookup ba a1) false) then some (true,((ba,true)::a1))
 else bif decide (bH = 3) then ((Mx k a2 bZ ba bq cn bH bT bJ).bind fun x0=>
  some ((!x0),((ba,true)::a1)))
 else some (false,((ba,true)::a1))
abbrev Zj:Type:=(List jW)×(List zB)×(List zB)
abbrev Zh:Type:=List zB→Int→Int→List jW→List zB→List zB→Option Zj
def DG (k:Nat)(rec:Zh)(s8:List zB)(s9 aw:Int)(p1:List jW)(aY r3:List zB):Option Zj:=
 bif decide (aw < s9) then (bif zC aw s8.length then ((TX k (s8.getD aw.toNat (0,0,0,0,0,0,0)).1 (s8.getD aw.toNat (0,0,0,0,0,0,0)).2.1 (s8.getD aw.toNat (0,0,0,0,0,0,0)).2.2.1 (s8.getD aw.toNat (0,0,0,0,0,0,0)).2.2.2.1 (s8.getD aw.toNat (0,0,0,0,0,0,0)).2.2.2.2.1 (s8.getD aw.toNat (0,0,0,0,0,0,0)).2.2.2.2.2.1 (s8.getD aw.toNat (0,0,0,0,0,0,0)).2.2.2.2.2.2 p1 aY).bind fun x0=>
   bif x0.1 then (bif zO (r3.length + 1) 56 then (let y0:List zB:=(r3++[(s8.getD aw.toNat (0,0,0,0,0,0,0))])
     rec s8 s9 (zA (aw+1)) x0.2 aY y0)
    else none)
   else rec s8 s9 (zA (aw+1)) x0.2 aY r3)
  else none)
 else some (p1,aY,r3)
def DF (k:Nat):Nat→Zh
 |0,_,_,_,_,_,_=>none
 |n+1,s8,s9,aw,p1,aY,r3=>DG k (DF k n) s8 s9 aw p1 aY r3
def TW (k:Nat)(a0:List zB)(cS:List jW)(aaR:List zB):Option ((List zB)×(List jW)):=
 (DF k k a0 (a0.length:Int) 0 cS aaR []).bind fun z=>
 some (z.2.2,z.1)
def Ip (k:Nat)(a0:List zB)(a1:Int):Option (List zB):=
 (Dv k a0 a1).bind fun x0=>
 (TW k x0 [] x0).bind fun x1=>
 some x1.1
def CR (k:Nat)(au:List zK)(aA:EQ)(az:AC)(ax:EQ)(gi cp dj dV dm hZ ic:Int):Option Bool:=
 bif decide (cp ≥ 0) then (bif decide (cp < (au.length : Int)) then (bif decide (dj ≥ 0) then (bif decide (dj < (au.length : Int)) then (bif !(decide (cp = dj)) then (bif decide (dV ≥ 1) then (bif decide (dV ≤ 1099511627776) then (bif decide (dm≥1) then some (decide (dm≤3))
        else some false)
       else some false)
      else some false)
     else some false)
    else some false)
   else some false)
  else some false)
 else some false
def TL (k:Nat)(bZ ba bq cn bH bT bJ:Int)(cR:List zK)(ie:EQ)(ig:AC)(ij:EQ):Option Bool:=
 (CR k cR ie ig ij bZ ba bq cn bH bT bJ).bind fun x0=>
 some (!x0)
abbrev Zl:Type:=List zB→Int→Int→List zK→EQ→AC→EQ→Option (Unit⊕Int)
def Du (k:Nat)(rec:Zl)(s0:List zB)(s7 s8:Int)(af:List zK)(ah:EQ)(ak:AC)(ag:EQ):Option (Unit⊕Int):=
 bif decide (s8 < s7) then (bif zC s8 s0.length then ((TL k (s0.getD s8.toNat (0,0,0,0,0,0,0)).1 (s0.getD s8.toNat (0,0,0,0,0,0,0)).2.1 (s0.getD s8.toNat (0,0,0,0,0,0,0)).2.2.1 (s0.getD s8.toNat (0,0,0,0,0,0,0)).2.2.2.1 (s0.getD s8.toNat (0,0,0,0,0,0,0)).2.2.2.2.1 (s0.getD s8.toNat (0,0,0,0,0,0,0)).2.2.2.2.2.1 (s0.getD s8.toNat (0,0,0,0,0,0,0)).2.2.2.2.2.2 af ah ak ag).bind fun x0=>
   bif x0 then some (.inr s8)
   else rec s0 s7 (zA (s8+1)) af ah ak ag)
  else none)
 else some (.inl ())
def Ig (k:Nat):Nat→Zl
 |0,_,_,_,_,_,_,_=>none
 |n+1,s0,s7,s8,af,ah,ak,ag=>Du k (Ig k n) s0 s7 s8 af ah ak ag
def TM (k:Nat)(a0:List zB)(bD:List zK)(cq:EQ)(ct:AC)(cw:EQ):Option Int:=
 (Ig k k a0 (a0.length:Int) 0 bD cq ct cw).bind fun z=>
 match z with
 |.inl z1=>some (-1)
 |.inr z2=>some z2
def Ms (k:Nat)(a0:List zB)(bD:List zK)(cq:EQ)(ct:AC)(cw:EQ):Option Bool:=
 (TM k a0 bD cq ct cw).bind fun x0=>
 some (decide (x0≥0))
abbrev Zq:Type:=AC×AC×EQ
abbrev Zo:Type:=List zB→Int→Int→AC→AC→EQ→Option Zq
def Dl (k:Nat)(rec:Zo)(aZ:List zB)(bP bd:Int)(r2 r3:AC)(m4:EQ):Option Zq:=
 bif decide (bd < bP) then (bif zC bd aZ.length then (bif zC (aZ.getD bd.toNat (0, 0, 0, 0, 0, 0, 0)).2.1 r2.length then (bif zC (aZ.getD bd.toNat (0, 0, 0, 0, 0, 0, 0)).2.1 r2.length then (let y0:AC:=(r2.set (aZ.getD bd.toNat (0,0,0,0,0,0,0)).2.1.toNat (zA ((r2.getD (aZ.getD bd.toNat (0,0,0,0,0,0,0)).2.1.toNat 0)-(aZ.getD bd.toNat (0,0,0,0,0,0,0)).2.2.2.1)))
     bif zC (aZ.getD bd.toNat (0, 0, 0, 0, 0, 0, 0)).2.2.1 y0.length then (bif zC (aZ.getD bd.toNat (0, 0, 0, 0, 0, 0, 0)).2.2.1 y0.length then (let y1:AC:=(y0.set (aZ.getD bd.toNat (0,0,0,0,0,0,0)).2.2.1.toNat (zA ((y0.getD (aZ.getD bd.toNat (0,0,0,0,0,0,0)).2.2.1.toNat 0)+(aZ.getD bd.toNat (0,0,0,0,0,0,0)).2.2.2.1)))
       bif zC (aZ.getD bd.toNat (0, 0, 0, 0, 0, 0, 0)).2.1 m4.length then (bif zC (aZ.getD bd.toNat (0, 0, 0, 0, 0, 0, 0)).2.2.1 (m4.getD (aZ.getD bd.toNat (0, 0, 0, 0, 0, 0, 0)).2.1.toNat []).length then (bif zC (aZ.getD bd.toNat (0, 0, 0, 0, 0, 0, 0)).2.2.1 (m4.getD (aZ.getD bd.toNat (0, 0, 0, 0, 0, 0, 0)).2.1.toNat []).length then (let y2:EQ:=(m4.set (aZ.getD bd.toNat (0,0,0,0,0,0,0)).2.1.toNat ((m4.getD (aZ.getD bd.toNat (0,0,0,0,0,0,0)).2.1.toNat []).set (aZ.getD bd.toNat (0,0,0,0,0,0,0)).2.2.1.toNat (zA (((m4.getD (aZ.getD bd.toNat (0,0,0,0,0,0,0)).2.1.toNat []).getD (aZ.getD bd.toNat (0,0,0,0,0,0,0)).2.2.1.toNat 0)+(aZ.getD bd.toNat (0,0,0,0,0,0,0)).2.2.2.1))))
          bif zC (aZ.getD bd.toNat (0, 0, 0, 0, 0, 0, 0)).2.2.1 y2.length then (bif zC (aZ.getD bd.toNat (0, 0, 0, 0, 0, 0, 0)).2.1 (y2.getD (aZ.getD bd.toNat (0, 0, 0, 0, 0, 0, 0)).2.2.1.toNat []).length then (bif zC (aZ.getD bd.toNat (0, 0, 0, 0, 0, 0, 0)).2.1 (y2.getD (aZ.getD bd.toNat (0, 0, 0, 0, 0, 0, 0)).2.2.1.toNat []).length then (let y3:EQ:=(y2.set (aZ.getD bd.toNat (0,0,0,0,0,0,0)).2.2.1.toNat ((y2.getD (aZ.getD bd.toNat (0,0,0,0,0,0,0)).2.2.1.toNat []).set (aZ.getD bd.toNat (0,0,0,0,0,0,0)).2.1.toNat (zA (((y2.getD (aZ.getD bd.toNat (0,0,0,0,0,0,0)).2.2.1.toNat []).getD (aZ.getD bd.toNat (0,0,0,0,0,0,0)).2.1.toNat 0)-(aZ.getD bd.toNat (0,0,0,0,0,0,0)).2.2.2.1))))
             bif !(decide ((aZ.getD bd.toNat (0, 0, 0, 0, 0, 0, 0)).2.2.2.2.1 = 3)) then (bif zC (aZ.getD bd.toNat (0, 0, 0, 0, 0, 0, 0)).2.1 r3.length then (bif zC (aZ.getD bd.toNat (0, 0, 0, 0, 0, 0, 0)).2.1 r3.length then (let y4:AC:=(r3.set (aZ.getD bd.toNat (0,0,0,0,0,0,0)).2.1.toNat (zA ((r3.getD (aZ.getD bd.toNat (0,0,0,0,0,0,0)).2.1.toNat 0)+(aZ.getD bd.toNat (0,0,0,0,0,0,0)).2.2.2.1)))
                rec aZ bP (zA (bd+1)) y1 y4 y3)
               else none)
              else none)
             else rec aZ bP (zA (bd+1)) y1 r3 y3)
            else none)
           else none)
          else none)
         else none)
        else none)
       else none)
      else none)
     else none)
    else none)
   else none)
  else none)
 else some (r2,r3,m4)
def Dh (k:Nat):Nat→Zo
 |0,_,_,_,_,_,_=>none
 |n+1,aZ,bP,bd,r2,r3,m4=>Dl k (Dh k n) aZ bP bd r2 r3 m4
def Mn (k:Nat)(a0:Int)(a1:List zB):Option (AC×AC×EQ):=
 (yx k a0 0).bind fun x0=>
 (yx k a0 0).bind fun x1=>
 (Df k a0 0).bind fun x2=>
 (Dh k k a1 (a1.length:Int) 0 x0 x1 x2).bind fun z=>
 some (z.1,z.2.1,z.2.2)
def TF (k:Nat)(bZ ba bq cn bH bT bJ a1:Int):Option Bool:=
 some (decide (ba=a1))
abbrev Zr:Type:=List zB→Int→Int→Int→Option (Unit⊕Int)
def Dm (k:Nat)(rec:Zr)(s0:List zB)(s7 s8 af:Int):Option (Unit⊕Int):=
 bif decide (s8 < s7) then (bif zC s8 s0.length then ((TF k (s0.getD s8.toNat (0,0,0,0,0,0,0)).1 (s0.getD s8.toNat (0,0,0,0,0,0,0)).2.1 (s0.getD s8.toNat (0,0,0,0,0,0,0)).2.2.1 (s0.getD s8.toNat (0,0,0,0,0,0,0)).2.2.2.1 (s0.getD s8.toNat (0,0,0,0,0,0,0)).2.2.2.2.1 (s0.getD s8.toNat (0,0,0,0,0,0,0)).2.2.2.2.2.1 (s0.getD s8.toNat (0,0,0,0,0,0,0)).2.2.2.2.2.2 af).bind fun x0=>
   bif x0 then some (.inr s8)
   else rec s0 s7 (zA (s8+1)) af)
  else none)
 else some (.inl ())
def Ic (k:Nat):Nat→Zr
 |0,_,_,_,_=>none
 |n+1,s0,s7,s8,af=>Dm k (Ic k n) s0 s7 s8 af
def TG (k:Nat)(a0:List zB)(cS:Int):Option Int:=
 (Ic k k a0 (a0.length:Int) 0 cS).bind fun z=>
 match z with
 |.inl z1=>some (-1)
 |.inr z2=>some z2
def Mo (k:Nat)(a0:List zB)(cS:Int):Option Bool:=
 (TG k a0 cS).bind fun x0=>
 some (decide (x0≥0))
def Dd (k:Nat)(rec:Int→AC→Int→Int→Option Int)(s5:Int)(bR:AC)(bo bz:Int):Option Int:=
 bif decide (bz < bo) then (bif zC bz bR.length then(rec (zA (s5+(bR.getD bz.toNat 0))) bR bo (zA (bz+1)))
  else none)
 else some s5
def Dc (k:Nat):Nat→Int→AC→Int→Int→Option Int
 |0,_,_,_,_=>none
 |n+1,s5,bR,bo,bz=>Dd k (Dc k n) s5 bR bo bz
def Mk (k:Nat)(au:List zK)(aA:EQ)(az:AC)(ax:EQ)(a1:Int):Option Int:=
 bif zC a1 ax.length then ((Dc k k 0 (ax.getD a1.toNat []) ((ax.getD a1.toNat []).length:Int) 0).bind fun z=>
  some z)
 else none
def Dp (k:Nat)(a0 a1:Int):Option Bool:=
 bif !(decide (a1=(-1))) then some (decide (a0>a1))
 else some false
def TH (k:Nat)(bZ ba bq cn bH bT bJ a1 mR pj mS:Int)(aaS mc:AC)(dY:EQ)(a4:Int)(PO:List zK)(gI:EQ)(aa5:AC)(gJ:EQ):Option Bool:=
 bif !(decide (ba=a1)) then some false
 else bif zC a1 mc.length then ((uR k mR pj mS (mc.getD a1.toNat 0)).bind fun x0=>
  bif decide (bH = 3) then (bif decide (a4<x0) then some true
   else bif zC a1 gJ.length then (bif zC bq (gJ.getD a1.toNat []).length then (bif zC a1 dY.length then (bif zC bq (dY.getD a1.toNat []).length then (bif zC a1 gI.length then (bif zC bq (gI.getD a1.toNat []).length then ((Dp k (zA (((gJ.getD a1.toNat []).getD bq.toNat 0)+((dY.getD a1.toNat []).getD bq.toNat 0))) ((gI.getD a1.toNat []).getD bq.toNat 0)).bind fun x1=>
         some x1)
        else none)
       else none)
      else none)
     else none)
    else none)
   else none)
  else bif zC a1 gJ.length then (bif zC bq (gJ.getD a1.toNat []).length then (bif zC a1 dY.length then (bif zC bq (dY.getD a1.toNat []).length then (bif zC a1 gI.length then (bif zC bq (gI.getD a1.toNat []).length then ((Dp k (zA (((gJ.getD a1.toNat []).getD bq.toNat 0)+((dY.getD a1.toNat []).getD bq.toNat 0))) ((gI.getD a1.toNat []).getD bq.toNat 0)).bind fun x2=>
        some x2)
       else none)
      else none)
     else none)
    else none)
   else none)
  else none)
 else none
abbrev Zw:Type:=List zB→Int→Int→Int→Int→Int→Int→AC→AC→EQ→Int→List zK→EQ→AC→EQ→Option (Unit⊕Int)
def Dq (k:Nat)(rec:Zw)(s0:List zB)(s7 s8 af av aB aC:Int)(aY bM:AC)(bN:EQ)(cc:Int)(il:List zK)(tI:EQ)(tJ:AC)(tK:EQ):Option (Unit⊕Int):=
 bif decide (s8 < s7) then (bif zC s8 s0.length then ((TH k (s0.getD s8.toNat (0,0,0,0,0,0,0)).1 (s0.getD s8.toNat (0,0,0,0,0,0,0)).2.1 (s0.getD s8.toNat (0,0,0,0,0,0,0)).2.2.1 (s0.getD s8.toNat (0,0,0,0,0,0,0)).2.2.2.1 (s0.getD s8.toNat (0,0,0,0,0,0,0)).2.2.2.2.1 (s0.getD s8.toNat (0,0,0,0,0,0,0)).2.2.2.2.2.1 (s0.getD s8.toNat (0,0,0,0,0,0,0)).2.2.2.2.2.2 af av aB aC aY bM bN cc il tI tJ tK).bind fun x0=>
   bif x0 then some (.inr s8)
   else rec s0 s7 (zA (s8+1)) af av aB aC aY bM bN cc il tI tJ tK)
  else none)
 else some (.inl ())
def Ie (k:Nat):Nat→Zw
 |0,_,_,_,_,_,_,_,_,_,_,_,_,_,_,_=>none
 |n+1,s0,s7,s8,af,av,aB,aC,aY,bM,bN,cc,il,tI,tJ,tK=>Dq k (Ie k n) s0 s7 s8 af av aB aC aY bM bN cc il tI tJ tK
def TI (k:Nat)(a0:List zB)(cS cT dq cU:Int)(fw dZ:AC)(fx:EQ)(A3:Int)(ee:List zK)(im:EQ)(iq:AC)(ir:EQ):Option Int:=
 (Ie k k a0 (a0.length:Int) 0 cS cT dq cU fw dZ fx A3 ee im iq ir).bind fun z=>
 match z with
 |.inl z1=>some (-1)
 |.inr z2=>some z2
def Mp (k:Nat)(a0:List zB)(cS cT dq cU:Int)(fw dZ:AC)(fx:EQ)(A3:Int)(ee:List zK)(im:EQ)(iq:AC)(ir:EQ):Option Bool:=
 (TI k a0 cS cT dq cU fw dZ fx A3 ee im iq ir).bind fun x0=>
 some (decide (x0≥0))
abbrev ZB:Type:=(List zB)×Int×AC×AC×EQ×(List zK)×EQ×AC×EQ×Int×Int×Int×Int×Int
abbrev Zz:Type:=List zB→Int→AC→Int→Int→AC→AC→EQ→List zK→EQ→AC→EQ→Int→Int→Int→Int→Int→Option ZB
def Dr (k:Nat)(rec:Zz)(s3:List zB)(aP:Int)(kF:AC)(fS ik:Int)(af ah:AC)(ak:EQ)(av:List zK)(aB:EQ)(aC:AC)(aE:EQ)(aY cc cV de il:Int):Option ZB:=
 bif decide (ik < fS) then (bif zC ik kF.length then(rec s3 (zA (aP+(kF.getD ik.toNat 0))) kF fS (zA (ik+1)) af ah ak av aB aC aE aY cc cV de il)
  else none)
 else some (s3,aP,af,ah,ak,av,aB,aC,aE,aY,cc,cV,de,il)
def za (k:Nat):Nat→Zz
 |0,_,_,_,_,_,_,_,_,_,_,_,_,_,_,_,_,_=>none
 |n+1,s3,aP,kF,fS,ik,af,ah,ak,av,aB,aC,aE,aY,cc,cV,de,il=>Dr k (za k n) s3 aP kF fS ik af ah ak av aB aC aE aY cc cV de il
def Mr (k:Nat)(iu tL:AC)(iw:EQ)(cR:List zK)(ie:EQ)(ig:AC)(ij:EQ)(a2:Int)(a3:List zB):Option Bool:=
 bif zC a2 cR.length then (bif zC a2 iu.length then (bif decide ((zA ((zA ((cR.getD a2.toNat (0,0,0)).1+(cR.getD a2.toNat (0,0,0)).2.1))+(iu.getD a2.toNat 0)))<0) then some true
   else(Mk k cR ie ig ij a2).bind fun x0=>
   bif zC a2 iw.length then ((za k k a3 x0 (iw.getD a2.toNat []) ((iw.getD a2.toNat []).length:Int) 0 iu tL iw cR ie ig ij a2 (cR.getD a2.toNat (0,0,0)).1 (cR.getD a2.toNat (0,0,0)).2.1 (cR.getD a2.toNat (0,0,0)).2.2 (zA ((zA ((cR.getD a2.toNat (0,0,0)).1+(cR.getD a2.toNat (0,0,0)).2.1))+(iu.getD a2.toNat 0)))).bind fun z=>
    bif zC z.2.2.2.2.2.2.2.2.2.1 z.2.2.2.2.2.2.2.1.length then ((Dp k z.2.1 (z.2.2.2.2.2.2.2.1.getD z.2.2.2.2.2.2.2.2.2.1.toNat 0)).bind fun x1=>
     bif x1 then some true
     else(Mp k z.1 z.2.2.2.2.2.2.2.2.2.1 z.2.2.2.2.2.2.2.2.2.2.1 z.2.2.2.2.2.2.2.2.2.2.2.1 z.2.2.2.2.2.2.2.2.2.2.2.2.1 z.2.2.1 z.2.2.2.1 z.2.2.2.2.1 z.2.2.2.2.2.2.2.2.2.2.2.2.2 z.2.2.2.2.2.1 z.2.2.2.2.2.2.1 z.2.2.2.2.2.2.2.1 z.2.2.2.2.2.2.2.2.1).bind fun x2=>
     some x2)
    else none)
   else none)
  else none)
 else none
abbrev ZE:Type:=List zB→Int→Int→List zK→EQ→AC→EQ→AC→AC→EQ→AC→Option AC
def Dt (k:Nat)(rec:ZE)(s1:List zB)(bP bd:Int)(af:List zK)(ah:EQ)(ak:AC)(ag:EQ)(r2 r3:AC)(m4:EQ)(r5:AC):Option AC:=
 bif decide (bd < bP) then ((Mo k s1 bd).bind fun x1=>
  bif x1 then ((Mr k r2 r3 m4 af ah ak ag bd s1).bind fun x2=>
   bif x2 then (bif zO (r5.length+1) 8 then(rec s1 bP (zA (bd+1)) af ah ak ag r2 r3 m4 (r5++[bd]))
    else none)
   else rec s1 bP (zA (bd+1)) af ah ak ag r2 r3 m4 r5)
  else rec s1 bP (zA (bd+1)) af ah ak ag r2 r3 m4 r5)
 else some r5
def Ds (k:Nat):Nat→ZE
 |0,_,_,_,_,_,_,_,_,_,_,_=>none
 |n+1,s1,bP,bd,af,ah,ak,ag,r2,r3,m4,r5=>Dt k (Ds k n) s1 bP bd af ah ak ag r2 r3 m4 r5
def zb (k:Nat)(au:List zK)(aA:EQ)(az:AC)(ax:EQ)(a1:List zB):Option AC:=
 (Mn k (au.length:Int) a1).bind fun x0=>
 (Ds k k a1 (au.length:Int) 0 au aA az ax x0.1 x0.2.1 x0.2.2 []).bind fun z=>
 some z
def zc (k:Nat)(au:List zK)(aA:EQ)(az:AC)(ax:EQ)(a1:List zB):Option Bool:=
 bif decide ((a1.length : Int) ≤ 64) then ((Ms k a1 au aA az ax).bind fun x0=>
  bif !x0 then ((zb k au aA az ax a1).bind fun x1=>
   some (decide ((x1.length:Int)=0)))
  else some false)
 else some false
def Tv (k:Nat)(bZ ba bq cn bH bT bJ:Int)(cR:List zK)(ie:EQ)(ig:AC)(ij:EQ):Option Bool:=
 (CR k cR ie ig ij bZ ba bq cn bH bT bJ).bind fun x0=>
 some (!x0)
abbrev ZH:Type:=List zB→Int→Int→List zK→EQ→AC→EQ→Option (Unit⊕Int)
def CT (k:Nat)(rec:ZH)(s0:List zB)(s7 s8:Int)(af:List zK)(ah:EQ)(ak:AC)(ag:EQ):Option (Unit⊕Int):=
 bif decide (s8 < s7) then (bif zC s8 s0.length then ((Tv k (s0.getD s8.toNat (0,0,0,0,0,0,0)).1 (s0.getD s8.toNat (0,0,0,0,0,0,0)).2.1 (s0.getD s8.toNat (0,0,0,0,0,0,0)).2.2.1 (s0.getD s8.toNat (0,0,0,0,0,0,0)).2.2.2.1 (s0.getD s8.toNat (0,0,0,0,0,0,0)).2.2.2.2.1 (s0.getD s8.toNat (0,0,0,0,0,0,0)).2.2.2.2.2.1 (s0.getD s8.toNat (0,0,0,0,0,0,0)).2.2.2.2.2.2 af ah ak ag).bind fun x0=>
   bif x0 then some (.inr s8)
   else rec s0 s7 (zA (s8+1)) af ah ak ag)
  else none)
 else some (.inl ())
def HX (k:Nat):Nat→ZH
 |0,_,_,_,_,_,_,_=>none
 |n+1,s0,s7,s8,af,ah,ak,ag=>CT k (HX k n) s0 s7 s8 af ah ak ag
def Tw (k:Nat)(a0:List zB)(bD:List zK)(cq:EQ)(ct:AC)(cw:EQ):Option Int:=
 (HX k k a0 (a0.length:Int) 0 bD cq ct cw).bind fun z=>
 match z with
 |.inl z1=>some (-1)
 |.inr z2=>some z2
def LZ (k:Nat)(a0:List zB)(bD:List zK)(cq:EQ)(ct:AC)(cw:EQ):Option Bool:=
 (Tw k a0 bD cq ct cw).bind fun x0=>
 some (decide (x0≥0))
def Te (k:Nat)(g9 hY eI:Int):Option Bool:=
 (LM k g9 hY eI).bind fun x0=>
 some (!x0)
abbrev ZJ:Type:=List zK→Int→Int→Option (Unit⊕Int)
def CE (k:Nat)(rec:ZJ)(s0:List zK)(s7 s8:Int):Option (Unit⊕Int):=
 bif decide (s8 < s7) then (bif zC s8 s0.length then ((Te k (s0.getD s8.toNat (0,0,0)).1 (s0.getD s8.toNat (0,0,0)).2.1 (s0.getD s8.toNat (0,0,0)).2.2).bind fun x0=>
   bif x0 then some (.inr s8)
   else rec s0 s7 (zA (s8+1)))
  else none)
 else some (.inl ())
def HF (k:Nat):Nat→ZJ
 |0,_,_,_=>none
 |n+1,s0,s7,s8=>CE k (HF k n) s0 s7 s8
def Tf (k:Nat)(a0:List zK):Option Int:=
 (HF k k a0 (a0.length:Int) 0).bind fun z=>
 match z with
 |.inl z1=>some (-1)
 |.inr z2=>some z2
def LP (k:Nat)(a0:List zK):Option Bool:=
 (Tf k a0).bind fun x0=>
 some (decide (x0≥0))
def Tb (k:Nat)(a0:Int):Option Bool:=
 bif decide (a0≥(-1)) then some (decide (a0≤2305843009213693952))
 else some false
def Tg (k:Nat)(a0:Int):Option Bool:=
 (Tb k a0).bind fun x0=>
 some (!x0)
abbrev ZM:Type:=AC→Int→Int→Option (Unit⊕Int)
def CF (k:Nat)(rec:ZM)(s0:AC)(s7 s8:Int):Option (Unit⊕Int):=
 bif decide (s8 < s7) then (bif zC s8 s0.length then ((Tg k (s0.getD s8.toNat 0)).bind fun x0=>
   bif x0 then some (.inr s8)
   else rec s0 s7 (zA (s8+1)))
  else none)
 else some (.inl ())
def HG (k:Nat):Nat→ZM
 |0,_,_,_=>none
 |n+1,s0,s7,s8=>CF k (HG k n) s0 s7 s8
def Th (k:Nat)(a0:AC):Option Int:=
 (HG k k a0 (a0.length:Int) 0).bind fun z=>
 match z with
 |.inl z1=>some (-1)
 |.inr z2=>some z2
def LQ (k:Nat)(a0:AC):Option Bool:=
 (Th k a0).bind fun x0=>
 some (decide (x0≥0))
def HI (k:Nat)(a0:AC)(a1:Int):Option Bool:=
 bif decide ((a0.length : Int) = a1) then ((LQ k a0).bind fun x0=>
  some (!x0))
 else some false
abbrev ZQ:Type:=Int→EQ→Int→Int→Option (Unit⊕Bool)
def CH (k:Nat)(rec:ZQ)(s1:Int)(bo:EQ)(bz aZ:Int):Option (Unit⊕Bool):=
 bif decide (aZ < bz) then (bif zC aZ bo.length then ((HI k (bo.getD aZ.toNat []) s1).bind fun x0=>
   bif !x0 then some (.inr false)
   else rec s1 bo bz (zA (aZ+1)))
  else none)
 else some (.inl ())
def HJ (k:Nat):Nat→ZQ
 |0,_,_,_,_=>none
 |n+1,s1,bo,bz,aZ=>CH k (HJ k n) s1 bo bz aZ
def LU (k:Nat)(a0:EQ)(a1:Int):Option Bool:=
 bif !(decide ((a0.length:Int)=a1)) then some false
 else(HJ k k a1 a0 (a0.length:Int) 0).bind fun z=>
 match z with
 |.inl z1=>some true
 |.inr z2=>some z2
def LN (k:Nat)(a0:Int):Option Bool:=
 bif decide (a0>(-72057594037927936)) then some (decide (a0<72057594037927936))
 else some false
def Ti (k:Nat)(a0:Int):Option Bool:=
 (LN k a0).bind fun x0=>
 some (!x0)
abbrev ZS:Type:=AC→Int→Int→Option (Unit⊕Int)
def CG (k:Nat)(rec:ZS)(s0:AC)(s7 s8:Int):Option (Unit⊕Int):=
 bif decide (s8 < s7) then (bif zC s8 s0.length then ((Ti k (s0.getD s8.toNat 0)).bind fun x0=>
   bif x0 then some (.inr s8)
   else rec s0 s7 (zA (s8+1)))
  else none)
 else some (.inl ())
def HH (k:Nat):Nat→ZS
 |0,_,_,_=>none
 |n+1,s0,s7,s8=>CG k (HH k n) s0 s7 s8
def Tj (k:Nat)(a0:AC):Option Int:=
 (HH k k a0 (a0.length:Int) 0).bind fun z=>
 match z with
 |.inl z1=>some (-1)
 |.inr z2=>some z2
def LR (k:Nat)(a0:AC):Option Bool:=
 (Tj k a0).bind fun x0=>
 some (decide (x0≥0))
def LS (k:Nat)(a0:AC)(a1:Int):Option Bool:=
 bif decide ((a0.length : Int) = a1) then ((LR k a0).bind fun x0=>
  some (!x0))
 else some false
abbrev ZV:Type:=Int→EQ→Int→Int→Option (Unit⊕Bool)
def CI (k:Nat)(rec:ZV)(s1:Int)(bo:EQ)(bz aZ:Int):Option (Unit⊕Bool):=
 bif decide (aZ < bz) then (bif zC aZ bo.length then ((LS k (bo.getD aZ.toNat []) s1).bind fun x0=>
   bif !x0 then some (.inr false)
   else rec s1 bo bz (zA (aZ+1)))
  else none)
 else some (.inl ())
def HK (k:Nat):Nat→ZV
 |0,_,_,_,_=>none
 |n+1,s1,bo,bz,aZ=>CI k (HK k n) s1 bo bz aZ
def LV (k:Nat)(a0:EQ)(a1:Int):Option Bool:=
 bif !(decide ((a0.length:Int)=a1)) then some false
 else(HK k k a1 a0 (a0.length:Int) 0).bind fun z=>
 match z with
 |.inl z1=>some true
 |.inr z2=>some z2
abbrev ZZ:Type:=(EQ×EQ×Int×Int)⊕Bool
abbrev ZX:Type:=EQ→Int→EQ→Int→Int→AC→Int→Int→Option ZZ
def CK (k:Nat)(rec:ZX)(s0:EQ)(s3:Int)(s7:EQ)(s8 s9:Int)(bz:AC)(aZ bP:Int):Option ZZ:=
 bif decide (bP < aZ) then (bif zC bP bz.length then (bif zC bP s0.length then (bif zC s3 (s0.getD bP.toNat []).length then (bif !(decide (((s0.getD bP.toNat []).getD s3.toNat 0)=(zA (0-(bz.getD bP.toNat 0))))) then some (.inr false)
     else rec s0 s3 s7 s8 s9 bz aZ (zA (bP+1)))
    else none)
   else none)
  else none)
 else some (.inl (s0,s7,s8,s9))
def CJ (k:Nat):Nat→ZX
 |0,_,_,_,_,_,_,_,_=>none
 |n+1,s0,s3,s7,s8,s9,bz,aZ,bP=>CK k (CJ k n) s0 s3 s7 s8 s9 bz aZ bP
abbrev Z0:Type:=EQ→EQ→Int→Int→Option (Unit⊕Bool)
def CL (k:Nat)(rec:Z0)(s0 s7:EQ)(s8 s9:Int):Option (Unit⊕Bool):=
 bif decide (s9 < s8) then (bif zC s9 s7.length then ((CJ k k s0 s9 s7 s8 s9 (s7.getD s9.toNat []) ((s7.getD s9.toNat []).length:Int) 0).bind fun z=>
   match z with
   |.inl z1=>rec z1.1 z1.2.1 z1.2.2.1 (zA (z1.2.2.2+1))
   |.inr z2=>some (.inr z2))
  else none)
 else some (.inl ())
def HL (k:Nat):Nat→Z0
 |0,_,_,_,_=>none
 |n+1,s0,s7,s8,s9=>CL k (HL k n) s0 s7 s8 s9
def LW (k:Nat)(a0:EQ):Option Bool:=
 (HL k k a0 a0 (a0.length:Int) 0).bind fun z3=>
 match z3 with
 |.inl z4=>some true
 |.inr z5=>some z5
def HM (k:Nat)(au:List zK)(aA:EQ)(az:AC)(ax:EQ):Option Bool:=
 bif decide ((au.length:Int)<1) then some false
 else bif decide ((au.length:Int)>6) then some false
 else(LP k au).bind fun x0=>
 bif x0 then some false
 else(LU k aA (au.length:Int)).bind fun x1=>
 bif x1 then ((HI k az (au.length:Int)).bind fun x2=>
  bif x2 then ((LV k ax (au.length:Int)).bind fun x3=>
   bif x3 then ((LW k ax).bind fun x4=>
    some x4)
   else some false)
  else some false)
 else some false
abbrev Z6:Type:=(List zK)×EQ×AC×EQ×(List zK)×EQ×AC×EQ
abbrev Z4:Type:=List zB→Int→Int→List zK→EQ→AC→EQ→List zK→EQ→AC→EQ→Option Z6
def CX (k:Nat)(rec:Z4)(bn:List zB)(iX aV:Int)(af:List zK)(ah:EQ)(ak:AC)(ag:EQ)(r3:List zK)(m4:EQ)(r5:AC)(m6:EQ):Option Z6:=
 bif decide (aV < iX) then (bif zC aV bn.length then (bif zC (bn.getD aV.toNat (0, 0, 0, 0, 0, 0, 0)).2.1 r3.length then (bif zC (bn.getD aV.toNat (0, 0, 0, 0, 0, 0, 0)).2.2.1 r3.length then (let y0:List zK:=(r3.set (bn.getD aV.toNat (0,0,0,0,0,0,0)).2.1.toNat ((zA ((r3.getD (bn.getD aV.toNat (0,0,0,0,0,0,0)).2.1.toNat (0,0,0)).1-(bn.getD aV.toNat (0,0,0,0,0,0,0)).2.2.2.1)),(r3.getD (bn.getD aV.toNat (0,0,0,0,0,0,0)).2.1.toNat (0,0,0)).2))
     let y1:List zK:=(y0.set (bn.getD aV.toNat (0,0,0,0,0,0,0)).2.2.1.toNat ((zA ((y0.getD (bn.getD aV.toNat (0,0,0,0,0,0,0)).2.2.1.toNat (0,0,0)).1+(bn.getD aV.toNat (0,0,0,0,0,0,0)).2.2.2.1)),(y0.getD (bn.getD aV.toNat (0,0,0,0,0,0,0)).2.2.1.toNat (0,0,0)).2))
     bif !(decide ((bn.getD aV.toNat (0, 0, 0, 0, 0, 0, 0)).2.2.2.2.1 = 3)) then ((uR k (y1.getD (bn.getD aV.toNat (0,0,0,0,0,0,0)).2.1.toNat (0,0,0)).1 (y1.getD (bn.getD aV.toNat (0,0,0,0,0,0,0)).2.1.toNat (0,0,0)).2.1 (y1.getD (bn.getD aV.toNat (0,0,0,0,0,0,0)).2.1.toNat (0,0,0)).2.2 (bn.getD aV.toNat (0,0,0,0,0,0,0)).2.2.2.1).bind fun x2=>
      let y2:List zK:=(y1.set (bn.getD aV.toNat (0,0,0,0,0,0,0)).2.1.toNat ((y1.getD (bn.getD aV.toNat (0,0,0,0,0,0,0)).2.1.toNat (0,0,0)).1,(y1.getD (bn.getD aV.toNat (0,0,0,0,0,0,0)).2.1.toNat (0,0,0)).2.1,x2))
      bif zC (bn.getD aV.toNat (0, 0, 0, 0, 0, 0, 0)).2.1 m6.length then (bif zC (bn.getD aV.toNat (0, 0, 0, 0, 0, 0, 0)).2.2.1 (m6.getD (bn.getD aV.toNat (0, 0, 0, 0, 0, 0, 0)).2.1.toNat []).length then (bif zC (bn.getD aV.toNat (0, 0, 0, 0, 0, 0, 0)).2.2.1 (m6.getD (bn.getD aV.toNat (0, 0, 0, 0, 0, 0, 0)).2.1.toNat []).length then (let y3:EQ:=(m6.set (bn.getD aV.toNat (0,0,0,0,0,0,0)).2.1.toNat ((m6.getD (bn.getD aV.toNat (0,0,0,0,0,0,0)).2.1.toNat []).set (bn.getD aV.toNat (0,0,0,0,0,0,0)).2.2.1.toNat (zA (((m6.getD (bn.getD aV.toNat (0,0,0,0,0,0,0)).2.1.toNat []).getD (bn.getD aV.toNat (0,0,0,0,0,0,0)).2.2.1.toNat 0)+(bn.getD aV.toNat (0,0,0,0,0,0,0)).2.2.2.1))))
         bif zC (bn.getD aV.toNat (0, 0, 0, 0, 0, 0, 0)).2.2.1 y3.length then (bif zC (bn.getD aV.toNat (0, 0, 0, 0, 0, 0, 0)).2.1 (y3.getD (bn.getD aV.toNat (0, 0, 0, 0, 0, 0, 0)).2.2.1.toNat []).length then (bif zC (bn.getD aV.toNat (0, 0, 0, 0, 0, 0, 0)).2.1 (y3.getD (bn.getD aV.toNat (0, 0, 0, 0, 0, 0, 0)).2.2.1.toNat []).length then (let y4:EQ:=(y3.set (bn.getD aV.toNat (0,0,0,0,0,0,0)).2.2.1.toNat ((y3.getD (bn.getD aV.toNat (0,0,0,0,0,0,0)).2.2.1.toNat []).set (bn.getD aV.toNat (0,0,0,0,0,0,0)).2.1.toNat (zA (((y3.getD (bn.getD aV.toNat (0,0,0,0,0,0,0)).2.2.1.toNat []).getD (bn.getD aV.toNat (0,0,0,0,0,0,0)).2.1.toNat 0)-(bn.getD aV.toNat (0,0,0,0,0,0,0)).2.2.2.1))))
            rec bn iX (zA (aV+1)) af ah ak ag y2 m4 r5 y4)
           else none)
          else none)
         else none)
        else none)
       else none)
      else none)
     else bif zC (bn.getD aV.toNat (0, 0, 0, 0, 0, 0, 0)).2.1 m6.length then (bif zC (bn.getD aV.toNat (0, 0, 0, 0, 0, 0, 0)).2.2.1 (m6.getD (bn.getD aV.toNat (0, 0, 0, 0, 0, 0, 0)).2.1.toNat []).length then (bif zC (bn.getD aV.toNat (0, 0, 0, 0, 0, 0, 0)).2.2.1 (m6.getD (bn.getD aV.toNat (0, 0, 0, 0, 0, 0, 0)).2.1.toNat []).length then (let y5:EQ:=(m6.set (bn.getD aV.toNat (0,0,0,0,0,0,0)).2.1.toNat ((m6.getD (bn.getD aV.toNat (0,0,0,0,0,0,0)).2.1.toNat []).set (bn.getD aV.toNat (0,0,0,0,0,0,0)).2.2.1.toNat (zA (((m6.getD (bn.getD aV.toNat (0,0,0,0,0,0,0)).2.1.toNat []).getD (bn.getD aV.toNat (0,0,0,0,0,0,0)).2.2.1.toNat 0)+(bn.getD aV.toNat (0,0,0,0,0,0,0)).2.2.2.1))))
        bif zC (bn.getD aV.toNat (0, 0, 0, 0, 0, 0, 0)).2.2.1 y5.length then (bif zC (bn.getD aV.toNat (0, 0, 0, 0, 0, 0, 0)).2.1 (y5.getD (bn.getD aV.toNat (0, 0, 0, 0, 0, 0, 0)).2.2.1.toNat []).length then (bif zC (bn.getD aV.toNat (0, 0, 0, 0, 0, 0, 0)).2.1 (y5.getD (bn.getD aV.toNat (0, 0, 0, 0, 0, 0, 0)).2.2.1.toNat []).length then (let y6:EQ:=(y5.set (bn.getD aV.toNat (0,0,0,0,0,0,0)).2.2.1.toNat ((y5.getD (bn.getD aV.toNat (0,0,0,0,0,0,0)).2.2.1.toNat []).set (bn.getD aV.toNat (0,0,0,0,0,0,0)).2.1.toNat (zA (((y5.getD (bn.getD aV.toNat (0,0,0,0,0,0,0)).2.2.1.toNat []).getD (bn.getD aV.toNat (0,0,0,0,0,0,0)).2.1.toNat 0)-(bn.getD aV.toNat (0,0,0,0,0,0,0)).2.2.2.1))))
           rec bn iX (zA (aV+1)) af ah ak ag y1 m4 r5 y6)
          else none)
         else none)
        else none)
       else none)
      else none)
     else none)
    else none)
   else none)
  else none)
 else some (af,ah,ak,ag,r3,m4,r5,m6)
def CW (k:Nat):Nat→Z4
 |0,_,_,_,_,_,_,_,_,_,_,_=>none
 |n+1,bn,iX,aV,af,ah,ak,ag,r3,m4,r5,m6=>CX k (CW k n) bn iX aV af ah ak ag r3 m4 r5 m6
def oI (k:Nat)(au:List zK)(aA:EQ)(az:AC)(ax:EQ)(a1:List zB):Option ((List zK)×EQ×AC×EQ×Int):=
 bif decide ((a1.length:Int)>64) then some (au,aA,az,ax,1)
 else(LZ k a1 au aA az ax).bind fun x0=>
 bif x0 then some (au,aA,az,ax,1)
 else(fM k au aA az ax).bind fun x1=>
 (CW k k a1 (a1.length:Int) 0 au aA az ax x1.1 x1.2.1 x1.2.2.1 x1.2.2.2).bind fun z=>
 (HM k z.2.2.2.2.1 z.2.2.2.2.2.1 z.2.2.2.2.2.2.1 z.2.2.2.2.2.2.2).bind fun x3=>
 bif !x3 then some (vP z 8)
 else some (yXp z 0)
abbrev Z9:Type:=((List zK)×EQ×AC×EQ×Int×Int×Int×Int×Int×Int×Int)⊕(Bool×Int×Int×Int×Int×Int×Int×Int×(List zK)×EQ×AC×EQ)
abbrev Z7:Type:=Int→Int→List zK→EQ→AC→EQ→Int→Int→Int→Int→Int→Int→Int→List zB→Option Z9
def Ea (k:Nat)(rec:Z7)(bP bd:Int)(af:List zK)(ah:EQ)(ak:AC)(ag:EQ)(av aB aC aE aG aH aI:Int)(r3:List zB):Option Z9:=
 bif decide (bd < bP) then (bif zC bd r3.length then ((zc k af ah ak ag [(r3.getD bd.toNat (0,0,0,0,0,0,0))]).bind fun x1=>
   bif !x1 then(rec bP (zA (bd+1)) af ah ak ag av aB aC aE aG aH aI r3)
   else(oI k af ah ak ag [(r3.getD bd.toNat (0,0,0,0,0,0,0))]).bind fun x2=>
   bif decide (x2.2.2.2.2=0) then some (.inr (true,(gb (r3.getD bd.toNat (0,0,0,0,0,0,0)) (wK x2))))
   else rec bP (zA (bd+1)) af ah ak ag av aB aC aE aG aH aI r3)
  else none)
 else some (.inl (af,ah,ak,ag,av,aB,aC,aE,aG,aH,aI))
def ID (k:Nat):Nat→Z7
 |0,_,_,_,_,_,_,_,_,_,_,_,_,_,_=>none
 |n+1,bP,bd,af,ah,ak,ag,av,aB,aC,aE,aG,aH,aI,r3=>Ea k (ID k n) bP bd af ah ak ag av aB aC aE aG aH aI r3
def MO (k:Nat)(au:List zK)(aA:EQ)(az:AC)(ax:EQ)(a1:List zB)(a2:Int):Option (Int×Int×Int×Int×Int×Int×Int×(List zK)×EQ×AC×EQ×Bool):=
 (Ip k a1 a2).bind fun x0=>
 (ID k k (x0.length:Int) 0 au aA az ax 0 0 0 0 0 0 0 x0).bind fun z=>
 match z with
 |.inl z1=>some (0,0,0,0,0,0,0,(vP z1 false))
 |.inr z2=>some (vP2 z2 z2.1)
abbrev qOo:Type:=(List zB)×(List zK)×EQ×AC×EQ×(List zB)
abbrev qL9:Type:=Int→List zB→List zK→EQ→AC→EQ→List zB→Option qOo
def Ec (k:Nat)(rec:qL9)(s2:Int)(s7:List zB)(af:List zK)(ah:EQ)(ak:AC)(ag:EQ)(r1:List zB):Option qOo:=
 (MO k af ah ak ag s7 s2).bind fun x0=>
 bif !x0.2.2.2.2.2.2.2.2.2.2.2 then some (s7,af,ah,ak,ag,r1)
 else(oK k s7 x0.1).bind fun x1=>
 bif zO (r1.length + 1) 56 then (let y0:List zB:=(r1++[(wD x0)])
  rec s2 x1.1 x0.2.2.2.2.2.2.2.1 x0.2.2.2.2.2.2.2.2.1 x0.2.2.2.2.2.2.2.2.2.1 x0.2.2.2.2.2.2.2.2.2.2.1 y0)
 else none
def IE (k:Nat):Nat→qL9
 |0,_,_,_,_,_,_,_=>none
 |n+1,s2,s7,af,ah,ak,ag,r1=>Ec k (IE k n) s2 s7 af ah ak ag r1
def MP (k:Nat)(au:List zK)(aA:EQ)(az:AC)(ax:EQ)(a1:List zB)(a2:Int):Option rp:=
 (IE k k a2 a1 au aA az ax []).bind fun z=>
 some (gH z (z.1,z.2.2.2.2.2))
abbrev qJe:Type:=(Int×Int×(List zK)×EQ×AC×EQ×Int×Int×Int×Int×Int×Int×Int×Int×Int×Int×Int×Int×Int×Int×(List zB))⊕yMq
abbrev qMr:Type:=Int→Int→Int→Int→List zK→EQ→AC→EQ→Int→Int→Int→Int→Int→Int→Int→Int→Int→Int→Int→Int→Int→Int→List zB→Int→Int→Int→Int→Int→Int→Int→Option qJe
def Ef (k:Nat)(rec:qMr)(dB cH iX aV:Int)(af:List zK)(ah:EQ)(ak:AC)(ag:EQ)(av aB aC aE aG aH aI cy cz bA aU cd cf cg:Int)(r2:List zB)(cc cV de gk gl gm gn:Int):Option qJe:=
 bif decide (aV < iX) then (bif zC aV r2.length then (bif !(decide ((r2.getD aV.toNat (0,0,0,0,0,0,0)).2.1=de)) then(rec dB cH iX (zA (aV+1)) af ah ak ag av aB aC aE aG aH aI cy cz bA aU cd cf cg r2 cc cV de gk gl gm gn)
   else bif !(decide ((r2.getD aV.toNat (0,0,0,0,0,0,0)).2.2.1=cV)) then(rec dB cH iX (zA (aV+1)) af ah ak ag av aB aC aE aG aH aI cy cz bA aU cd cf cg r2 cc cV de gk gl gm gn)
   else bif decide (cV≥(r2.getD aV.toNat (0,0,0,0,0,0,0)).2.1) then(rec dB cH iX (zA (aV+1)) af ah ak ag av aB aC aE aG aH aI cy cz bA aU cd cf cg r2 cc cV de gk gl gm gn)
   else(zc k af ah ak ag [(cc,cV,de,gk,gl,gm,gn),(r2.getD aV.toNat (0,0,0,0,0,0,0))]).bind fun x1=>
   bif !x1 then(rec dB cH iX (zA (aV+1)) af ah ak ag av aB aC aE aG aH aI cy cz bA aU cd cf cg r2 cc cV de gk gl gm gn)
   else(oI k af ah ak ag [(cc,cV,de,gk,gl,gm,gn),(r2.getD aV.toNat (0,0,0,0,0,0,0))]).bind fun x2=>
   bif decide (x2.2.2.2.2=0) then some (.inr (true,cc,cV,de,gk,gl,gm,gn,(gb (r2.getD aV.toNat (0,0,0,0,0,0,0)) (wK x2))))
   else rec dB cH iX (zA (aV+1)) af ah ak ag av aB aC aE aG aH aI cy cz bA aU cd cf cg r2 cc cV de gk gl gm gn)
  else none)
 else some (.inl (dB,cH,af,ah,ak,ag,av,aB,aC,aE,aG,aH,aI,cy,cz,bA,aU,cd,cf,cg,r2))
def IF (k:Nat):Nat→qMr
 |0,_,_,_,_,_,_,_,_,_,_,_,_,_,_,_,_,_,_,_,_,_,_,_,_,_,_,_,_,_,_=>none
 |n+1,dB,cH,iX,aV,af,ah,ak,ag,av,aB,aC,aE,aG,aH,aI,cy,cz,bA,aU,cd,cf,cg,r2,cc,cV,de,gk,gl,gm,gn=>Ef k (IF k n) dB cH iX aV af ah ak ag av aB aC aE aG aH aI cy cz bA aU cd cf cg r2 cc cV de gk gl gm gn
abbrev qId:Type:=(Int×Int×Int×Int×Int×Int×Int×Int×Int×Int×Int×Int×Int×Int)⊕yMq
abbrev qNo:Type:=Int→Int→List zK→EQ→AC→EQ→Int→Int→Int→Int→Int→Int→Int→Int→Int→Int→Int→Int→Int→Int→List zB→Option qId
def Eg (k:Nat)(rec:qNo)(dB cH:Int)(af:List zK)(ah:EQ)(ak:AC)(ag:EQ)(av aB aC aE aG aH aI cy cz bA aU cd cf cg:Int)(r2:List zB):Option qId:=
 bif decide (cH < dB) then (bif zC cH r2.length then ((IF k k dB cH (r2.length:Int) 0 af ah ak ag av aB aC aE aG aH aI cy cz bA aU cd cf cg r2 (r2.getD cH.toNat (0,0,0,0,0,0,0)).1 (r2.getD cH.toNat (0,0,0,0,0,0,0)).2.1 (r2.getD cH.toNat (0,0,0,0,0,0,0)).2.2.1 (r2.getD cH.toNat (0,0,0,0,0,0,0)).2.2.2.1 (r2.getD cH.toNat (0,0,0,0,0,0,0)).2.2.2.2.1 (r2.getD cH.toNat (0,0,0,0,0,0,0)).2.2.2.2.2.1 (r2.getD cH.toNat (0,0,0,0,0,0,0)).2.2.2.2.2.2).bind fun z=>
   match z with
   |.inl z1=>rec z1.1 (zA (z1.2.1+1)) z1.2.2.1 z1.2.2.2.1 z1.2.2.2.2.1 z1.2.2.2.2.2.1 z1.2.2.2.2.2.2.1 z1.2.2.2.2.2.2.2.1 z1.2.2.2.2.2.2.2.2.1 z1.2.2.2.2.2.2.2.2.2.1 z1.2.2.2.2.2.2.2.2.2.2.1 z1.2.2.2.2.2.2.2.2.2.2.2.1 z1.2.2.2.2.2.2.2.2.2.2.2.2.1 z1.2.2.2.2.2.2.2.2.2.2.2.2.2.1 z1.2.2.2.2.2.2.2.2.2.2.2.2.2.2.1 z1.2.2.2.2.2.2.2.2.2.2.2.2.2.2.2.1 z1.2.2.2.2.2.2.2.2.2.2.2.2.2.2.2.2.1 z1.2.2.2.2.2.2.2.2.2.2.2.2.2.2.2.2.2.1 z1.2.2.2.2.2.2.2.2.2.2.2.2.2.2.2.2.2.2.1 z1.2.2.2.2.2.2.2.2.2.2.2.2.2.2.2.2.2.2.2.1 z1.2.2.2.2.2.2.2.2.2.2.2.2.2.2.2.2.2.2.2.2
   |.inr z2=>some (.inr (z2.1,z2.2.1,z2.2.2.1,z2.2.2.2.1,z2.2.2.2.2.1,z2.2.2.2.2.2.1,z2.2.2.2.2.2.2.1,z2.2.2.2.2.2.2.2.1,z2.2.2.2.2.2.2.2.2.1,z2.2.2.2.2.2.2.2.2.2.1,z2.2.2.2.2.2.2.2.2.2.2.1,z2.2.2.2.2.2.2.2.2.2.2.2.1,z2.2.2.2.2.2.2.2.2.2.2.2.2.1,z2.2.2.2.2.2.2.2.2.2.2.2.2.2.1,z2.2.2.2.2.2.2.2.2.2.2.2.2.2.2.1,z2.2.2.2.2.2.2.2.2.2.2.2.2.2.2.2.1,z2.2.2.2.2.2.2.2.2.2.2.2.2.2.2.2.2.1,z2.2.2.2.2.2.2.2.2.2.2.2.2.2.2.2.2.2.1,z2.2.2.2.2.2.2.2.2.2.2.2.2.2.2.2.2.2.2)))
  else none)
 else some (.inl (av,aB,aC,aE,aG,aH,aI,cy,cz,bA,aU,cd,cf,cg))
def IH (k:Nat):Nat→qNo
 |0,_,_,_,_,_,_,_,_,_,_,_,_,_,_,_,_,_,_,_,_,_=>none
 |n+1,dB,cH,af,ah,ak,ag,av,aB,aC,aE,aG,aH,aI,cy,cz,bA,aU,cd,cf,cg,r2=>Eg k (IH k n) dB cH af ah ak ag av aB aC aE aG aH aI cy cz bA aU cd cf cg r2
def MR (k:Nat)(au:List zK)(aA:EQ)(az:AC)(ax:EQ)(a1:List zB)(a2:Int):Option (Int×Int×Int×Int×Int×Int×Int×Int×Int×Int×Int×Int×Int×Int×(List zK)×EQ×AC×EQ×Bool):=
 (Ip k a1 a2).bind fun x0=>
 (IH k k (x0.length:Int) 0 au aA az ax 0 0 0 0 0 0 0 0 0 0 0 0 0 0 x0).bind fun z3=>
 match z3 with
 |.inl z4=>some (0,0,0,0,0,0,0,0,0,0,0,0,0,0,[],[],[],[],false)
 |.inr z5=>some (qKh z5 z5.1)
abbrev qK9:Type:=Int×(List zB)×(List zK)×EQ×AC×EQ×(List zB)
abbrev qOn:Type:=Int→List zB→Int→Int→List zK→EQ→AC→EQ→List zB→List zB→Option qK9
def uZ (k:Nat)(rec:qOn)(s2:Int)(s7:List zB)(A2 rq:Int)(af:List zK)(ah:EQ)(ak:AC)(ag:EQ)(r1 r2:List zB):Option qK9:=
 bif decide (rq < A2) then (bif zC rq r2.length then ((oK k s7 (r2.getD rq.toNat (0,0,0,0,0,0,0)).1).bind fun x1=>
   bif zO (r1.length + 1) 56 then (let y0:List zB:=(r1++[(r2.getD rq.toNat (0,0,0,0,0,0,0))])
    rec s2 x1.1 A2 (zA (rq+1)) af ah ak ag y0 r2)
   else none)
  else none)
 else some (s2,s7,af,ah,ak,ag,r1)
def sY (k:Nat):Nat→qOn
 |0,_,_,_,_,_,_,_,_,_,_=>none
 |n+1,s2,s7,A2,rq,af,ah,ak,ag,r1,r2=>uZ k (sY k n) s2 s7 A2 rq af ah ak ag r1 r2
abbrev qHf:Type:=(List zB)×(List zK)×EQ×AC×EQ×(List zB)
abbrev qIt:Type:=Int→List zB→List zK→EQ→AC→EQ→List zB→Option qHf
def Eh (k:Nat)(rec:qIt)(s2:Int)(s7:List zB)(af:List zK)(ah:EQ)(ak:AC)(ag:EQ)(r1:List zB):Option qHf:=
 (MR k af ah ak ag s7 s2).bind fun x0=>
 bif !x0.2.2.2.2.2.2.2.2.2.2.2.2.2.2.2.2.2.2 then some (s7,af,ah,ak,ag,r1)
 else(sY k k s2 s7 2 0 x0.2.2.2.2.2.2.2.2.2.2.2.2.2.2.1 x0.2.2.2.2.2.2.2.2.2.2.2.2.2.2.2.1 x0.2.2.2.2.2.2.2.2.2.2.2.2.2.2.2.2.1 x0.2.2.2.2.2.2.2.2.2.2.2.2.2.2.2.2.2.1 r1 [(wD x0),(qRv x0)]).bind fun z=>
 rec z.1 z.2.1 z.2.2.1 z.2.2.2.1 z.2.2.2.2.1 z.2.2.2.2.2.1 z.2.2.2.2.2.2
def II (k:Nat):Nat→qIt
 |0,_,_,_,_,_,_,_=>none
 |n+1,s2,s7,af,ah,ak,ag,r1=>Eh k (II k n) s2 s7 af ah ak ag r1
def MS (k:Nat)(au:List zK)(aA:EQ)(az:AC)(ax:EQ)(a1:List zB)(a2:Int):Option rp:=
 (II k k a2 a1 au aA az ax []).bind fun z1=>
 some (gH z1 (z1.1,z1.2.2.2.2.2))
abbrev qJa:Type:=(List zB)×(List zK)×EQ×AC×EQ×(List zB)
abbrev qHv:Type:=Int→List zB→List zK→EQ→AC→EQ→List zB→Option qJa
def M3 (k:Nat)(rec:qHv)(s2:Int)(s7:List zB)(af:List zK)(ah:EQ)(ak:AC)(ag:EQ)(r1:List zB):Option qJa:=
 (MP k af ah ak ag s7 s2).bind fun x0=>
 (MS k x0.1 x0.2.1 x0.2.2.1 x0.2.2.2.1 x0.2.2.2.2.1 s2).bind fun x1=>
 bif zO (r1.length + x0.2.2.2.2.2.length) 56 then (bif zO ((r1 ++ x0.2.2.2.2.2).length + x1.2.2.2.2.2.length) 56 then (let y0:List zB:=((r1++x0.2.2.2.2.2)++x1.2.2.2.2.2)
   bif decide ((x1.2.2.2.2.2.length:Int)=0) then some (x1.2.2.2.2.1,(vP x1 y0))
   else rec s2 x1.2.2.2.2.1 x1.1 x1.2.1 x1.2.2.1 x1.2.2.2.1 y0)
  else none)
 else none
def IQ (k:Nat):Nat→qHv
 |0,_,_,_,_,_,_,_=>none
 |n+1,s2,s7,af,ah,ak,ag,r1=>M3 k (IQ k n) s2 s7 af ah ak ag r1
def IS (k:Nat)(au:List zK)(aA:EQ)(az:AC)(ax:EQ)(a1:List zB)(a2:Int):Option rp:=
 (IQ k k a2 a1 au aA az ax []).bind fun z=>
 some (gH z (z.1,z.2.2.2.2.2))
def Ul (k:Nat)(a0:AC):Option AC:=
 bif zO (0+a0.length) 8 then some a0
 else none
def Un (k:Nat)(bZ ba bq cn bH bT bJ:Int)(a1:AC):Option (Bool×AC):=
 bif decide (ba<0) then some (false,a1)
 else bif decide (ba≥(a1.length:Int)) then some (false,a1)
 else bif zC ba a1.length then (bif decide ((a1.getD ba.toNat 0)<1) then some (false,a1)
  else bif zC ba a1.length then (bif zC ba a1.length then some (true,(a1.set ba.toNat (zA ((a1.getD ba.toNat 0)-1))))
   else none)
  else none)
 else none
abbrev qTb:Type:=AC×(List zB)
abbrev qL2:Type:=List zB→Int→Int→AC→List zB→Option qTb
def El (k:Nat)(rec:qL2)(s8:List zB)(s9 aw:Int)(r1:AC)(r2:List zB):Option qTb:=
 bif decide (aw < s9) then (bif zC aw s8.length then ((Un k (s8.getD aw.toNat (0,0,0,0,0,0,0)).1 (s8.getD aw.toNat (0,0,0,0,0,0,0)).2.1 (s8.getD aw.toNat (0,0,0,0,0,0,0)).2.2.1 (s8.getD aw.toNat (0,0,0,0,0,0,0)).2.2.2.1 (s8.getD aw.toNat (0,0,0,0,0,0,0)).2.2.2.2.1 (s8.getD aw.toNat (0,0,0,0,0,0,0)).2.2.2.2.2.1 (s8.getD aw.toNat (0,0,0,0,0,0,0)).2.2.2.2.2.2 r1).bind fun x0=>
   bif x0.1 then (bif zO (r2.length + 1) 56 then (let y0:List zB:=(r2++[(s8.getD aw.toNat (0,0,0,0,0,0,0))])
     rec s8 s9 (zA (aw+1)) x0.2 y0)
    else none)
   else rec s8 s9 (zA (aw+1)) x0.2 r2)
  else none)
 else some (r1,r2)
def Ek (k:Nat):Nat→qL2
 |0,_,_,_,_,_=>none
 |n+1,s8,s9,aw,r1,r2=>El k (Ek k n) s8 s9 aw r1 r2
def Um (k:Nat)(a0:List zB)(cS:AC):Option ((List zB)×AC):=
 (Ek k k a0 (a0.length:Int) 0 cS []).bind fun z=>
 some (z.2,z.1)
def Ej (k:Nat)(a0:List zB)(a1:AC):Option (List zB):=
 (Ul k a1).bind fun x0=>
 (Um k a0 x0).bind fun x1=>
 some x1.1
abbrev qI7:Type:=Int×(List zK)×EQ×AC×EQ×AC×(List zB)
abbrev qJ0:Type:=Int→Int→Int→List zK→EQ→AC→EQ→AC→List zB→Option qI7
def En (k:Nat)(rec:qJ0)(s7 kf dB:Int)(af:List zK)(ah:EQ)(ak:AC)(ag:EQ)(r1:AC)(r2:List zB):Option qI7:=
 bif decide (dB < kf) then ((IM k r2 dB).bind fun x1=>
  bif zO (r1.length+1) 8 then(rec s7 kf (zA (dB+1)) af ah ak ag (r1++[(x1.length:Int)]) r2)
  else none)
 else some (s7,af,ah,ak,ag,r1,r2)
def zn (k:Nat):Nat→qJ0
 |0,_,_,_,_,_,_,_,_,_=>none
 |n+1,s7,kf,dB,af,ah,ak,ag,r1,r2=>En k (zn k n) s7 kf dB af ah ak ag r1 r2
abbrev qSo:Type:=Int×(List zK)×EQ×AC×EQ×AC×(List zB)
abbrev qWf:Type:=Int→Int→Int→List zK→EQ→AC→EQ→AC→List zB→AC→Option qSo
def Ep (k:Nat)(rec:qWf)(s7 PQ mT:Int)(af:List zK)(ah:EQ)(ak:AC)(ag:EQ)(r1:AC)(r2:List zB)(r3:AC):Option qSo:=
 bif decide (mT < PQ) then (bif zC mT r3.length then (bif zC (r3.getD mT.toNat 0) r1.length then (bif zC (r3.getD mT.toNat 0) r1.length then (let y0:AC:=(r1.set (r3.getD mT.toNat 0).toNat (zA ((r1.getD (r3.getD mT.toNat 0).toNat 0)-1)))
     rec s7 PQ (zA (mT+1)) af ah ak ag y0 r2 r3)
    else none)
   else none)
  else none)
 else some (s7,af,ah,ak,ag,r1,r2)
def Eo (k:Nat):Nat→qWf
 |0,_,_,_,_,_,_,_,_,_,_=>none
 |n+1,s7,PQ,mT,af,ah,ak,ag,r1,r2,r3=>Ep k (Eo k n) s7 PQ mT af ah ak ag r1 r2 r3
abbrev qUf:Type:=Int→List zK→EQ→AC→EQ→AC→List zB→Option (Int×AC)
def Er (k:Nat)(rec:qUf)(s7:Int)(af:List zK)(ah:EQ)(ak:AC)(ag:EQ)(r1:AC)(r2:List zB):Option (Int×AC):=
 (Ej k r2 r1).bind fun x2=>
 (zb k af ah ak ag x2).bind fun x3=>
 bif decide ((x3.length:Int)=0) then some ((zA (s7+1)),r1)
 else(Eo k k (zA (s7+1)) (x3.length:Int) 0 af ah ak ag r1 r2 x3).bind fun z1=>
 rec z1.1 z1.2.1 z1.2.2.1 z1.2.2.2.1 z1.2.2.2.2.1 z1.2.2.2.2.2.1 z1.2.2.2.2.2.2
def IP (k:Nat):Nat→qUf
 |0,_,_,_,_,_,_,_=>none
 |n+1,s7,af,ah,ak,ag,r1,r2=>Er k (IP k n) s7 af ah ak ag r1 r2
def MX (k:Nat)(au:List zK)(aA:EQ)(az:AC)(ax:EQ)(a1:List zB)(a2:Int):Option (AC×Int):=
 (Dv k a1 a2).bind fun x0=>
 (zn k k 0 (au.length:Int) 0 au aA az ax [] x0).bind fun z=>
 (IP k k z.1 z.2.1 z.2.2.1 z.2.2.2.1 z.2.2.2.2.1 z.2.2.2.2.2.1 z.2.2.2.2.2.2).bind fun z2=>
 some (z2.2,z2.1)
abbrev qUj:Type:=(List zB)×(List zK)×EQ×AC×EQ×(List zB)
abbrev qU6:Type:=List zB→Int→Int→List zK→EQ→AC→EQ→List zB→Option qUj
def Es (k:Nat)(rec:qU6)(s7:List zB)(kF fS:Int)(af:List zK)(ah:EQ)(ak:AC)(ag:EQ)(r1:List zB):Option qUj:=
 bif decide (fS < kF) then (bif zC fS r1.length then ((oK k s7 (r1.getD fS.toNat (0,0,0,0,0,0,0)).1).bind fun x4=>
   rec x4.1 kF (zA (fS+1)) af ah ak ag r1)
  else none)
 else some (s7,af,ah,ak,ag,r1)
def zo (k:Nat):Nat→qU6
 |0,_,_,_,_,_,_,_,_=>none
 |n+1,s7,kF,fS,af,ah,ak,ag,r1=>Es k (zo k n) s7 kF fS af ah ak ag r1
def zp (k:Nat)(au:List zK)(aA:EQ)(az:AC)(ax:EQ)(a1:List zB)(a2:Int):Option rp:=
 (MX k au aA az ax a1 a2).bind fun x0=>
 (Dv k a1 a2).bind fun x1=>
 (Ej k x1 x0.1).bind fun x2=>
 (oI k au aA az ax x2).bind fun x3=>
 bif !(decide (x3.2.2.2.2=0)) then some (au,aA,az,ax,a1,[])
 else(zo k k a1 (x2.length:Int) 0 x3.1 x3.2.1 x3.2.2.1 x3.2.2.2.1 x2).bind fun z=>
 some (gH z (z.1,z.2.2.2.2.2))
def vg (k:Nat)(au:List zK)(aA:EQ)(az:AC)(ax:EQ)(a1:List zB)(a2:Int)(a3:Bool):Option rp:=
 (IS k au aA az ax a1 a2).bind fun x0=>
 bif !a3 then some (x0.1,x0.2.1,x0.2.2.1,x0.2.2.2.1,x0.2.2.2.2.1,x0.2.2.2.2.2)
 else(zp k x0.1 x0.2.1 x0.2.2.1 x0.2.2.2.1 x0.2.2.2.2.1 a2).bind fun x1=>
 bif decide ((x1.2.2.2.2.2.length:Int)=0) then some (oW x1 x0.2.2.2.2.2)
 else(IS k x1.1 x1.2.1 x1.2.2.1 x1.2.2.2.1 x1.2.2.2.2.1 a2).bind fun x2=>
 bif zO (x0.2.2.2.2.2.length + x1.2.2.2.2.2.length) 56 then (bif zO ((x0.2.2.2.2.2 ++ x1.2.2.2.2.2).length + x2.2.2.2.2.2.length) 56 then (let y0:List zB:=((x0.2.2.2.2.2++x1.2.2.2.2.2)++x2.2.2.2.2.2)
   some (oW x2 y0))
  else none)
 else none
abbrev qNf:Type:=(List zB)×Int×Int×(List qA)
abbrev qU2:Type:=List zB→Int→Int→Int→Int→List qA→Int→Int→Int→Int→Int→Int→Int→AC→Option qNf
def vj (k:Nat)(rec:qU2)(s8:List zB)(s9 aw dB cH:Int)(r0:List qA)(av aB aC aE aG aH aI:Int)(r2:AC):Option qNf:=
 bif decide (cH < dB) then (bif zC cH r2.length then ((oP k (r2.getD cH.toNat 0) 18 [av,aB,aC,aE]).bind fun x0=>
   bif zO (r0.length+1) 64 then(rec s8 s9 aw dB (zA (cH+1)) (r0++[x0]) av aB aC aE aG aH aI r2)
   else none)
  else none)
 else some (s8,s9,aw,r0)
def vi (k:Nat):Nat→qU2
 |0,_,_,_,_,_,_,_,_,_,_,_,_,_,_=>none
 |n+1,s8,s9,aw,dB,cH,r0,av,aB,aC,aE,aG,aH,aI,r2=>vj k (vi k n) s8 s9 aw dB cH r0 av aB aC aE aG aH aI r2
abbrev qLk:Type:=List qA
abbrev qNj:Type:=List zB→Int→Int→List qA→Option qLk
def Ev (k:Nat)(rec:qNj)(s8:List zB)(s9 aw:Int)(r0:List qA):Option qLk:=
 bif decide (aw < s9) then (bif zC aw s8.length then ((vi k k s8 s9 aw 2 0 r0 (s8.getD aw.toNat (0,0,0,0,0,0,0)).1 (s8.getD aw.toNat (0,0,0,0,0,0,0)).2.1 (s8.getD aw.toNat (0,0,0,0,0,0,0)).2.2.1 (s8.getD aw.toNat (0,0,0,0,0,0,0)).2.2.2.1 (s8.getD aw.toNat (0,0,0,0,0,0,0)).2.2.2.2.1 (s8.getD aw.toNat (0,0,0,0,0,0,0)).2.2.2.2.2.1 (s8.getD aw.toNat (0,0,0,0,0,0,0)).2.2.2.2.2.2 [(s8.getD aw.toNat (0,0,0,0,0,0,0)).2.1,(s8.getD aw.toNat (0,0,0,0,0,0,0)).2.2.1]).bind fun z=>
   rec z.1 z.2.1 (zA (z.2.2.1+1)) z.2.2.2)
  else none)
 else some r0
def IT (k:Nat):Nat→qNj
 |0,_,_,_,_=>none
 |n+1,s8,s9,aw,r0=>Ev k (IT k n) s8 s9 aw r0
def M4 (k:Nat)(a0:List zB):Option (List qA):=
 (IT k k a0 (a0.length:Int) 0 []).bind fun z1=>
 some z1
def td (k:Nat)(lq:Int)(oX:List zK)(oY:EQ)(oZ:AC)(o0:EQ)(o6:AC)(o9:EQ)(lr:List zB)(pb:AC)(pc:Int)(pf a1:Bool):Option PJ:=
 (vg k oX oY oZ o0 lr lq a1).bind fun x0=>
 (M4 k x0.2.2.2.2.2).bind fun x1=>
 some (lq,(vP x0 (o6,o9,x0.2.2.2.2.1,pb,pc,pf,x1)))
abbrev qJo:Type:=Int×(List vJ)×Int×Int×Int×Int×(List zK)×EQ×AC×EQ×AC×EQ×(List zB)×AC×Int×Bool×Int×Int×Bool×(List qA)×(List zB)
abbrev qI1:Type:=List zB→Int→Int→Int→List vJ→Int→Int→Int→Int→List zK→EQ→AC→EQ→AC→EQ→List zB→AC→Int→Bool→Int→Int→Bool→List qA→List zB→Option qJo
def EE (k:Nat)(rec:qI1)(eY:List zB)(kG eZ af:Int)(ah:List vJ)(ak ag aX av:Int)(aB:List zK)(aC:EQ)(aE:AC)(aG:EQ)(aH:AC)(aI:EQ)(cy:List zB)(cz:AC)(bA:Int)(aU:Bool)(aY pn:Int)(kh:Bool)(r3:List qA)(r4:List zB):Option qJo:=
 bif decide (eZ < kG) then (bif zC eZ eY.length then ((Ux k (eY.getD eZ.toNat (0,0,0,0,0,0,0)).1 (eY.getD eZ.toNat (0,0,0,0,0,0,0)).2.1 (eY.getD eZ.toNat (0,0,0,0,0,0,0)).2.2.1 (eY.getD eZ.toNat (0,0,0,0,0,0,0)).2.2.2.1 (eY.getD eZ.toNat (0,0,0,0,0,0,0)).2.2.2.2.1 (eY.getD eZ.toNat (0,0,0,0,0,0,0)).2.2.2.2.2.1 (eY.getD eZ.toNat (0,0,0,0,0,0,0)).2.2.2.2.2.2 av).bind fun x2=>
   bif x2 then ((oP k (eY.getD eZ.toNat (0,0,0,0,0,0,0)).2.1 21 [(eY.getD eZ.toNat (0,0,0,0,0,0,0)).1]).bind fun x3=>
    bif zO (r3.length+1) 64 then(rec eY kG (zA (eZ+1)) af ah ak ag aX av aB aC aE aG aH aI cy cz bA aU aY pn kh (r3++[x3]) r4)
    else none)
   else bif zO (r4.length + 1) 56 then (let y0:List zB:=(r4++[(eY.getD eZ.toNat (0,0,0,0,0,0,0))])
    rec eY kG (zA (eZ+1)) af ah ak ag aX av aB aC aE aG aH aI cy cz bA aU aY pn kh r3 y0)
   else none)
  else none)
 else some (af,ah,ak,ag,aX,av,aB,aC,aE,aG,aH,aI,cy,cz,bA,aU,aY,pn,kh,r3,r4)
def ED (k:Nat):Nat→qI1
 |0,_,_,_,_,_,_,_,_,_,_,_,_,_,_,_,_,_,_,_,_,_,_,_,_=>none
 |n+1,eY,kG,eZ,af,ah,ak,ag,aX,av,aB,aC,aE,aG,aH,aI,cy,cz,bA,aU,aY,pn,kh,r3,r4=>EE k (ED k n) eY kG eZ af ah ak ag aX av aB aC aE aG aH aI cy cz bA aU aY pn kh r3 r4
def vl (k:Nat)(cY:Int)(dI:List vJ)(dJ cZ ca ix:Int)(cB:List zK)(dr:EQ)(dt:AC)(du:EQ)(fy:AC)(iy:EQ)(fz:List zB)(po:AC)(iz:Int)(iA:Bool):Option PJ:=
 bif iA then some (ix,cB,dr,dt,du,fy,iy,fz,po,iz,iA,[])
 else(IW k cY dI dJ cZ ca (zA (ix+1))).bind fun x0=>
 bif x0 then ((M7 k (zA (ix+1)) cB dr dt du fy iy fz po iz iA).bind fun x1=>
  some (x1.1,x1.2.1,x1.2.2.1,x1.2.2.2.1,x1.2.2.2.2.1,x1.2.2.2.2.2.1,x1.2.2.2.2.2.2.1,x1.2.2.2.2.2.2.2.1,x1.2.2.2.2.2.2.2.2.1,x1.2.2.2.2.2.2.2.2.2.1,x1.2.2.2.2.2.2.2.2.2.2.1,x1.2.2.2.2.2.2.2.2.2.2.2))
 else(ED k k fz (fz.length:Int) 0 cY dI dJ cZ ca (zA (ix+1)) cB dr dt du fy iy fz po iz iA 0 0 false [] []).bind fun z=>
 (EF k z.1 z.2.1 z.2.2.1 z.2.2.2.1 z.2.2.2.2.1 z.2.2.2.2.2.1).bind fun x4=>
 (td k z.2.2.2.2.2.1 z.2.2.2.2.2.2.1 z.2.2.2.2.2.2.2.1 z.2.2.2.2.2.2.2.2.1 z.2.2.2.2.2.2.2.2.2.1 z.2.2.2.2.2.2.2.2.2.2.1 z.2.2.2.2.2.2.2.2.2.2.2.1 z.2.2.2.2.2.2.2.2.2.2.2.2.2.2.2.2.2.2.2.2 z.2.2.2.2.2.2.2.2.2.2.2.2.2.1 z.2.2.2.2.2.2.2.2.2.2.2.2.2.2.1 z.2.2.2.2.2.2.2.2.2.2.2.2.2.2.2.1 x4).bind fun x5=>
 bif zO (z.2.2.2.2.2.2.2.2.2.2.2.2.2.2.2.2.2.2.2.1.length + x5.2.2.2.2.2.2.2.2.2.2.2.length) 64 then (let y1:List qA:=(z.2.2.2.2.2.2.2.2.2.2.2.2.2.2.2.2.2.2.2.1++x5.2.2.2.2.2.2.2.2.2.2.2)
  some (w5 x5 y1))
 else none
def yQc (k:Nat)(a0:kE)(a1:J7):Option (Int×jF):=
 (vE k a1.2.1 0 (zA (a0.1-1))).bind fun x0=>
 bif !x0 then some (1,(vI a0 []))
 else(vE k a1.2.2.2.1 1 3).bind fun x1=>
 bif !x1 then some (1,(vI a0 []))
 else(EG k (yF a0) a0.2.2.2.2.2.1 (a1.1,a0.2.2.2.2.2.2.2.2.2.2.2.2.2.2.2.2,a1.2)).bind fun x2=>
 bif !(decide (x2=0)) then some (x2,(vI a0 []))
 else(DY k a0.2.2.2.2.2.2.2.2.2.2.2.2.2.1 a1.1).bind fun x3=>
 bif !(decide (x3.2=0)) then some (x3.2,(vI a0 []))
 else(uX k a0.2.2.2.2.2.2.2.2.2.2.2.2.1 (a1.1,a0.2.2.2.2.2.2.2.2.2.2.2.2.2.2.2.2,a1.2)).bind fun x4=>
 bif !(decide (x4.2=0)) then some (x4.2,(vI a0 []))
 else some (0,(iV a0 (x4.1,x3.1,a0.2.2.2.2.2.2.2.2.2.2.2.2.2.2.1,a0.2.2.2.2.2.2.2.2.2.2.2.2.2.2.2.1,a0.2.2.2.2.2.2.2.2.2.2.2.2.2.2.2.2,[])))
def O5 (k:Nat)(a0:kE)(a1:zB):Option (Int×jF):=
 (Ys k (vI a0 []) a1.2.1).bind fun x0=>
 bif !(decide (x0.2=0)) then some (x0.2,(vI a0 []))
 else bif decide (a1.1 = 2) then ((oK k a0.2.2.2.2.2.2.2.2.2.2.2.2.1 a1.2.1).bind fun x1=>
  (N0 k (iV a0 (x1.1,a0.2.2.2.2.2.2.2.2.2.2.2.2.2)) 20 [a1.2.1]).bind fun x2=>
  some (x1.2.2.2.2.2.2.2.2,x2))
 else bif decide (a1.1 = 4) then ((vE k a1.2.2.1 1 3).bind fun x3=>
  bif !x3 then some (1,(vI a0 []))
  else(zu k (yF a0) a0.2.2.2.2.2.1 a1.2.2.1).bind fun x4=>
  bif !(decide (x4=0)) then some (x4,(vI a0 []))
  else(DR k a0.2.2.2.2.2.2.2.2.2.2.2.2.1 a1.2.1 a1.2.2.1).bind fun x5=>
  some (x5.2,(iV a0 (x5.1,(qVo a0 [])))))
 else bif decide (a1.2.2.1 = 0) then ((DW k a0.2.2.2.2.2.2.2.2.2.2.2.2.1 a1.2.1).bind fun x6=>
  some (x6.2,(iV a0 (x6.1,(qVo a0 [])))))
 else bif decide (a1.2.2.1 = 1) then ((DS k a0.2.2.2.2.2.2.2.2.2.2.2.2.1 a1.2.1).bind fun x7=>
  some (x7.2,(iV a0 (x7.1,(qVo a0 [])))))
 else some (1,(vI a0 []))
def O6 (k:Nat)(a0:kE)(a1:zB):Option (Int×jF):=
 (fM k a0.2.2.2.2.2.2.1 a0.2.2.2.2.2.2.2.1 a0.2.2.2.2.2.2.2.2.1 a0.2.2.2.2.2.2.2.2.2.1).bind fun x0=>
 bif decide (a1.1 = 5) then ((YB k (vI a0 []) a1.2.1).bind fun x1=>
  bif !x1 then some (1,(vI a0 []))
  else(vE k a1.2.2.1 (-1) 1152921504606846976).bind fun x2=>
  bif !x2 then some (1,(vI a0 []))
  else bif zC a0.2.2.2.2.2.2.2.2.2.2.2.2.2.2.2.2 x0.2.1.length then (bif zC a1.2.1 (x0.2.1.getD a0.2.2.2.2.2.2.2.2.2.2.2.2.2.2.2.2.toNat []).length then (let y0:EQ:=(x0.2.1.set a0.2.2.2.2.2.2.2.2.2.2.2.2.2.2.2.2.toNat ((x0.2.1.getD a0.2.2.2.2.2.2.2.2.2.2.2.2.2.2.2.2.toNat []).set a1.2.1.toNat a1.2.2.1))
    some (0,(wY a0 (x0.1,y0,x0.2.2.1,x0.2.2.2,(qSs a0 [])))))
   else none)
  else none)
 else bif decide (a1.1 = 6) then ((vE k a1.2.1 (-1) 1152921504606846976).bind fun x3=>
  bif !x3 then some (1,(vI a0 []))
  else bif zC a0.2.2.2.2.2.2.2.2.2.2.2.2.2.2.2.2 x0.2.2.1.length then (let y1:AC:=(x0.2.2.1.set a0.2.2.2.2.2.2.2.2.2.2.2.2.2.2.2.2.toNat a1.2.1)
   some (0,(wY a0 (x0.1,x0.2.1,y1,x0.2.2.2,(qSs a0 [])))))
  else none)
 else(vE k a1.2.1 0 1152921504606846976).bind fun x4=>
 bif !x4 then some (1,(vI a0 []))
 else bif zC a0.2.2.2.2.2.2.2.2.2.2.2.2.2.2.2.2 x0.1.length then (let y2:List zK:=(x0.1.set a0.2.2.2.2.2.2.2.2.2.2.2.2.2.2.2.2.toNat ((x0.1.getD a0.2.2.2.2.2.2.2.2.2.2.2.2.2.2.2.2.toNat (0,0,0)).1,(x0.1.getD a0.2.2.2.2.2.2.2.2.2.2.2.2.2.2.2.2.toNat (0,0,0)).2.1,a1.2.1))
  some (0,(wY a0 (y2,x0.2.1,x0.2.2.1,x0.2.2.2,(qSs a0 [])))))
 else none
def yJi (k:Nat)(a0:kE)(a1 a2:Int):Option (Int×jF):=
 (JS k (vI a0 []) a1).bind fun x0=>
 bif !x0 then some (1,(vI a0 []))
 else(vE k a2 0 1099511627776).bind fun x1=>
 bif !x1 then some (1,(vI a0 []))
 else(EI k a0.2.2.2.2.2.2.2.2.2.2.2.1).bind fun x2=>
 bif zC a0.2.2.2.2.2.2.2.2.2.2.2.2.2.2.2.2 x2.length then ((oN k (x2.getD a0.2.2.2.2.2.2.2.2.2.2.2.2.2.2.2.2.toNat []) a1 a2).bind fun x3=>
  bif zC a0.2.2.2.2.2.2.2.2.2.2.2.2.2.2.2.2 x2.length then (let y0:EQ:=(x2.set a0.2.2.2.2.2.2.2.2.2.2.2.2.2.2.2.2.toNat x3)
   bif zC a0.2.2.2.2.2.2.2.2.2.2.2.2.2.2.2.2 y0.length then ((qi k a0.2.1 a0.2.2.2.2.2.2.2.2.2.2.1 (y0.getD a0.2.2.2.2.2.2.2.2.2.2.2.2.2.2.2.2.toNat [])).bind fun x4=>
    bif zC a0.2.2.2.2.2.2.2.2.2.2.2.2.2.2.2.2 a0.2.2.2.2.2.2.1.length then (bif !x4.2 then some (8,(vI a0 []))
     else bif decide (x4.1>1152921504606846976) then some (8,(vI a0 []))
     else bif decide (x4.1 < (a0.2.2.2.2.2.2.1.getD a0.2.2.2.2.2.2.2.2.2.2.2.2.2.2.2.2.toNat (0, 0, 0)).2.1) then (bif decide ((zA ((a0.2.2.2.2.2.2.1.getD a0.2.2.2.2.2.2.2.2.2.2.2.2.2.2.2.2.toNat (0,0,0)).1+x4.1))<0) then some (9,(vI a0 []))
      else(fM k a0.2.2.2.2.2.2.1 a0.2.2.2.2.2.2.2.1 a0.2.2.2.2.2.2.2.2.1 a0.2.2.2.2.2.2.2.2.2.1).bind fun x5=>
      bif zC a0.2.2.2.2.2.2.2.2.2.2.2.2.2.2.2.2 x5.1.length then (let y1:List zK:=(x5.1.set a0.2.2.2.2.2.2.2.2.2.2.2.2.2.2.2.2.toNat ((x5.1.getD a0.2.2.2.2.2.2.2.2.2.2.2.2.2.2.2.2.toNat (0,0,0)).1,x4.1,(x5.1.getD a0.2.2.2.2.2.2.2.2.2.2.2.2.2.2.2.2.toNat (0,0,0)).2.2))
       some (0,(wY a0 (y1,x5.2.1,x5.2.2.1,x5.2.2.2,a0.2.2.2.2.2.2.2.2.2.2.1,y0,(qZx a0 [])))))
      else none)
     else(fM k a0.2.2.2.2.2.2.1 a0.2.2.2.2.2.2.2.1 a0.2.2.2.2.2.2.2.2.1 a0.2.2.2.2.2.2.2.2.2.1).bind fun x6=>
     bif zC a0.2.2.2.2.2.2.2.2.2.2.2.2.2.2.2.2 x6.1.length then (let y2:List zK:=(x6.1.set a0.2.2.2.2.2.2.2.2.2.2.2.2.2.2.2.2.toNat ((x6.1.getD a0.2.2.2.2.2.2.2.2.2.2.2.2.2.2.2.2.toNat (0,0,0)).1,x4.1,(x6.1.getD a0.2.2.2.2.2.2.2.2.2.2.2.2.2.2.2.2.toNat (0,0,0)).2.2))
      some (0,(wY a0 (y2,x6.2.1,x6.2.2.1,x6.2.2.2,a0.2.2.2.2.2.2.2.2.2.2.1,y0,(qZx a0 [])))))
     else none)
    else none)
   else none)
  else none)
 else none
def EJ (k:Nat)(a0:kE)(a1 a2 a3:Int):Option (Int×jF):=
 (vE k a2 0 (zA (a0.1-1))).bind fun x0=>
 bif !x0 then some (1,(vI a0 []))
 else(vE k a3 1 1099511627776).bind fun x1=>
 bif !x1 then some (1,(vI a0 []))
 else bif zC a2 a0.2.2.2.2.2.2.1.length then ((EK k (a0.2.2.2.2.2.2.1.getD a2.toNat (0,0,0)) a3).bind fun x2=>
  bif decide (a1 = 11) then ((EL k (a0.2.2.2.2.2.2.1.getD a2.toNat (0,0,0)) a3 3).bind fun x3=>
   (EM k (a0.2.2.2.2.2.2.1.getD a2.toNat (0,0,0)) 3).bind fun x4=>
   bif decide (x4<a3) then some (9,(vI a0 []))
   else bif decide ((zA (a0.2.2.2.2.2.2.2.2.2.2.2.2.2.2.1-a3))<0) then some (9,(vI a0 []))
   else bif !(decide (x3.2=0)) then some (x3.2,(vI a0 []))
   else bif decide ((zA (a0.2.2.2.2.2.2.2.2.2.2.2.2.2.2.1-a3))>1152921504606846976) then some (8,(vI a0 []))
   else(fM k a0.2.2.2.2.2.2.1 a0.2.2.2.2.2.2.2.1 a0.2.2.2.2.2.2.2.2.1 a0.2.2.2.2.2.2.2.2.2.1).bind fun x5=>
   bif zC a2 x5.1.length then some (0,(wY a0 ((x5.1.set a2.toNat x3.1),x5.2.1,x5.2.2.1,x5.2.2.2,(FY a0 ((zA (a0.2.2.2.2.2.2.2.2.2.2.2.2.2.2.1-a3)),a0.2.2.2.2.2.2.2.2.2.2.2.2.2.2.2.1,a0.2.2.2.2.2.2.2.2.2.2.2.2.2.2.2.2,[])))))
   else none)
  else bif !(decide (x2.2=0)) then some (x2.2,(vI a0 []))
  else bif decide ((zA (a0.2.2.2.2.2.2.2.2.2.2.2.2.2.2.1+a3))>1152921504606846976) then some (8,(vI a0 []))
  else(fM k a0.2.2.2.2.2.2.1 a0.2.2.2.2.2.2.2.1 a0.2.2.2.2.2.2.2.2.1 a0.2.2.2.2.2.2.2.2.2.1).bind fun x6=>
  bif zC a2 x6.1.length then some (0,(wY a0 ((x6.1.set a2.toNat x2.1),x6.2.1,x6.2.2.1,x6.2.2.2,(FY a0 ((zA (a0.2.2.2.2.2.2.2.2.2.2.2.2.2.2.1+a3)),a0.2.2.2.2.2.2.2.2.2.2.2.2.2.2.2.1,a0.2.2.2.2.2.2.2.2.2.2.2.2.2.2.2.2,[])))))
  else none)
 else none
abbrev qV0:Type:=(kE×AC×(List zK)×EQ×AC×EQ)⊕(Int×kE)
abbrev qP7:Type:=EQ→Int→Int→kE→AC→List zK→EQ→AC→EQ→Option qV0
def EO (k:Nat)(rec:qP7)(fS:EQ)(ik kg:Int)(b0:kE)(r1:AC)(r3:List zK)(m4:EQ)(r5:AC)(m6:EQ):Option qV0:=
 bif decide (kg < ik) then (bif zC kg fS.length then ((qi k b0.2.1 r1 (fS.getD kg.toNat [])).bind fun x4=>
   bif !x4.2 then some (.inr (8,b0))
   else bif decide (x4.1>1152921504606846976) then some (.inr (8,b0))
   else bif zC kg r3.length then (let y0:List zK:=(r3.set kg.toNat ((r3.getD kg.toNat (0,0,0)).1,x4.1,(r3.getD kg.toNat (0,0,0)).2.2))
    rec fS ik (zA (kg+1)) b0 r1 y0 m4 r5 m6)
   else none)
  else none)
 else some (.inl (b0,r1,r3,m4,r5,m6))
def tl (k:Nat):Nat→qP7:=yH (fun _ _ _ _ _ _ _ _ _=>none) (EO k)
def Ni (k:Nat)(a0:kE)(a1 a2:Int):Option (Int×jF):=
 (JS k (vI a0 []) a1).bind fun x0=>
 bif !x0 then some (1,(vI a0 []))
 else(vE k a2 0 1048576).bind fun x1=>
 bif !x1 then some (1,(vI a0 []))
 else(oN k a0.2.2.2.2.2.2.2.2.2.2.1 a1 a2).bind fun x2=>
 (fM k a0.2.2.2.2.2.2.1 a0.2.2.2.2.2.2.2.1 a0.2.2.2.2.2.2.2.2.1 a0.2.2.2.2.2.2.2.2.2.1).bind fun x3=>
 (tl k k a0.2.2.2.2.2.2.2.2.2.2.2.1 (a0.2.2.2.2.2.2.2.2.2.2.2.1.length:Int) 0 a0 x2 x3.1 x3.2.1 x3.2.2.1 x3.2.2.2).bind fun z=>
 match z with
 |.inl z1=>some (0,(wY z1.1 (zy z1 (z1.2.1,(UR z1.1 [])))))
 |.inr z2=>some (wZ z2 [])
def Fy (k:Nat)(a0:kE)(a1:zB):Option (Int×jF):=
 bif decide (a1.1 = 1) then ((yQc k a0 a1.2).bind fun x0=>
  some (x0.1,x0.2))
 else bif decide (a1.1 = 2) then ((O5 k a0 a1).bind fun x1=>
  some (x1.1,x1.2))
 else bif decide (a1.1 = 3) then ((O5 k a0 a1).bind fun x2=>
  some (x2.1,x2.2))
 else bif decide (a1.1 = 4) then ((O5 k a0 a1).bind fun x3=>
  some (x3.1,x3.2))
 else bif decide (a1.1 = 5) then ((O6 k a0 a1).bind fun x4=>
  some (x4.1,x4.2))
 else bif decide (a1.1 = 6) then ((O6 k a0 a1).bind fun x5=>
  some (x5.1,x5.2))
 else bif decide (a1.1 = 7) then ((O6 k a0 a1).bind fun x6=>
  some (x6.1,x6.2))
 else bif decide (a1.1 = 8) then ((yJi k a0 a1.2.1 a1.2.2.1).bind fun x7=>
  some (x7.1,x7.2))
 else bif decide (a1.1 = 10) then ((EJ k a0 a1.1 a1.2.1 a1.2.2.1).bind fun x8=>
  some (x8.1,x8.2))
 else bif decide (a1.1 = 11) then ((EJ k a0 a1.1 a1.2.1 a1.2.2.1).bind fun x9=>
  some (x9.1,x9.2))
 else bif decide (a1.1 = 12) then ((Ni k a0 a1.2.1 a1.2.2.1).bind fun dC=>
  some (dC.1,dC.2))
 else some (0,(vI a0 []))
def ky (k:Nat)(a0:yO)(a1:yT)(a2:qA):Option (yT×(List qA)×Int):=
 (tj k a0 a1 a2).bind fun x0=>
 bif !(decide (x0=0)) then some (a1,[],x0)
 else bif decide (a2.2.1 = 9) then ((Jc k a1 a2.1).bind fun x1=>
  some (a1,x1,0))
 else bif !(decide (a2.1 = (-1))) then ((N0 k (wS a0 (vU a1 a2.1)) 15 []).bind fun x2=>
  (NW k x2 a2.2).bind fun x3=>
  bif !(decide (x3.1=0)) then some (a1,[],x3.1)
  else bif decide (a2.2.1 = 14) then ((vl k a0.1 a0.2.1 a0.2.2.1 a0.2.2.2.1 a0.2.2.2.2 a1.1 a1.2.1 a1.2.2.1 a1.2.2.2.1 a1.2.2.2.2.1 a1.2.2.2.2.2.1 a1.2.2.2.2.2.2.1 a1.2.2.2.2.2.2.2.1 a1.2.2.2.2.2.2.2.2.1 a1.2.2.2.2.2.2.2.2.2.1 a1.2.2.2.2.2.2.2.2.2.2).bind fun x4=>
   some ((qW x4),x4.2.2.2.2.2.2.2.2.2.2.2,0))
  else(td k x3.2.2.2.2.2.2.1 x3.2.2.2.2.2.2.2.1 x3.2.2.2.2.2.2.2.2.1 x3.2.2.2.2.2.2.2.2.2.1 x3.2.2.2.2.2.2.2.2.2.2.1 x3.2.2.2.2.2.2.2.2.2.2.2.1 x3.2.2.2.2.2.2.2.2.2.2.2.2.1 x3.2.2.2.2.2.2.2.2.2.2.2.2.2.1 x3.2.2.2.2.2.2.2.2.2.2.2.2.2.2.1 x3.2.2.2.2.2.2.2.2.2.2.2.2.2.2.2.1 x3.2.2.2.2.2.2.2.2.2.2.2.2.2.2.2.2.1 (decide (a2.2.1=13))).bind fun x5=>
  bif zO (x3.2.2.2.2.2.2.2.2.2.2.2.2.2.2.2.2.2.2.length + x5.2.2.2.2.2.2.2.2.2.2.2.length) 64 then (let y0:List qA:=(x3.2.2.2.2.2.2.2.2.2.2.2.2.2.2.2.2.2.2++x5.2.2.2.2.2.2.2.2.2.2.2)
   bif decide (a2.2.1 = 1) then ((nD k x5.2.2.2.2.2.2.2.1 a2.2.2.1).bind fun x6=>
    bif decide (x6 ≥ 0) then ((vn k (NY x3 y0) 19 [a2.2.2.1]).bind fun x7=>
     some ((qW x5),x7.2.2.2.2.2.2.2.2.2.2.2.2.2.2.2.2.2,0))
    else some ((qW x5),y0,0))
   else some ((qW x5),y0,0))
  else none)
 else(Fy k (wS a0 (vU a1 a2.1)) a2.2).bind fun x8=>
 bif !(decide (x8.1=0)) then some (a1,[],x8.1)
 else bif decide (a2.2.1 = 14) then ((vl k a0.1 a0.2.1 a0.2.2.1 a0.2.2.2.1 a0.2.2.2.2 a1.1 a1.2.1 a1.2.2.1 a1.2.2.2.1 a1.2.2.2.2.1 a1.2.2.2.2.2.1 a1.2.2.2.2.2.2.1 a1.2.2.2.2.2.2.2.1 a1.2.2.2.2.2.2.2.2.1 a1.2.2.2.2.2.2.2.2.2.1 a1.2.2.2.2.2.2.2.2.2.2).bind fun x9=>
  some ((qW x9),x9.2.2.2.2.2.2.2.2.2.2.2,0))
 else(td k x8.2.2.2.2.2.2.1 x8.2.2.2.2.2.2.2.1 x8.2.2.2.2.2.2.2.2.1 x8.2.2.2.2.2.2.2.2.2.1 x8.2.2.2.2.2.2.2.2.2.2.1 x8.2.2.2.2.2.2.2.2.2.2.2.1 x8.2.2.2.2.2.2.2.2.2.2.2.2.1 x8.2.2.2.2.2.2.2.2.2.2.2.2.2.1 x8.2.2.2.2.2.2.2.2.2.2.2.2.2.2.1 x8.2.2.2.2.2.2.2.2.2.2.2.2.2.2.2.1 x8.2.2.2.2.2.2.2.2.2.2.2.2.2.2.2.2.1 (decide (a2.2.1=13))).bind fun dC=>
 bif zO (x8.2.2.2.2.2.2.2.2.2.2.2.2.2.2.2.2.2.2.length + dC.2.2.2.2.2.2.2.2.2.2.2.length) 64 then (let y1:List qA:=(x8.2.2.2.2.2.2.2.2.2.2.2.2.2.2.2.2.2.2++dC.2.2.2.2.2.2.2.2.2.2.2)
  bif decide (a2.2.1 = 1) then ((nD k dC.2.2.2.2.2.2.2.1 a2.2.2.1).bind fun gg=>
   bif decide (gg ≥ 0) then ((vn k (NY x8 y1) 19 [a2.2.2.1]).bind fun mP=>
    some ((qW dC),mP.2.2.2.2.2.2.2.2.2.2.2.2.2.2.2.2.2,0))
   else some ((qW dC),y1,0))
  else some ((qW dC),y1,0))
 else none
def uO (k:Nat)(bb:fR)(dv:vM)(a1:AC):Option (Int×fR×vM):=
 (LL k dv (zA (1-bb.1)) (zA (bb.2.1+1)) a1).bind fun x0=>
 bif decide (x0.1=0) then some (x0.1,((zA (1-bb.1)),(zA (bb.2.1+1)),0,false),x0.2)
 else some (x0.1,bb,x0.2)
def yW6 (k:Nat)(a0:Int):Option Bool:=
 (vE k a0 0 1048576).bind fun x0=>
 some (!x0)
abbrev qYi:Type:=AC→Int→Int→Option (Unit⊕Int)
def yOr (k:Nat)(rec:qYi)(s0:AC)(s7 s8:Int):Option (Unit⊕Int):=
 bif decide (s8 < s7) then (bif zC s8 s0.length then ((yW6 k (s0.getD s8.toNat 0)).bind fun x0=>
   bif x0 then some (.inr s8)
   else rec s0 s7 (zA (s8+1)))
  else none)
 else some (.inl ())
def Pb (k:Nat):Nat→qYi
 |0,_,_,_=>none
 |n+1,s0,s7,s8=>yOr k (Pb k n) s0 s7 s8
def yUp (k:Nat)(a0:AC):Option Int:=
 (Pb k k a0 (a0.length:Int) 0).bind fun z=>
 match z with
 |.inl z1=>some (-1)
 |.inr z2=>some z2
def yRe (k:Nat)(a0:AC):Option Bool:=
 (yUp k a0).bind fun x0=>
 some (decide (x0≥0))
def yQ7 (k:Nat)(a0:Int):Option Bool:=
 some (decide (a0>1099511627776))
abbrev qP0:Type:=AC→Int→Int→Option (Unit⊕Int)
def yX7 (k:Nat)(rec:qP0)(s0:AC)(s7 s8:Int):Option (Unit⊕Int):=
 bif decide (s8 < s7) then (bif zC s8 s0.length then ((yQ7 k (s0.getD s8.toNat 0)).bind fun x0=>
   bif x0 then some (.inr s8)
   else rec s0 s7 (zA (s8+1)))
  else none)
 else some (.inl ())
def Pc (k:Nat):Nat→qP0
 |0,_,_,_=>none
 |n+1,s0,s7,s8=>yX7 k (Pc k n) s0 s7 s8
def yDo (k:Nat)(a0:AC):Option Int:=
 (Pc k k a0 (a0.length:Int) 0).bind fun z=>
 match z with
 |.inl z1=>some (-1)
 |.inr z2=>some z2
def vA2 (k:Nat)(a0:AC):Option Bool:=
 (yDo k a0).bind fun x0=>
 some (decide (x0≥0))
abbrev qNz:Type:=EQ→Int→Int→yO→yT→Option (Unit⊕Bool)
def yWe (k:Nat)(rec:qNz)(kG:EQ)(eZ lu:Int)(b0:yO)(b1:yT):Option (Unit⊕Bool):=
 bif decide (lu < eZ) then (bif zC lu kG.length then ((qi k b0.2.1 b1.2.2.2.2.2.1 (kG.getD lu.toNat [])).bind fun x1=>
   bif !x1.2 then some (.inr false)
   else bif decide (x1.1>1152921504606846976) then some (.inr false)
   else bif zC lu b1.2.1.length then (bif !(decide (x1.1=(b1.2.1.getD lu.toNat (0,0,0)).2.1)) then some (.inr false)
    else(vA2 k (kG.getD lu.toNat [])).bind fun x2=>
    bif x2 then some (.inr false)
    else rec kG eZ (zA (lu+1)) b0 b1)
   else none)
  else none)
 else some (.inl ())
def qIj (k:Nat):Nat→qNz:=yH (fun _ _ _ _ _=>none) (yWe k)
def yLs (k:Nat)(a0:yO)(a1:yT):Option Bool:=
 bif !(decide ((a1.2.2.2.2.2.1.length:Int)=(a0.2.1.length:Int))) then some false
 else bif !(decide ((a1.2.2.2.2.2.2.1.length:Int)=a0.1)) then some false
 else(yRe k a1.2.2.2.2.2.1).bind fun x0=>
 bif x0 then some false
 else(qIj k k a1.2.2.2.2.2.2.1 (a1.2.2.2.2.2.2.1.length:Int) 0 a0 a1).bind fun z=>
 match z with
 |.inl z1=>some true
 |.inr z2=>some z2
abbrev qIm:Type:=List zB→Int→Option (Unit⊕Bool)
def yHw (k:Nat)(rec:qIm)(s0:List zB)(s5:Int):Option (Unit⊕Bool):=
 bif decide (s5 > 0) then (bif zC s5 s0.length then (bif zC (zA (s5 - 1)) s0.length then ((DM k (s0.getD s5.toNat (0,0,0,0,0,0,0)).1 (s0.getD s5.toNat (0,0,0,0,0,0,0)).2.1 (s0.getD s5.toNat (0,0,0,0,0,0,0)).2.2.1 (s0.getD s5.toNat (0,0,0,0,0,0,0)).2.2.2.1 (s0.getD s5.toNat (0,0,0,0,0,0,0)).2.2.2.2.1 (s0.getD s5.toNat (0,0,0,0,0,0,0)).2.2.2.2.2.1 (s0.getD s5.toNat (0,0,0,0,0,0,0)).2.2.2.2.2.2 (s0.getD (zA (s5-1)).toNat (0,0,0,0,0,0,0)).1 (s0.getD (zA (s5-1)).toNat (0,0,0,0,0,0,0)).2.1 (s0.getD (zA (s5-1)).toNat (0,0,0,0,0,0,0)).2.2.1 (s0.getD (zA (s5-1)).toNat (0,0,0,0,0,0,0)).2.2.2.1 (s0.getD (zA (s5-1)).toNat (0,0,0,0,0,0,0)).2.2.2.2.1 (s0.getD (zA (s5-1)).toNat (0,0,0,0,0,0,0)).2.2.2.2.2.1 (s0.getD (zA (s5-1)).toNat (0,0,0,0,0,0,0)).2.2.2.2.2.2).bind fun x0=>
    bif decide (x0<0) then some (.inr false)
    else rec s0 (zA (s5-1)))
   else none)
  else none)
 else some (.inl ())
def qPv (k:Nat):Nat→qIm:=yH (fun _ _=>none) (yHw k)
def yGl (k:Nat)(a0:List zB):Option Bool:=
 (qPv k k a0 (zA ((a0.length:Int)-1))).bind fun z=>
 match z with
 |.inl z1=>some true
 |.inr z2=>some z2
abbrev qYx:Type:=(List zB)⊕Bool
abbrev qQf:Type:=List zB→List zB→Int→Int→Option qYx
def vA5 (k:Nat)(rec:qQf)(s0 s5:List zB)(s6 s7:Int):Option qYx:=
 bif decide (s7 < s6) then (bif zC s7 s5.length then ((nD k s0 (s5.getD s7.toNat (0,0,0,0,0,0,0)).1).bind fun x0=>
   bif !(decide (x0=s7)) then some (.inr false)
   else rec s0 s5 s6 (zA (s7+1)))
  else none)
 else some (.inl s0)
def Pe (k:Nat):Nat→qQf
 |0,_,_,_,_=>none
 |n+1,s0,s5,s6,s7=>vA5 k (Pe k n) s0 s5 s6 s7
def yMk (k:Nat)(a0:List zB):Option Bool:=
 (Pe k k a0 a0 (a0.length:Int) 0).bind fun z=>
 match z with
 | .inl z1 => bif decide ((z1.length : Int) ≤ 40) then ((yGl k z1).bind fun x1=>
   some x1)
  else some false
 |.inr z2=>some z2
abbrev qMz:Type:=AC→Int→AC→Int→Int→Option (AC⊕Bool)
def yLl (k:Nat)(rec:qMz)(s0:AC)(s3:Int)(s6:AC)(s7 s8:Int):Option (AC⊕Bool):=
 bif decide (s8 < s7) then (bif zC s8 s6.length then (bif decide ((s6.getD s8.toNat 0)≤s3) then some (.inr false)
   else rec s0 (s6.getD s8.toNat 0) s6 s7 (zA (s8+1)))
  else none)
 else some (.inl s0)
def qHy (k:Nat):Nat→qMz:=yH (fun _ _ _ _ _=>none) (yLl k)
def yNd (k:Nat)(a0:AC):Option Bool:=
 (qHy k k a0 0 a0 (a0.length:Int) 0).bind fun z=>
 match z with
 |.inl z1=>some (decide ((z1.length:Int)≤200))
 |.inr z2=>some z2
def yDi (k:Nat)(a0:AC)(a1:Int):Option Bool:=
 (DX k a0 a1).bind fun x0=>
 some x0.2
def qZd (k:Nat)(a0:zB)(a1:yT):Option Bool:=
 (CR k a1.2.1 a1.2.2.1 a1.2.2.2.1 a1.2.2.2.2.1 a0.1 a0.2.1 a0.2.2.1 a0.2.2.2.1 a0.2.2.2.2.1 a0.2.2.2.2.2.1 a0.2.2.2.2.2.2).bind fun x0=>
 bif !x0 then some true
 else bif decide (a0.2.2.2.2.2.1<0) then some true
 else(vE k a0.2.2.2.2.2.2 a0.2.2.2.2.2.1 1048576).bind fun x1=>
 bif !x1 then some true
 else(yDi k a1.2.2.2.2.2.2.2.2.1 a0.1).bind fun x2=>
 some (!x2)
abbrev qOy:Type:=List zB→Int→Int→Int→List zK→EQ→AC→EQ→AC→EQ→List zB→AC→Int→Bool→Option (Unit⊕Int)
def yX4 (k:Nat)(rec:qOy)(s0:List zB)(s7 s8 af:Int)(ah:List zK)(ak:EQ)(ag:AC)(aX:EQ)(bh:AC)(bj:EQ)(dK:List zB)(dL:AC)(dM:Int)(bQ:Bool):Option (Unit⊕Int):=
 bif decide (s8 < s7) then (bif zC s8 s0.length then ((qZd k (s0.getD s8.toNat (0,0,0,0,0,0,0)) (af,ah,ak,ag,aX,bh,bj,dK,dL,dM,bQ)).bind fun x0=>
   bif x0 then some (.inr s8)
   else rec s0 s7 (zA (s8+1)) af ah ak ag aX bh bj dK dL dM bQ)
  else none)
 else some (.inl ())
def Pf (k:Nat):Nat→qOy
 |0,_,_,_,_,_,_,_,_,_,_,_,_,_,_=>none
 |n+1,s0,s7,s8,af,ah,ak,ag,aX,bh,bj,dK,dL,dM,bQ=>yX4 k (Pf k n) s0 s7 s8 af ah ak ag aX bh bj dK dL dM bQ
def yP4 (k:Nat)(a0:List zB)(fB:Int)(bK:List zK)(cC:EQ)(cD:AC)(cE:EQ)(dw:AC)(eg:EQ)(fD:List zB)(iB:AC)(ek:Int)(fE:Bool):Option Int:=
 (Pf k k a0 (a0.length:Int) 0 fB bK cC cD cE dw eg fD iB ek fE).bind fun z=>
 match z with
 |.inl z1=>some (-1)
 |.inr z2=>some z2
def yLp (k:Nat)(a0:List zB)(fB:Int)(bK:List zK)(cC:EQ)(cD:AC)(cE:EQ)(dw:AC)(eg:EQ)(fD:List zB)(iB:AC)(ek:Int)(fE:Bool):Option Bool:=
 (yP4 k a0 fB bK cC cD cE dw eg fD iB ek fE).bind fun x0=>
 some (decide (x0≥0))
def yP5 (k:Nat)(a0:yT):Option Bool:=
 (yMk k a0.2.2.2.2.2.2.2.1).bind fun x0=>
 bif x0 then ((yNd k a0.2.2.2.2.2.2.2.2.1).bind fun x1=>
  bif x1 then ((yLp k a0.2.2.2.2.2.2.2.1 a0.1 a0.2.1 a0.2.2.1 a0.2.2.2.1 a0.2.2.2.2.1 a0.2.2.2.2.2.1 a0.2.2.2.2.2.2.1 a0.2.2.2.2.2.2.2.1 a0.2.2.2.2.2.2.2.2.1 a0.2.2.2.2.2.2.2.2.2.1 a0.2.2.2.2.2.2.2.2.2.2).bind fun x2=>
   some (!x2))
  else some false)
 else some false
abbrev qP5:Type:=yO×yT×AC
abbrev qLv:Type:=List zK→Int→Int→yO→yT→AC→Option qP5
def yF1 (k:Nat)(rec:qLv)(mT:List zK)(s45 PR:Int)(b0:yO)(b1:yT)(r2:AC):Option qP5:=
 bif decide (PR < s45) then (bif zC PR mT.length then (bif zO (r2.length+1) 8 then(rec mT s45 (zA (PR+1)) b0 b1 (r2++[(mT.getD PR.toNat (0,0,0)).1]))
   else none)
  else none)
 else some (b0,b1,r2)
def qPq (k:Nat):Nat→qLv:=yH (fun _ _ _ _ _ _=>none) (yF1 k)
def Pg (k:Nat)(a0:yO)(a1:yT):Option Bool:=
 (vE k a1.1 0 a0.2.2.2.1).bind fun x0=>
 bif !x0 then some false
 else(HM k a1.2.1 a1.2.2.1 a1.2.2.2.1 a1.2.2.2.2.1).bind fun x1=>
 bif !x1 then some false
 else bif !(decide ((a1.2.1.length:Int)=a0.1)) then some false
 else(yLs k a0 a1).bind fun x2=>
 bif !x2 then some false
 else(yP5 k a1).bind fun x3=>
 bif !x3 then some false
 else(qPq k k a1.2.1 (a1.2.1.length:Int) 0 a0 a1 []).bind fun z=>
 (Iz k z.2.2).bind fun x4=>
 bif !x4.2 then some false
 else bif !(decide (x4.1=z.2.1.2.2.2.2.2.2.2.2.2.1)) then some false
 else(vE k x4.1 0 1152921504606846976).bind fun x5=>
 bif !x5 then some false
 else(IW k z.1.1 z.1.2.1 z.1.2.2.1 z.1.2.2.2.1 z.1.2.2.2.2 z.2.1.1).bind fun x6=>
 bif nR z.2.1.2.2.2.2.2.2.2.2.2.2 x6 then (bif !z.2.1.2.2.2.2.2.2.2.2.2.2 then some true
  else some (decide ((z.2.1.2.2.2.2.2.2.2.1.length:Int)=0)))
 else some false
abbrev qKy:Type:=Int×Bool×xc×AC×AC×yO×fR×yT
abbrev qOv:Type:=Int→Bool→EQ→Int→Int→xc→AC→AC→yO→fR→yT→Option qKy
def yO0 (k:Nat)(rec:qOv)(s2:Int)(bR:Bool)(PS:EQ)(A4 pq:Int)(b0:xc)(r1 r2:AC)(b3:yO)(b4:fR)(b5:yT):Option qKy:=
 bif decide (pq < A4) then (bif zC pq PS.length then ((XW k (PS.getD pq.toNat [])).bind fun x8=>
   bif decide (x8.2 = 0) then ((ky k b3 b5 x8.1).bind fun x9=>
    rec s2 bR PS A4 (zA (pq+1)) b0 r1 r2 b3 b4 x9.1)
   else rec s2 bR PS A4 (zA (pq+1)) b0 r1 r2 b3 b4 b5)
  else none)
 else some (s2,bR,b0,r1,r2,b3,b4,b5)
def JY (k:Nat):Nat→qOv:=yH (fun _ _ _ _ _ _ _ _ _ _ _=>none) (yO0 k)
def qw (k:Nat)(a0:yO)(a1:vM)(a2:Int):Option ((Int×vM×nQ×fR)⊕(Int×vM)):=
 (AO k a0).bind fun x0=>
 bif !x0 then some (.inr (1,a1))
 else bif decide (a2<1) then some (.inr (1,a1))
 else bif decide (a2>1000) then some (.inr (1,a1))
 else(W7 k a1).bind fun x1=>
 (oS k a0).bind fun x2=>
 (ku k x2).bind fun x3=>
 (yCe k a1 x3).bind fun x4=>
 match x4 with
 |.inl x5=>bif !(decide (x5.2.2.1=0)) then some (.inr (x5.2.2.1,x5.2.2.2.1))
  else(OB k x5.1).bind fun x6=>
  bif !x6.2 then ((oS k a0).bind fun x7=>
   (JY k k a2 x1.2.2.2.2 x5.2.1 (x5.2.1.length:Int) 0 (x5.2.2.2.1.1,x5.2.2.2.1.2.2.1,x5.2.2.2.1.2.2.2.2) x5.2.2.2.1.2.1 x5.2.2.2.1.2.2.2.1 a0 x5.2.2.2.2 x7).bind fun z=>
   bif z.2.1 then ((ku k z.2.2.2.2.2.2.2).bind fun dC=>
    (uO k z.2.2.2.2.2.2.1 (z.2.2.1.1,z.2.2.2.1,z.2.2.1.2.1,z.2.2.2.2.1,z.2.2.1.2.2) dC).bind fun gg=>
    bif !(decide (gg.1=0)) then some (.inr (gg.1,gg.2.2))
    else some (.inl (0,gg.2.2,(wS z.2.2.2.2.2.1 (F0 z (z.1,false))),gg.2.1)))
   else some (.inl (0,(z.2.2.1.1,z.2.2.2.1,z.2.2.1.2.1,z.2.2.2.2.1,z.2.2.1.2.2),(wS z.2.2.2.2.2.1 (F0 z (z.1,false))),z.2.2.2.2.2.2.1)))
  else(Pg k a0 x6.1).bind fun mP=>
  bif !mP then ((oS k a0).bind fun mQ=>
   (JY k k a2 x1.2.2.2.2 x5.2.1 (x5.2.1.length:Int) 0 (x5.2.2.2.1.1,x5.2.2.2.1.2.2.1,x5.2.2.2.1.2.2.2.2) x5.2.2.2.1.2.1 x5.2.2.2.1.2.2.2.1 a0 x5.2.2.2.2 mQ).bind fun z1=>
   bif z1.2.1 then ((ku k z1.2.2.2.2.2.2.2).bind fun ph=>
    (uO k z1.2.2.2.2.2.2.1 (z1.2.2.1.1,z1.2.2.2.1,z1.2.2.1.2.1,z1.2.2.2.2.1,z1.2.2.1.2.2) ph).bind fun bO=>
    bif !(decide (bO.1=0)) then some (.inr (bO.1,bO.2.2))
    else some (.inl (0,bO.2.2,(wS z1.2.2.2.2.2.1 (F0 z1 (z1.1,false))),bO.2.1)))
   else some (.inl (0,(z1.2.2.1.1,z1.2.2.2.1,z1.2.2.1.2.1,z1.2.2.2.2.1,z1.2.2.1.2.2),(wS z1.2.2.2.2.2.1 (F0 z1 (z1.1,false))),z1.2.2.2.2.2.2.1)))
  else(JY k k a2 x1.2.2.2.2 x5.2.1 (x5.2.1.length:Int) 0 (x5.2.2.2.1.1,x5.2.2.2.1.2.2.1,x5.2.2.2.1.2.2.2.2) x5.2.2.2.1.2.1 x5.2.2.2.1.2.2.2.1 a0 x5.2.2.2.2 x6.1).bind fun z2=>
  bif z2.2.1 then ((ku k z2.2.2.2.2.2.2.2).bind fun w9=>
   (uO k z2.2.2.2.2.2.2.1 (z2.2.2.1.1,z2.2.2.2.1,z2.2.2.1.2.1,z2.2.2.2.2.1,z2.2.2.1.2.2) w9).bind fun gj=>
   bif !(decide (gj.1=0)) then some (.inr (gj.1,gj.2.2))
   else some (.inl (0,gj.2.2,(wS z2.2.2.2.2.2.1 (F0 z2 (z2.1,false))),gj.2.1)))
  else some (.inl (0,(z2.2.2.1.1,z2.2.2.2.1,z2.2.2.1.2.1,z2.2.2.2.2.1,z2.2.2.1.2.2),(wS z2.2.2.2.2.2.1 (F0 z2 (z2.1,false))),z2.2.2.2.2.2.2.1))
 |.inr xa=>bif !(decide (xa.2.2.1=0)) then some (.inr (xa.2.2.1,xa.2.2.2))
  else(OB k xa.1).bind fun FZ=>
  bif !FZ.2 then ((oS k a0).bind fun iW=>
   none)
  else(Pg k a0 FZ.1).bind fun tF=>
  bif !tF then ((oS k a0).bind fun PM=>
   none)
  else none
def zx (k:Nat)(bb:nQ)(dv:fR)(ly:vM):Option (Bool×nQ×fR×vM):=
 some (bb.2.2.2.2.2.2.2.2.2.2.2.2.2.2.2.2.2,bb,dv,ly)
def JZ (k:Nat)(a0 a1:Int):Option (List qA):=
 some [(a0,16,a1,0,0,0,0,0)]
def UJ (k:Nat)(a0:zB):Option AC:=
 (qt k a0).bind fun x0=>
 bif !x0 then some []
 else(sE k a0.1).bind fun x1=>
 bif (decide (0 ≤ x1)) && (decide (x1 ≤ 6)) then ((uM k (qZ [a0.2.1,a0.2.2.1,a0.2.2.2.1,a0.2.2.2.2.1,a0.2.2.2.2.2.1,a0.2.2.2.2.2.2] 0 (x1.toNat-0))).bind fun x2=>
  bif zO (1+x2.length) 1 then some ([(IntKind.wrap .u8 (a0.1))]++x2)
  else none)
 else none
def Nd (k:Nat)(a0:qA):Option AC:=
 (UJ k a0.2).bind fun x0=>
 bif decide ((x0.length:Int)=0) then some []
 else(uM k [a0.1]).bind fun x1=>
 bif zO (x1.length+x0.length) 1 then some (x1++x0)
 else none
def yr (k:Nat)(bb:fR)(dv:vM)(a1:AC):Option (Int×fR×vM):=
 (Hy k a1).bind fun x0=>
 bif !x0.2 then some (10,bb,dv)
 else bif bb.2.2.2 then some (10,bb,dv)
 else(sG k dv bb.1 x0.1).bind fun x1=>
 bif decide (x1.1=3) then some (10,bb,x1.2)
 else bif decide (x1.1 = 0) then ((Hv k x1.2).bind fun x2=>
  bif decide (x2.1=0) then some (x2.1,(bb.1,bb.2.1,(zA (bb.2.2.1+1)),bb.2.2.2),x2.2)
  else some (x2.1,bb,x2.2))
 else bif decide (x1.1=0) then some (x1.1,(bb.1,bb.2.1,(zA (bb.2.2.1+1)),bb.2.2.2),x1.2)
 else some (x1.1,bb,x1.2)
def Nf (k:Nat)(bb:nQ)(dv:fR)(ly:vM)(a1:AC):Option (Int×nQ×fR×vM):=
 (yr k dv ly a1).bind fun x0=>
 bif !(decide (x0.1=10)) then some (x0.1,bb,x0.2.1,x0.2.2)
 else(ku k (qu bb)).bind fun x1=>
 (uO k x0.2.1 x0.2.2 x1).bind fun x2=>
 bif !(decide (x2.1=0)) then some (x2.1,bb,x2.2.1,x2.2.2)
 else(yr k x2.2.1 x2.2.2 a1).bind fun x3=>
 some (x3.1,bb,x3.2.1,x3.2.2)
def Ng (k:Nat)(bb:fR)(dv:vM):Option (Int×fR×vM):=
 some (bb.2.2.1,bb,dv)
def I3 (k:Nat)(bb:nQ)(dv:fR)(ly:vM)(a1:Int)(a2:AC):Option ((List qA)×nQ×fR×vM):=
 (zx k bb dv ly).bind fun x0=>
 bif x0.1 then some ([],x0.2.1,x0.2.2.1,x0.2.2.2)
 else(nA k a2).bind fun x1=>
 bif !(decide (x1.2 = 0)) then ((JZ k a1 x1.2).bind fun x2=>
  some (x2,x0.2.1,x0.2.2.1,x0.2.2.2))
 else(ky k (yF x0.2.1) (qu x0.2.1) (a1,x1.1)).bind fun x3=>
 bif !(decide (x3.2.2 = 0)) then ((JZ k a1 x3.2.2).bind fun x4=>
  some (x4,x0.2.1,x0.2.2.1,x0.2.2.2))
 else bif decide (x1.1.1=9) then some (x3.2.1,x0.2.1,x0.2.2.1,x0.2.2.2)
 else(Nd k (a1,x1.1)).bind fun x5=>
 (Nf k x0.2.1 x0.2.2.1 x0.2.2.2 x5).bind fun x6=>
 bif decide (x6.1 = 0) then ((Ng k x6.2.2.1 x6.2.2.2).bind fun x7=>
  bif decide (x7.1 ≥ x6.2.1.2.2.2.2.2.2.2.2.2.2.2.2.2.2.2.2.1) then ((ku k x3.1).bind fun x8=>
   (uO k x7.2.1 x7.2.2 x8).bind fun x9=>
   bif decide (x9.1=11) then some (x3.2.1,(oW x6.2.1 (vU x3.1 (x6.2.1.2.2.2.2.2.2.2.2.2.2.2.2.2.2.2.2.1,true))),x9.2.1,x9.2.2)
   else some (x3.2.1,(oW x6.2.1 (vU x3.1 x6.2.1.2.2.2.2.2.2.2.2.2.2.2.2.2.2.2.2)),x9.2.1,x9.2.2))
  else some (x3.2.1,(oW x6.2.1 (vU x3.1 x6.2.1.2.2.2.2.2.2.2.2.2.2.2.2.2.2.2.2)),x7.2.1,x7.2.2))
 else bif decide (x6.1 = 10) then ((JZ k a1 10).bind fun dC=>
  some (dC,x6.2.1,x6.2.2.1,x6.2.2.2))
 else some ([],(yC x6.2.1 true),x6.2.2.1,x6.2.2.2)
def Nn (k:Nat)(a0:qA):Option Bool:=
 some (decide (a0.2.1=16))
abbrev qX6:Type:=List qA→Int→Int→Option (Unit⊕Int)
def vt (k:Nat)(rec:qX6)(s0:List qA)(s7 s8:Int):Option (Unit⊕Int):=
 bif decide (s8 < s7) then (bif zC s8 s0.length then ((Nn k (s0.getD s8.toNat (0,0,0,0,0,0,0,0))).bind fun x0=>
   bif x0 then some (.inr s8)
   else rec s0 s7 (zA (s8+1)))
  else none)
 else some (.inl ())
def I9 (k:Nat):Nat→qX6:=yH (fun _ _ _=>none) (vt k)
def U5 (k:Nat)(a0:List qA):Option Int:=
 (I9 k k a0 (a0.length:Int) 0).bind fun z=>
 match z with
 |.inl z1=>some (-1)
 |.inr z2=>some z2
def U4 (k:Nat)(a0:List qA):Option Bool:=
 (U5 k a0).bind fun x0=>
 some (decide (x0≥0))
def EP (k:Nat)(a0:List qA):Option Bool:=
 (U4 k a0).bind fun x0=>
 some x0
def qKl (k:Nat)(a0:vM)(a1:vJ):Option vM:=
 some (oW a0 (a1.1,a1.2,true,a0.2.2.2.2.2.2.2.2))
def qS6 (k:Nat)(a0:vM):Option vM:=
 bif (decide (0 ≤ a0.2.2.1)) && (decide (a0.2.2.1 ≤ (a0.2.1.length : Int))) then (bif (decide (0≤a0.2.2.2.2.1))&&(decide (a0.2.2.2.2.1≤(a0.2.2.2.1.length:Int))) then some (a0.1,(List.take (a0.2.2.1.toNat-0) a0.2.1),a0.2.2.1,(List.take (a0.2.2.2.2.1.toNat-0) a0.2.2.2.1),a0.2.2.2.2.1,a0.2.2.2.2.2.1,a0.2.2.2.2.2.2.1,false,false,0)
  else none)
 else none
def J0 (k:Nat):Option Bool:=
 some true
def yEp (k:Nat)(a1:Int)(a2:AC):Option (List qA):=
 (J0 k).bind fun x0=>
 bif x0 then some []
 else(nA k a2).bind fun x1=>
 bif !(decide (x1.2 = 0)) then ((JZ k a1 x1.2).bind fun x2=>
  some x2)
 else none
def qQ6 (k:Nat):Option yT:=
 some (0,[],[],[],[],[],[],[],[],0,false)
def qTn (k:Nat)(bb:nQ)(dv:fR)(ly:vM):Option (yT×nQ×fR×vM):=
 some ((qu bb),bb,dv,ly)
def yEe (k:Nat)(a1:Int):Option AC:=
 some []
def Pn (k:Nat)(a1:Int):Option (Int×AC×EQ):=
 (yEe k a1).bind fun x0=>
 (WZ k x0).bind fun x1=>
 bif decide ((x1.1.length:Int)=0) then some (0,[],[])
 else bif zC 0 x1.1.length then (bif decide (((x1.1.getD 0 []).length:Int)<8) then some (0,[],[])
  else bif zC 0 x1.1.length then (bif decide (8 ≤ ((x1.1.getD 0 []).length : Int)) then ((sD k (List.take 8 (x1.1.getD 0 []))).bind fun x2=>
    bif zC 0 x2.1.length then (bif decide ((x2.1.getD 0 0)<1) then some (0,[],[])
     else bif zC 0 x2.1.length then (bif decide ((x2.1.getD 0 0)>4611686018427387904) then some (0,[],[])
      else bif zC 0 x2.1.length then (bif zC 0 x1.1.length then (bif decide (8 ≤ ((x1.1.getD 0 []).length : Int)) then (bif decide (1≤(x1.1.length:Int)) then some ((x2.1.getD 0 0),(List.drop 8 (x1.1.getD 0 [])),(qZ x1.1 1 (x1.1.length-1)))
         else none)
        else none)
       else none)
      else none)
     else none)
    else none)
   else none)
  else none)
 else none
def yL3 (k:Nat):Option (Int×Int×AC×EQ×Bool):=
 (Pn k 0).bind fun x0=>
 bif decide (x0.1 > 0) then ((Pn k 1).bind fun x1=>
  bif decide (x1.1>x0.1) then some (x1.1,1,x1.2.1,x1.2.2,true)
  else some (x0.1,0,x0.2.1,x0.2.2,true))
 else(Pn k 1).bind fun x2=>
 bif decide (x2.1>0) then some (x2.1,1,x2.2.1,x2.2.2,true)
 else some (0,0,[],[],false)
def yEh (k:Nat)(a1:AC):Option (AC×EQ×Int):=
 some ([],[],11)
def Po (k:Nat)(a1:AC):Option Int:=
 some 11
abbrev qX3:Type:=Int×Bool×yO×yT
abbrev qHq:Type:=Int→Bool→Int→Int→yO→yT→EQ→Option qX3
def qY8 (k:Nat)(rec:qHq)(s2:Int)(bR:Bool)(A4 pq:Int)(b0:yO)(b1:yT)(r2:EQ):Option qX3:=
 bif decide (pq < A4) then (bif zC pq r2.length then ((XW k (r2.getD pq.toNat [])).bind fun x7=>
   bif decide (x7.2 = 0) then ((ky k b0 b1 x7.1).bind fun x8=>
    rec s2 bR A4 (zA (pq+1)) b0 x8.1 r2)
   else rec s2 bR A4 (zA (pq+1)) b0 b1 r2)
  else none)
 else some (s2,bR,b0,b1)
def J1 (k:Nat):Nat→qHq:=yH (fun _ _ _ _ _ _ _=>none) (qY8 k)
def yWv (k:Nat)(a0:yO)(a2:Int):Option Int:=
 (AO k a0).bind fun x0=>
 bif !x0 then some 1
 else bif decide (a2<1) then some 1
 else bif decide (a2>1000) then some 1
 else(yL3 k).bind fun x1=>
 (oS k a0).bind fun x2=>
 (ku k x2).bind fun x3=>
 (yEh k x3).bind fun x4=>
 bif !(decide (x4.2.2=0)) then some x4.2.2
 else(OB k x4.1).bind fun x5=>
 bif !x5.2 then ((oS k a0).bind fun x6=>
  (J1 k k a2 x1.2.2.2.2 (x4.2.1.length:Int) 0 a0 x6 x4.2.1).bind fun z=>
  bif z.2.1 then ((ku k z.2.2.2).bind fun x9=>
   (Po k x9).bind fun dC=>
   bif !(decide (dC=0)) then some dC
   else none)
  else none)
 else(Pg k a0 x5.1).bind fun gg=>
 bif !gg then ((oS k a0).bind fun mP=>
  (J1 k k a2 x1.2.2.2.2 (x4.2.1.length:Int) 0 a0 mP x4.2.1).bind fun z1=>
  bif z1.2.1 then ((ku k z1.2.2.2).bind fun mQ=>
   (Po k mQ).bind fun ph=>
   bif !(decide (ph=0)) then some ph
   else none)
  else none)
 else(J1 k k a2 x1.2.2.2.2 (x4.2.1.length:Int) 0 a0 x5.1 x4.2.1).bind fun z2=>
 bif z2.2.1 then ((ku k z2.2.2.2).bind fun bO=>
  (Po k bO).bind fun w9=>
  bif !(decide (w9=0)) then some w9
  else none)
 else none
abbrev Pq:Type:=(nP×nP×(List (List qA))×(List qA))⊕(nP×nQ×fR×xc×AC×AC×nP×(List (List qA))×(List qA))
abbrev Hu:Type:=(Int×(List tG)×Int×Int×yO×nP×xc×AC×AC×nQ×fR×nP×(List (List qA))×(List qA))⊕(Int×(List tG)×Int×Int×yO×nP×xc×AC×AC×nP×(List (List qA))×(List qA))→Option Pq
def yl (k:Nat)(rec:Hu)(z:(Int×(List tG)×Int×Int×yO×nP×xc×AC×AC×nQ×fR×nP×(List (List qA))×(List qA))⊕(Int×(List tG)×Int×Int×yO×nP×xc×AC×AC×nP×(List (List qA))×(List qA))):Option Pq:=match z with
 | .inl z => bif decide (z.2.2.2.1 < z.2.2.1) then (bif zC z.2.2.2.1 z.2.1.length then (bif decide ((z.2.1.getD z.2.2.2.1.toNat (0, 0, [], 0, 0)).1 = 1) then ((I3 k z.2.2.2.2.2.2.2.2.2.1 z.2.2.2.2.2.2.2.2.2.2.1 (z.2.2.2.2.2.2.1.1,z.2.2.2.2.2.2.2.1,z.2.2.2.2.2.2.1.2.1,z.2.2.2.2.2.2.2.2.1,z.2.2.2.2.2.2.1.2.2) (z.2.1.getD z.2.2.2.1.toNat (0,0,[],0,0)).2.1 (z.2.1.getD z.2.2.2.1.toNat (0,0,[],0,0)).2.2.1).bind fun x4=>
     (nA k (z.2.1.getD z.2.2.2.1.toNat (0,0,[],0,0)).2.2.1).bind fun x5=>
     bif decide (x5.2 = 0) then ((EP k x4.1).bind fun x6=>
      bif !x6 then (bif decide ((x4.1.length : Int) > 0) then (bif zO (z.2.2.2.2.2.2.2.2.2.2.2.2.2.length + 1) 64 then (let y0:List qA:=(z.2.2.2.2.2.2.2.2.2.2.2.2.2++[((z.2.1.getD z.2.2.2.1.toNat (0,0,[],0,0)).2.1,x5.1)])
         bif zO (z.2.2.2.2.2.2.2.2.2.2.2.2.1.length + 1) 24 then (let y1:List (List qA):=(z.2.2.2.2.2.2.2.2.2.2.2.2.1++[x4.1])
          rec (.inl (z.1,z.2.1,z.2.2.1,(zA (z.2.2.2.1+1)),z.2.2.2.2.1,z.2.2.2.2.2.1,(x4.2.2.2.1,x4.2.2.2.2.2.1,x4.2.2.2.2.2.2.2),x4.2.2.2.2.1,x4.2.2.2.2.2.2.1,x4.2.1,x4.2.2.1,z.2.2.2.2.2.2.2.2.2.2.2.1,y1,y0)))
         else none)
        else none)
       else(zx k x4.2.1 x4.2.2.1 x4.2.2.2).bind fun x7=>
       bif !x7.1 then (bif zO (z.2.2.2.2.2.2.2.2.2.2.2.2.2.length + 1) 64 then (let y2:List qA:=(z.2.2.2.2.2.2.2.2.2.2.2.2.2++[((z.2.1.getD z.2.2.2.1.toNat (0,0,[],0,0)).2.1,x5.1)])
         bif zO (z.2.2.2.2.2.2.2.2.2.2.2.2.1.length + 1) 24 then (let y3:List (List qA):=(z.2.2.2.2.2.2.2.2.2.2.2.2.1++[x4.1])
          rec (.inl (z.1,z.2.1,z.2.2.1,(zA (z.2.2.2.1+1)),z.2.2.2.2.1,z.2.2.2.2.2.1,(x7.2.2.2.1,x7.2.2.2.2.2.1,x7.2.2.2.2.2.2.2),x7.2.2.2.2.1,x7.2.2.2.2.2.2.1,x7.2.1,x7.2.2.1,z.2.2.2.2.2.2.2.2.2.2.2.1,y3,y2)))
         else none)
        else none)
       else bif zO (z.2.2.2.2.2.2.2.2.2.2.2.2.1.length + 1) 24 then (let y4:List (List qA):=(z.2.2.2.2.2.2.2.2.2.2.2.2.1++[x4.1])
        rec (.inl (z.1,z.2.1,z.2.2.1,(zA (z.2.2.2.1+1)),z.2.2.2.2.1,z.2.2.2.2.2.1,(x7.2.2.2.1,x7.2.2.2.2.2.1,x7.2.2.2.2.2.2.2),x7.2.2.2.2.1,x7.2.2.2.2.2.2.1,x7.2.1,x7.2.2.1,z.2.2.2.2.2.2.2.2.2.2.2.1,y4,z.2.2.2.2.2.2.2.2.2.2.2.2.2)))
       else none)
      else bif zO (z.2.2.2.2.2.2.2.2.2.2.2.2.1.length + 1) 24 then (let y5:List (List qA):=(z.2.2.2.2.2.2.2.2.2.2.2.2.1++[x4.1])
       rec (.inl (z.1,z.2.1,z.2.2.1,(zA (z.2.2.2.1+1)),z.2.2.2.2.1,z.2.2.2.2.2.1,(x4.2.2.2.1,x4.2.2.2.2.2.1,x4.2.2.2.2.2.2.2),x4.2.2.2.2.1,x4.2.2.2.2.2.2.1,x4.2.1,x4.2.2.1,z.2.2.2.2.2.2.2.2.2.2.2.1,y5,z.2.2.2.2.2.2.2.2.2.2.2.2.2)))
      else none)
     else bif zO (z.2.2.2.2.2.2.2.2.2.2.2.2.1.length + 1) 24 then (let y6:List (List qA):=(z.2.2.2.2.2.2.2.2.2.2.2.2.1++[x4.1])
      rec (.inl (z.1,z.2.1,z.2.2.1,(zA (z.2.2.2.1+1)),z.2.2.2.2.1,z.2.2.2.2.2.1,(x4.2.2.2.1,x4.2.2.2.2.2.1,x4.2.2.2.2.2.2.2),x4.2.2.2.2.1,x4.2.2.2.2.2.2.1,x4.2.1,x4.2.2.1,z.2.2.2.2.2.2.2.2.2.2.2.1,y6,z.2.2.2.2.2.2.2.2.2.2.2.2.2)))
     else none)
    else bif decide ((z.2.1.getD z.2.2.2.1.toNat (0, 0, [], 0, 0)).1 = 2) then ((qKl k (z.2.2.2.2.2.2.1.1,z.2.2.2.2.2.2.2.1,z.2.2.2.2.2.2.1.2.1,z.2.2.2.2.2.2.2.2.1,z.2.2.2.2.2.2.1.2.2) (z.2.1.getD z.2.2.2.1.toNat (0,0,[],0,0)).2.2.2).bind fun x8=>
     bif zO (z.2.2.2.2.2.2.2.2.2.2.2.2.1.length + 1) 24 then (let y7:List (List qA):=(z.2.2.2.2.2.2.2.2.2.2.2.2.1++[[]])
      rec (.inl (z.1,z.2.1,z.2.2.1,(zA (z.2.2.2.1+1)),z.2.2.2.2.1,z.2.2.2.2.2.1,(x8.1,x8.2.2.1,x8.2.2.2.2),x8.2.1,x8.2.2.2.1,z.2.2.2.2.2.2.2.2.2.1,z.2.2.2.2.2.2.2.2.2.2.1,z.2.2.2.2.2.2.2.2.2.2.2.1,y7,z.2.2.2.2.2.2.2.2.2.2.2.2.2)))
     else none)
    else bif decide ((z.2.1.getD z.2.2.2.1.toNat (0, 0, [], 0, 0)).1 = 3) then ((qS6 k (z.2.2.2.2.2.2.1.1,z.2.2.2.2.2.2.2.1,z.2.2.2.2.2.2.1.2.1,z.2.2.2.2.2.2.2.2.1,z.2.2.2.2.2.2.1.2.2)).bind fun x9=>
     (qw k z.2.2.2.2.1 x9 z.1).bind fun dC=>
     match dC with
     | .inl gg => bif zO (z.2.2.2.2.2.2.2.2.2.2.2.2.1.length + 1) 24 then (let y8:List (List qA):=(z.2.2.2.2.2.2.2.2.2.2.2.2.1++[[]])
       rec (.inl (z.1,z.2.1,z.2.2.1,(zA (z.2.2.2.1+1)),z.2.2.2.2.1,z.2.2.2.2.2.1,(gg.2.1.1,gg.2.1.2.2.1,gg.2.1.2.2.2.2),gg.2.1.2.1,gg.2.1.2.2.2.1,gg.2.2.1,gg.2.2.2,z.2.2.2.2.2.2.2.2.2.2.2.1,y8,z.2.2.2.2.2.2.2.2.2.2.2.2.2)))
      else none
     | .inr mP => bif zO (z.2.2.2.2.2.2.2.2.2.2.2.2.1.length + 1) 24 then (let y9:List (List qA):=(z.2.2.2.2.2.2.2.2.2.2.2.2.1++[[]])
       rec (.inr (z.1,z.2.1,z.2.2.1,(zA (z.2.2.2.1+1)),z.2.2.2.2.1,z.2.2.2.2.2.1,(mP.2.1,mP.2.2.2.1,mP.2.2.2.2.2),mP.2.2.1,mP.2.2.2.2.1,z.2.2.2.2.2.2.2.2.2.2.2.1,y9,z.2.2.2.2.2.2.2.2.2.2.2.2.2)))
      else none)
    else bif zO (z.2.2.2.2.2.2.2.2.2.2.2.2.1.length + 1) 24 then (let y10:List (List qA):=(z.2.2.2.2.2.2.2.2.2.2.2.2.1++[[]])
     rec (.inl (z.1,z.2.1,z.2.2.1,(zA (z.2.2.2.1+1)),(aaQ z (y10,z.2.2.2.2.2.2.2.2.2.2.2.2.2)))))
    else none)
   else none)
  else some (.inr (z.2.2.2.2.2.1,z.2.2.2.2.2.2.2.2.2.1,z.2.2.2.2.2.2.2.2.2.2.1,z.2.2.2.2.2.2.1,z.2.2.2.2.2.2.2.1,z.2.2.2.2.2.2.2.2.1,z.2.2.2.2.2.2.2.2.2.2.2.1,z.2.2.2.2.2.2.2.2.2.2.2.2.1,z.2.2.2.2.2.2.2.2.2.2.2.2.2))
 | .inr z1 => bif decide (z1.2.2.2.1 < z1.2.2.1) then (bif zC z1.2.2.2.1 z1.2.1.length then (bif decide ((z1.2.1.getD z1.2.2.2.1.toNat (0, 0, [], 0, 0)).1 = 1) then ((yEp k (z1.2.1.getD z1.2.2.2.1.toNat (0,0,[],0,0)).2.1 (z1.2.1.getD z1.2.2.2.1.toNat (0,0,[],0,0)).2.2.1).bind fun mQ=>
     (nA k (z1.2.1.getD z1.2.2.2.1.toNat (0,0,[],0,0)).2.2.1).bind fun ph=>
     bif decide (ph.2 = 0) then ((EP k mQ).bind fun bO=>
      bif !bO then (bif decide ((mQ.length : Int) > 0) then (bif zO (z1.2.2.2.2.2.2.2.2.2.2.2.length + 1) 64 then (let y11:List qA:=(z1.2.2.2.2.2.2.2.2.2.2.2++[((z1.2.1.getD z1.2.2.2.1.toNat (0,0,[],0,0)).2.1,ph.1)])
         bif zO (z1.2.2.2.2.2.2.2.2.2.2.1.length + 1) 24 then (let y12:List (List qA):=(z1.2.2.2.2.2.2.2.2.2.2.1++[mQ])
          rec (.inr (z1.1,z1.2.1,z1.2.2.1,(zA (z1.2.2.2.1+1)),(F1 z1 (y12,y11)))))
         else none)
        else none)
       else(J0 k).bind fun w9=>
       bif !w9 then (bif zO (z1.2.2.2.2.2.2.2.2.2.2.2.length + 1) 64 then (let y13:List qA:=(z1.2.2.2.2.2.2.2.2.2.2.2++[((z1.2.1.getD z1.2.2.2.1.toNat (0,0,[],0,0)).2.1,ph.1)])
         bif zO (z1.2.2.2.2.2.2.2.2.2.2.1.length + 1) 24 then (let y14:List (List qA):=(z1.2.2.2.2.2.2.2.2.2.2.1++[mQ])
          rec (.inr (z1.1,z1.2.1,z1.2.2.1,(zA (z1.2.2.2.1+1)),(F1 z1 (y14,y13)))))
         else none)
        else none)
       else bif zO (z1.2.2.2.2.2.2.2.2.2.2.1.length + 1) 24 then (let y15:List (List qA):=(z1.2.2.2.2.2.2.2.2.2.2.1++[mQ])
        rec (.inr (z1.1,z1.2.1,z1.2.2.1,(zA (z1.2.2.2.1+1)),(F1 z1 (y15,z1.2.2.2.2.2.2.2.2.2.2.2)))))
       else none)
      else bif zO (z1.2.2.2.2.2.2.2.2.2.2.1.length + 1) 24 then (let y16:List (List qA):=(z1.2.2.2.2.2.2.2.2.2.2.1++[mQ])
       rec (.inr (z1.1,z1.2.1,z1.2.2.1,(zA (z1.2.2.2.1+1)),(F1 z1 (y16,z1.2.2.2.2.2.2.2.2.2.2.2)))))
      else none)
     else bif zO (z1.2.2.2.2.2.2.2.2.2.2.1.length + 1) 24 then (let y17:List (List qA):=(z1.2.2.2.2.2.2.2.2.2.2.1++[mQ])
      rec (.inr (z1.1,z1.2.1,z1.2.2.1,(zA (z1.2.2.2.1+1)),(F1 z1 (y17,z1.2.2.2.2.2.2.2.2.2.2.2)))))
     else none)
    else bif decide ((z1.2.1.getD z1.2.2.2.1.toNat (0, 0, [], 0, 0)).1 = 2) then ((qKl k (z1.2.2.2.2.2.2.1.1,z1.2.2.2.2.2.2.2.1,z1.2.2.2.2.2.2.1.2.1,z1.2.2.2.2.2.2.2.2.1,z1.2.2.2.2.2.2.1.2.2) (z1.2.1.getD z1.2.2.2.1.toNat (0,0,[],0,0)).2.2.2).bind fun gj=>
     bif zO (z1.2.2.2.2.2.2.2.2.2.2.1.length + 1) 24 then (let y18:List (List qA):=(z1.2.2.2.2.2.2.2.2.2.2.1++[[]])
      rec (.inr (z1.1,z1.2.1,z1.2.2.1,(zA (z1.2.2.2.1+1)),z1.2.2.2.2.1,z1.2.2.2.2.2.1,(gj.1,gj.2.2.1,gj.2.2.2.2),gj.2.1,gj.2.2.2.1,z1.2.2.2.2.2.2.2.2.2.1,y18,z1.2.2.2.2.2.2.2.2.2.2.2)))
     else none)
    else bif decide ((z1.2.1.getD z1.2.2.2.1.toNat (0, 0, [], 0, 0)).1 = 3) then ((qS6 k (z1.2.2.2.2.2.2.1.1,z1.2.2.2.2.2.2.2.1,z1.2.2.2.2.2.2.1.2.1,z1.2.2.2.2.2.2.2.2.1,z1.2.2.2.2.2.2.1.2.2)).bind fun xa=>
     (qw k z1.2.2.2.2.1 xa z1.1).bind fun FZ=>
     match FZ with
     | .inl iW => bif zO (z1.2.2.2.2.2.2.2.2.2.2.1.length + 1) 24 then (let y19:List (List qA):=(z1.2.2.2.2.2.2.2.2.2.2.1++[[]])
       rec (.inl (z1.1,z1.2.1,z1.2.2.1,(zA (z1.2.2.2.1+1)),z1.2.2.2.2.1,z1.2.2.2.2.2.1,(iW.2.1.1,iW.2.1.2.2.1,iW.2.1.2.2.2.2),iW.2.1.2.1,iW.2.1.2.2.2.1,iW.2.2.1,iW.2.2.2,z1.2.2.2.2.2.2.2.2.2.1,y19,z1.2.2.2.2.2.2.2.2.2.2.2)))
      else none
     | .inr tF => bif zO (z1.2.2.2.2.2.2.2.2.2.2.1.length + 1) 24 then (let y20:List (List qA):=(z1.2.2.2.2.2.2.2.2.2.2.1++[[]])
       rec (.inr (z1.1,z1.2.1,z1.2.2.1,(zA (z1.2.2.2.1+1)),z1.2.2.2.2.1,z1.2.2.2.2.2.1,(tF.2.1,tF.2.2.2.1,tF.2.2.2.2.2),tF.2.2.1,tF.2.2.2.2.1,z1.2.2.2.2.2.2.2.2.2.1,y20,z1.2.2.2.2.2.2.2.2.2.2.2)))
      else none)
    else bif zO (z1.2.2.2.2.2.2.2.2.2.2.1.length + 1) 24 then (let y21:List (List qA):=(z1.2.2.2.2.2.2.2.2.2.2.1++[[]])
     rec (.inr (z1.1,z1.2.1,z1.2.2.1,(zA (z1.2.2.2.1+1)),(F1 z1 (y21,z1.2.2.2.2.2.2.2.2.2.2.2)))))
    else none)
   else none)
  else some (.inl (z1.2.2.2.2.2.1,z1.2.2.2.2.2.2.2.2.2.1,z1.2.2.2.2.2.2.2.2.2.2.1,z1.2.2.2.2.2.2.2.2.2.2.2))
def Au (k:Nat):Nat→Hu:=yH (fun _=>none) (yl k)
def Av (k:Nat)(a0:yO)(a1 a2:Int)(a3:List tG):Option ((List (List qA))×(List qA)×Int×(List zK)×EQ×AC×EQ×AC×EQ×(List zB)×AC×Int×Bool×Bool):=
 (U7 k a1).bind fun x0=>
 match x0 with
 |.inl x1=>(qw k a0 x1 a2).bind fun x2=>
  match x2 with
  |.inl x3=>bif !(decide (x3.1=0)) then some ([],[],0,[],[],[],[],[],[],[],[],0,false,false)
   else(Au k k (.inl (a2,a3,(a3.length:Int),0,a0,(0,0,false,false),(x3.2.1.1,x3.2.1.2.2.1,x3.2.1.2.2.2.2),x3.2.1.2.1,x3.2.1.2.2.2.1,x3.2.2.1,x3.2.2.2,(0,0,false,false),[],[]))).bind fun z2=>
   match z2 with
   |.inl z3=>(qQ6 k).bind fun PM=>
    (J0 k).bind fun x23=>
    some (z3.2.2.1,z3.2.2.2,(vU PM (!x23)))
   |.inr z4=>(qTn k z4.2.1 z4.2.2.1 (z4.2.2.2.1.1,z4.2.2.2.2.1,z4.2.2.2.1.2.1,z4.2.2.2.2.2.1,z4.2.2.2.1.2.2)).bind fun PT=>
    (zx k PT.2.1 PT.2.2.1 PT.2.2.2).bind fun x25=>
    some (z4.2.2.2.2.2.2.2.1,z4.2.2.2.2.2.2.2.2,(vU PT.1 (!x25.1)))
  |.inr F2=>bif !(decide (F2.1=0)) then some ([],[],0,[],[],[],[],[],[],[],[],0,false,false)
   else(Au k k (.inr (a2,a3,(a3.length:Int),0,a0,(0,0,false,false),(F2.2.1,F2.2.2.2.1,F2.2.2.2.2.2),F2.2.2.1,F2.2.2.2.2.1,(0,0,false,false),[],[]))).bind fun z5=>
   match z5 with
   |.inl z6=>(qQ6 k).bind fun x27=>
    (J0 k).bind fun x28=>
    some (z6.2.2.1,z6.2.2.2,(vU x27 (!x28)))
   |.inr z7=>(qTn k z7.2.1 z7.2.2.1 (z7.2.2.2.1.1,z7.2.2.2.2.1,z7.2.2.2.1.2.1,z7.2.2.2.2.2.1,z7.2.2.2.1.2.2)).bind fun PU=>
    (zx k PU.2.1 PU.2.2.1 PU.2.2.2).bind fun x30=>
    some (z7.2.2.2.2.2.2.2.1,z7.2.2.2.2.2.2.2.2,(vU PU.1 (!x30.1)))
 |.inr x31=>(yWv k a0 a2).bind fun x32=>
  bif !(decide (x32=0)) then some ([],[],0,[],[],[],[],[],[],[],[],0,false,false)
  else none
abbrev qYk:Type:=Int→Int→Int→AC→Option AC
def yA6 (k:Nat)(rec:qYk)(s0 s1 s6:Int)(r0:AC):Option AC:=
 bif decide (s6 < s0) then (bif zC s6 r0.length then(rec s0 s1 (zA (s6+1)) (r0.set s6.toNat s1))
  else none)
 else some r0
def Pr (k:Nat):Nat→qYk
 |0,_,_,_,_=>none
 |n+1,s0,s1,s6,r0=>yA6 k (Pr k n) s0 s1 s6 r0
def qOf (k:Nat)(a0 a1:Int):Option AC:=
 bif decide (a0<0) then some []
 else bif decide (a0>6) then some []
 else bif pP a0 a0 8 then ((Pr k k a0 a1 0 (List.replicate a0.toNat (0:Int))).bind fun z=>
  some z)
 else none
abbrev qYr:Type:=Int→Int→Int→EQ→Option EQ
def yE2 (k:Nat)(rec:qYr)(s0 s1 s6:Int)(m0:EQ):Option EQ:=
 bif decide (s6 < s0) then ((qOf k s0 s1).bind fun x0=>
  bif zO (m0.length+1) 24 then(rec s0 s1 (zA (s6+1)) (m0++[x0]))
  else none)
 else some m0
def Ps (k:Nat):Nat→qYr
 |0,_,_,_,_=>none
 |n+1,s0,s1,s6,m0=>yE2 k (Ps k n) s0 s1 s6 m0
def qIf (k:Nat)(a0 a1:Int):Option EQ:=
 bif decide (a0<0) then some []
 else bif decide (a0>6) then some []
 else(Ps k k a0 a1 0 []).bind fun z=>
 some z
abbrev qSc:Type:=Int×yO×vH×vH×(List zK)×EQ×AC×EQ×AC
abbrev qRo:Type:=Int→Int→yO→vH→vH→List zK→EQ→AC→EQ→AC→Option qSc
def yRm (k:Nat)(rec:qRo)(s3 s5:Int)(b0:yO)(b1 b2:vH)(r3:List zK)(m4:EQ)(r5:AC)(m6:EQ)(r7:AC):Option qSc:=
 bif decide (s5 < (b0.2.1.length : Int)) then (bif zC s5 b0.2.1.length then (bif zO (r7.length+1) 8 then(rec s3 (zA (s5+1)) b0 b1 b2 r3 m4 r5 m6 (r7++[(b0.2.1.getD s5.toNat (0,0)).1]))
   else none)
  else none)
 else some (s3,b0,b1,b2,r3,m4,r5,m6,r7)
def qXw (k:Nat):Nat→qRo:=yH (fun _ _ _ _ _ _ _ _ _ _=>none) (yRm k)
abbrev qRf:Type:=vH×vH×(List zK)×EQ×AC×EQ×AC×EQ
abbrev qWl:Type:=Int→Int→yO→vH→vH→List zK→EQ→AC→EQ→AC→EQ→Option qRf
def yXx (k:Nat)(rec:qWl)(s3 s6:Int)(b0:yO)(b1 b2:vH)(r3:List zK)(m4:EQ)(r5:AC)(m6:EQ)(r7:AC)(m8:EQ):Option qRf:=
 bif decide (s6 < s3) then (bif pP (b0.2.1.length : Int) (b0.2.1.length : Int) 8 then (bif zO (m8.length+1) 24 then(rec s3 (zA (s6+1)) b0 b1 b2 r3 m4 r5 m6 r7 (m8++[(List.replicate b0.2.1.length (0:Int))]))
   else none)
  else none)
 else some (b1,b2,r3,m4,r5,m6,r7,m8)
def qQc (k:Nat):Nat→qWl:=yH (fun _ _ _ _ _ _ _ _ _ _ _=>none) (yXx k)
def JF (k:Nat)(a0:yO):Option yT:=
 bif pP a0.1 a0.1 24 then ((qIf k a0.1 (-1)).bind fun x0=>
  (qOf k a0.1 (-1)).bind fun x1=>
  (qIf k a0.1 0).bind fun x2=>
  (qXw k k a0.1 0 a0 (0,0,false) (0,0,false) (List.replicate a0.1.toNat ((0,0,0):Int×Int×Int)) x0 x1 x2 []).bind fun z=>
  (qQc k k z.1 0 z.2.1 z.2.2.1 z.2.2.2.1 z.2.2.2.2.1 z.2.2.2.2.2.1 z.2.2.2.2.2.2.1 z.2.2.2.2.2.2.2.1 z.2.2.2.2.2.2.2.2 []).bind fun z1=>
  some (z1.2.1.1,(yKy z1 ([],[],z1.2.1.2))))
 else none
def Cp (k:Nat)(a0:Int):Option Int:=
 bif decide (a0<0) then some (-1)
 else bif decide (a0≥24) then some (-1)
 else bif zC a0 24 then some (List.getD [(-1),6,1,2,2,2,1,1,2,0,2,2,2,0,0,0,1,5,4,1,1,1,1,1] a0.toNat 0)
 else none
def NU (k:Nat)(a0:Int):Option Bool:=
 bif decide (a0≥1) then some (decide (a0≤14))
 else some false
abbrev qS4:Type:=Int→Int→zB→Option (Int⊕Bool)
def VE (k:Nat)(rec:qS4)(s3 s4:Int)(b0:zB):Option (Int⊕Bool):=
 bif decide (s4 < 6) then (bif decide (s4 = 0) then (bif !(decide (b0.2.1=0)) then some (.inr false)
   else rec s3 (zA (s4+1)) b0)
  else bif decide (s4 = 1) then (bif !(decide (b0.2.2.1=0)) then some (.inr false)
   else rec s3 (zA (s4+1)) b0)
  else bif decide (s4 = 2) then (bif !(decide (b0.2.2.2.1=0)) then some (.inr false)
   else rec s3 (zA (s4+1)) b0)
  else bif decide (s4 = 3) then (bif !(decide (b0.2.2.2.2.1=0)) then some (.inr false)
   else rec s3 (zA (s4+1)) b0)
  else bif decide (s4 = 4) then (bif !(decide (b0.2.2.2.2.2.1=0)) then some (.inr false)
   else rec s3 (zA (s4+1)) b0)
  else bif decide (s4 = 5) then (bif !(decide (b0.2.2.2.2.2.2=0)) then some (.inr false)
   else rec s3 (zA (s4+1)) b0)
  else none)
 else some (.inl s3)
def wg (k:Nat):Nat→qS4:=yH (fun _ _ _=>none) (VE k)
def tA (k:Nat)(a0:zB):Option Bool:=
 (Cp k a0.1).bind fun x0=>
 (wg k k x0 (wJ false x0 0) a0).bind fun z=>
 match z with
 |.inl z1=>some (decide (z1≥0))
 |.inr z2=>some z2
def NV (k:Nat)(a0:Int):Option Bool:=
 bif decide (a0≥10) then some (decide (a0≤14))
 else some false
def AJ (k:Nat)(a0:yO)(a1:qA):Option Bool:=
 (NU k a1.2.1).bind fun x0=>
 bif !x0 then some false
 else(tA k a1.2).bind fun x1=>
 bif !x1 then some false
 else(NV k a1.2.1).bind fun x2=>
 bif x2 then some (decide (a1.1=(-1)))
 else bif decide (a1.1≥0) then some (decide (a1.1<a0.1))
 else some false
abbrev qYp:Type:=List zB
abbrev qLw:Type:=List zB→Int→Int→List zB→Option qYp
def Dz (k:Nat)(rec:qLw)(s0:List zB)(s1 s6:Int)(r0:List zB):Option qYp:=
 bif decide (s6 < (s0.length : Int)) then (bif zC s6 s0.length then (bif decide ((s0.getD s6.toNat (0, 0, 0, 0, 0, 0, 0)).2.1 = s1) then (bif zC s6 s0.length then (bif zO (r0.length + 1) 56 then (let y0:List zB:=(r0++[(s0.getD s6.toNat (0,0,0,0,0,0,0))])
      rec s0 s1 (zA (s6+1)) y0)
     else none)
    else none)
   else rec s0 s1 (zA (s6+1)) r0)
  else none)
 else some r0
def Ik (k:Nat):Nat→qLw
 |0,_,_,_,_=>none
 |n+1,s0,s1,s6,r0=>Dz k (Ik k n) s0 s1 s6 r0
def sQ (k:Nat)(a0:List zB)(a1:Int):Option (List zB):=
 (Ik k k a0 a1 0 []).bind fun z=>
 some z
abbrev qGq:Type:=Int×Int×Int×Int×Int×Int×Int×Int×Int×Int×Int×Int×Int×Int
abbrev qM4:Type:=AC→Int→Int→Int→Int→Int→Int→Int→Int→Int→Int→Int→Int→Int→Int→Int→Option qGq
def yB8 (k:Nat)(rec:qM4)(s1:AC)(s6 af ah ak ag aX bh bj av aB aC aE aG aH aI:Int):Option qGq:=
 bif decide (s6 < (s1.length : Int)) then (bif decide (s6 < 6) then (bif zC s6 s1.length then (bif decide (s6=0) then(rec s1 (zA (s6+1)) af ah ak ag aX bh bj av (s1.getD s6.toNat 0) aC aE aG aH aI)
    else bif decide (s6=1) then(rec s1 (zA (s6+1)) af ah ak ag aX bh bj av aB (s1.getD s6.toNat 0) aE aG aH aI)
    else bif decide (s6=2) then(rec s1 (zA (s6+1)) af ah ak ag aX bh bj av aB aC (s1.getD s6.toNat 0) aG aH aI)
    else bif decide (s6=3) then(rec s1 (zA (s6+1)) af ah ak ag aX bh bj av aB aC aE (s1.getD s6.toNat 0) aH aI)
    else bif decide (s6=4) then(rec s1 (zA (s6+1)) af ah ak ag aX bh bj av aB aC aE aG (s1.getD s6.toNat 0) aI)
    else bif decide (s6=5) then(rec s1 (zA (s6+1)) af ah ak ag aX bh bj av aB aC aE aG aH (s1.getD s6.toNat 0))
    else none)
   else none)
  else some (af,ah,ak,ag,aX,bh,bj,av,aB,aC,aE,aG,aH,aI))
 else some (af,ah,ak,ag,aX,bh,bj,av,aB,aC,aE,aG,aH,aI)
def Pv (k:Nat):Nat→qM4
 |0,_,_,_,_,_,_,_,_,_,_,_,_,_,_,_,_=>none
 |n+1,s1,s6,af,ah,ak,ag,aX,bh,bj,av,aB,aC,aE,aG,aH,aI=>yB8 k (Pv k n) s1 s6 af ah ak ag aX bh bj av aB aC aE aG aH aI
def fq (k:Nat)(a0:Int)(a1:AC):Option zB:=
 (Pv k k a1 0 0 0 0 0 0 0 0 a0 0 0 0 0 0 0).bind fun z=>
 some (z.2.2.2.2.2.2.2.1,z.2.2.2.2.2.2.2.2.1,z.2.2.2.2.2.2.2.2.2.1,z.2.2.2.2.2.2.2.2.2.2.1,z.2.2.2.2.2.2.2.2.2.2.2.1,z.2.2.2.2.2.2.2.2.2.2.2.2.1,z.2.2.2.2.2.2.2.2.2.2.2.2.2)
def NT (k:Nat)(a0:yO)(a1:Int):Option Bool:=
 some (decide (a1=a0.2.2.2.1))
def Vz (k:Nat)(bZ ba bq cn bH bT bJ a1:Int):Option Bool:=
 some (decide (a1>bJ))
abbrev qJr:Type:=List zB→Int→Int→Option (Unit⊕Int)
def DI (k:Nat)(rec:qJr)(s0:List zB)(s1 s5:Int):Option (Unit⊕Int):=
 bif decide (s5 < (s0.length : Int)) then (bif zC s5 s0.length then (bif decide ((s0.getD s5.toNat (0,0,0,0,0,0,0)).1=s1) then some (.inr s5)
   else rec s0 s1 (zA (s5+1)))
  else none)
 else some (.inl ())
def DH (k:Nat):Nat→qJr
 |0,_,_,_=>none
 |n+1,s0,s1,s5=>DI k (DH k n) s0 s1 s5
def lS (k:Nat)(a0:List zB)(a1:Int):Option Int:=
 (DH k k a0 a1 0).bind fun z=>
 match z with
 |.inl z1=>some (-1)
 |.inr z2=>some z2
def mJ (k:Nat)(a0:List zB)(a1:Int):Option qR8:=
 (lS k a0 a1).bind fun x0=>
 bif decide (x0<0) then some (a0,0,0,0,0,0,0,0,4)
 else bif (decide (0 ≤ x0)) && (decide (x0 ≤ (a0.length : Int))) then (bif zO (0 + (List.take x0.toNat a0).length) 56 then (bif (decide (0 ≤ (zA (x0 + 1)))) && (decide ((zA (x0 + 1)) ≤ (a0.length : Int))) then (bif zO ((List.take x0.toNat a0).length + (List.drop (zA (x0 + 1)).toNat a0).length) 56 then (bif zC x0 a0.length then some (((List.take x0.toNat a0)++(List.drop (zA (x0+1)).toNat a0)),(gb (a0.getD x0.toNat (0,0,0,0,0,0,0)) 0))
     else none)
    else none)
   else none)
  else none)
 else none
def JB (k:Nat)(a0:yO)(a1:Int):Option Bool:=
 bif decide (a1 > 0) then (bif decide (a1 < a0.2.2.2.1) then (bif !(decide (a0.2.2.2.2=0)) then some (decide ((Int.tmod a1 a0.2.2.2.2)=0))
   else none)
  else some false)
 else some false
def TS (k:Nat)(bZ ba bq cn bH bT bJ a1:Int):Option Bool:=
 bif decide (a1≥bT) then some (decide (a1≤bJ))
 else some false
abbrev qXi:Type:=List zB
abbrev qXh:Type:=List zB→Int→Int→List zB→Option qXi
def Dy (k:Nat)(rec:qXh)(s0:List zB)(s1 s6:Int)(r0:List zB):Option qXi:=
 bif decide (s6 < (s0.length : Int)) then (bif zC s6 s0.length then ((TS k (s0.getD s6.toNat (0,0,0,0,0,0,0)).1 (s0.getD s6.toNat (0,0,0,0,0,0,0)).2.1 (s0.getD s6.toNat (0,0,0,0,0,0,0)).2.2.1 (s0.getD s6.toNat (0,0,0,0,0,0,0)).2.2.2.1 (s0.getD s6.toNat (0,0,0,0,0,0,0)).2.2.2.2.1 (s0.getD s6.toNat (0,0,0,0,0,0,0)).2.2.2.2.2.1 (s0.getD s6.toNat (0,0,0,0,0,0,0)).2.2.2.2.2.2 s1).bind fun x0=>
   bif x0 then (bif zC s6 s0.length then (bif zO (r0.length + 1) 56 then (let y0:List zB:=(r0++[(s0.getD s6.toNat (0,0,0,0,0,0,0))])
      rec s0 s1 (zA (s6+1)) y0)
     else none)
    else none)
   else rec s0 s1 (zA (s6+1)) r0)
  else none)
 else some r0
def Ij (k:Nat):Nat→qXh
 |0,_,_,_,_=>none
 |n+1,s0,s1,s6,r0=>Dy k (Ij k n) s0 s1 s6 r0
def Dx (k:Nat)(a0:List zB)(a1:Int):Option (List zB):=
 (Ij k k a0 a1 0 []).bind fun z=>
 some z
abbrev qJs:Type:=Int×Bool×(List zB)×(List zB)×(List zB)
abbrev qOc:Type:=Int→Bool→Int→List zB→List zB→List zB→Option qJs
def DB (k:Nat)(rec:qOc)(s7:Int)(s9:Bool)(aw:Int)(r0 r1 r2:List zB):Option qJs:=
 bif decide (aw < (r2.length : Int)) then (bif s9 then (bif zC aw r2.length then(rec s7 (decide ((r2.getD aw.toNat (0,0,0,0,0,0,0)).2.2.2.2.1=3)) (zA (aw+1)) r0 r1 r2)
   else none)
  else rec s7 false (zA (aw+1)) r0 r1 r2)
 else some (s7,s9,r0,r1,r2)
def DA (k:Nat):Nat→qOc
 |0,_,_,_,_,_,_=>none
 |n+1,s7,s9,aw,r0,r1,r2=>DB k (DA k n) s7 s9 aw r0 r1 r2
abbrev qKd:Type:=List zB
abbrev qN8:Type:=Int→List zB→List zB→Option qKd
def DC (k:Nat)(rec:qN8)(s7:Int)(r0 r1:List zB):Option qKd:=
 bif decide (s7 < (r0.length : Int)) then (bif zC s7 r0.length then ((sQ k r0 (r0.getD s7.toNat (0,0,0,0,0,0,0)).2.1).bind fun x1=>
   (DA k k s7 true 0 r0 r1 x1).bind fun z=>
   bif zC 0 z.2.2.2.2.length then (bif zC z.1 z.2.2.1.length then (bif (decide ((z.2.2.2.2.getD 0 (0, 0, 0, 0, 0, 0, 0)).1 = (z.2.2.1.getD z.1.toNat (0, 0, 0, 0, 0, 0, 0)).1)) && ((decide ((z.2.2.2.2.getD 0 (0, 0, 0, 0, 0, 0, 0)).2.1 = (z.2.2.1.getD z.1.toNat (0, 0, 0, 0, 0, 0, 0)).2.1)) && ((decide ((z.2.2.2.2.getD 0 (0, 0, 0, 0, 0, 0, 0)).2.2.1 = (z.2.2.1.getD z.1.toNat (0, 0, 0, 0, 0, 0, 0)).2.2.1)) && ((decide ((z.2.2.2.2.getD 0 (0, 0, 0, 0, 0, 0, 0)).2.2.2.1 = (z.2.2.1.getD z.1.toNat (0, 0, 0, 0, 0, 0, 0)).2.2.2.1)) && ((decide ((z.2.2.2.2.getD 0 (0, 0, 0, 0, 0, 0, 0)).2.2.2.2.1 = (z.2.2.1.getD z.1.toNat (0, 0, 0, 0, 0, 0, 0)).2.2.2.2.1)) && ((decide ((z.2.2.2.2.getD 0 (0, 0, 0, 0, 0, 0, 0)).2.2.2.2.2.1 = (z.2.2.1.getD z.1.toNat (0, 0, 0, 0, 0, 0, 0)).2.2.2.2.2.1)) && (decide ((z.2.2.2.2.getD 0 (0, 0, 0, 0, 0, 0, 0)).2.2.2.2.2.2 = (z.2.2.1.getD z.1.toNat (0, 0, 0, 0, 0, 0, 0)).2.2.2.2.2.2))))))) then (bif zC z.1 z.2.2.1.length then (bif zO (z.2.2.2.1.length + 1) 56 then (let y0:List zB:=(z.2.2.2.1++[(z.2.2.1.getD z.1.toNat (0,0,0,0,0,0,0))])
        rec (zA (z.1+1)) z.2.2.1 y0)
       else none)
      else none)
     else bif z.2.1 then (bif zC z.1 z.2.2.1.length then (bif zO (z.2.2.2.1.length + 1) 56 then (let y1:List zB:=(z.2.2.2.1++[(z.2.2.1.getD z.1.toNat (0,0,0,0,0,0,0))])
        rec (zA (z.1+1)) z.2.2.1 y1)
       else none)
      else none)
     else rec (zA (z.1+1)) z.2.2.1 z.2.2.2.1)
    else none)
   else none)
  else none)
 else some r1
def Im (k:Nat):Nat→qN8
 |0,_,_,_=>none
 |n+1,s7,r0,r1=>DC k (Im k n) s7 r0 r1
def Il (k:Nat)(a0:List zB)(a1:Int):Option (List zB):=
 (Dx k a0 a1).bind fun x0=>
 (Im k k 0 x0 []).bind fun z1=>
 some z1
def Tu (k:Nat)(au:List zK)(aA:EQ)(az:AC)(ax:EQ)(gi cp dj dV dm hZ ic:Int):Option Bool:=
 bif decide (cp ≥ 0) then (bif decide (cp < (au.length : Int)) then (bif decide (dj ≥ 0) then (bif decide (dj < (au.length : Int)) then (bif !(decide (cp = dj)) then (bif decide (dV ≥ 1) then (bif decide (dV ≤ 1099511627776) then (bif decide (dm≥1) then some (decide (dm≤3))
        else some false)
       else some false)
      else some false)
     else some false)
    else some false)
   else some false)
  else some false)
 else some false
abbrev qYf:Type:=(List zB)⊕Bool
abbrev qLr:Type:=List zB→Int→List zK→EQ→AC→EQ→Option qYf
def CU (k:Nat)(rec:qLr)(s1:List zB)(s5:Int)(af:List zK)(ah:EQ)(ak:AC)(ag:EQ):Option qYf:=
 bif decide (s5 < (s1.length : Int)) then (bif zC s5 s1.length then ((Tu k af ah ak ag (s1.getD s5.toNat (0,0,0,0,0,0,0)).1 (s1.getD s5.toNat (0,0,0,0,0,0,0)).2.1 (s1.getD s5.toNat (0,0,0,0,0,0,0)).2.2.1 (s1.getD s5.toNat (0,0,0,0,0,0,0)).2.2.2.1 (s1.getD s5.toNat (0,0,0,0,0,0,0)).2.2.2.2.1 (s1.getD s5.toNat (0,0,0,0,0,0,0)).2.2.2.2.2.1 (s1.getD s5.toNat (0,0,0,0,0,0,0)).2.2.2.2.2.2).bind fun x0=>
   bif !x0 then some (.inr false)
   else rec s1 (zA (s5+1)) af ah ak ag)
  else none)
 else some (.inl s1)
def HZ (k:Nat):Nat→qLr
 |0,_,_,_,_,_,_=>none
 |n+1,s1,s5,af,ah,ak,ag=>CU k (HZ k n) s1 s5 af ah ak ag
def HY (k:Nat)(au:List zK)(aA:EQ)(az:AC)(ax:EQ)(a1:List zB):Option Bool:=
 (HZ k k a1 0 au aA az ax).bind fun z=>
 match z with
 |.inl z1=>some (decide ((z1.length:Int)≤64))
 |.inr z2=>some z2
abbrev qLu:Type:=EQ→Int→EQ→Option EQ
def CM (k:Nat)(rec:qLu)(s0:EQ)(s4:Int)(m0:EQ):Option EQ:=
 bif decide (s4 < (s0.length : Int)) then (bif zC s4 s0.length then (bif zO (0 + (s0.getD s4.toNat []).length) 8 then (bif zO (m0.length+1) 24 then(rec s0 (zA (s4+1)) (m0++[(s0.getD s4.toNat [])]))
    else none)
   else none)
  else none)
 else some m0
def HN (k:Nat):Nat→qLu
 |0,_,_,_=>none
 |n+1,s0,s4,m0=>CM k (HN k n) s0 s4 m0
def HO (k:Nat)(a0:EQ):Option EQ:=
 (HN k k a0 0 []).bind fun z=>
 some z
def nC (k:Nat)(au:List zK)(aA:EQ)(az:AC)(ax:EQ):Option J8:=
 bif zO (0 + au.length) 24 then ((HO k aA).bind fun x0=>
  bif zO (0 + az.length) 8 then ((HO k ax).bind fun x1=>
   some (au,x0,az,x1))
  else none)
 else none
abbrev qLd:Type:=List zB→Int→Int→Int→Int→Option vJ
def CZ (k:Nat)(rec:qLd)(s0:List zB)(s1 s6 s7 s8:Int):Option vJ:=
 bif decide (s8 < (s0.length : Int)) then (bif zC s8 s0.length then (bif !(decide ((s0.getD s8.toNat (0,0,0,0,0,0,0)).2.1=s1)) then(rec s0 s1 s6 s7 (zA (s8+1)))
   else bif zC s8 s0.length then (bif decide ((s0.getD s8.toNat (0, 0, 0, 0, 0, 0, 0)).2.2.2.2.1 = 3) then (bif zC s8 s0.length then(rec s0 s1 (zA (s6+(s0.getD s8.toNat (0,0,0,0,0,0,0)).2.2.2.1)) s7 (zA (s8+1)))
     else none)
    else bif zC s8 s0.length then(rec s0 s1 s6 (zA (s7+(s0.getD s8.toNat (0,0,0,0,0,0,0)).2.2.2.1)) (zA (s8+1)))
    else none)
   else none)
  else none)
 else some (s6,s7)
def H3 (k:Nat):Nat→qLd
 |0,_,_,_,_,_=>none
 |n+1,s0,s1,s6,s7,s8=>CZ k (H3 k n) s0 s1 s6 s7 s8
def H2 (k:Nat)(a0:List zB)(a1:Int):Option vJ:=
 (H3 k k a0 a1 0 0 0).bind fun z=>
 some (z.1,z.2)
def L9 (k:Nat)(a0:List zB)(a1:Int):Option Int:=
 (H2 k a0 a1).bind fun x0=>
 some x0.2
def C3 (k:Nat)(g9 hY eI a1:Int):Option Int:=
 bif decide (a1≥eI) then some 0
 else some (zA (eI-a1))
end Go.Ab.Gi
