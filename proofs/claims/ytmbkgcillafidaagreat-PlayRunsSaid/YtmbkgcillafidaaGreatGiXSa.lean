/- part 6 -/
import Derived.Test.YtmbkgcillafidaaGreatGiAbD
set_option linter.unusedVariables false
set_option maxRecDepth 100000
abbrev Go.Ab.Ty.i:Go.Ab.Ty:=.int .i64
abbrev Go.Ab.CS.i:Go.Ab.CS:=.int .i64
abbrev Go.Ab.PC.i:Go.Ab.PC:=.int .i64
abbrev Go.Ab.RC.i:Go.Ab.RC:=.int .i64
namespace Go.Ab.Gi
abbrev aka:Int×Int×(List Int)×Int×Int:=(0,0,[],0,0)
abbrev ala:Int×Int×Int:=(0,0,0)
abbrev ama:Int×Int×Int×Int×Int×Int×Int:=(0,0,0,0,0,0,0)
abbrev ana:Int×Int×Int×Int×Int×Int×Int×Int:=(0,0,0,0,0,0,0,0)
abbrev AC:=List Int
abbrev EQ:=List AC
abbrev wZ:Type:=AC×AC×Int×Int×Int×Int×Int×Int×Bool×Bool
abbrev jB:Type:=AC×Bool
abbrev wK:Go.Ab.Ty:=.pair .i .i
abbrev vS:Type:=Int×AC×Int×AC×Int×Int×Int×Bool×Bool×Int
abbrev eX:Type:=Int×Bool
abbrev mQ:Type:=Int×Int×AC×Int×Int
abbrev fO:Type:=Int×Int×Bool×Bool
abbrev yS:Type:=Int×Int×Bool
abbrev wA:Type:=Int×Int×Int×Bool
abbrev A2:Type:=Int×Int×Int×Int×Int×Bool×Bool×Int
abbrev A0:Type:=Int×Int×Int×Int×Int×Int×Bool×Bool
abbrev zW:Type:=Int×Int×Int×Int×Int×Int×Int×Int
abbrev zD:Type:=Int×Int×Int×Int×Int×Int×Int
abbrev Ow:Type:=Int×Int×Int×Int×Int×Int
abbrev zK:Type:=Int×Int×Int
abbrev vW:Type:=Int×Int
abbrev qQv:Type:=(List zD)×Int×Int×Int×Int×Int×Int×Int×Int
abbrev tI:Type:=(List zK)×EQ×AC×EQ×(List zD)×(List zD)
abbrev AY:Type:=(List zK)×EQ×AC×EQ
abbrev qT:Go.Ab.Ty:=.pair .i wK
abbrev vQb:Go.Ab.Ty:=.pair (.sl (.int .u8)) wK
abbrev yOm:Type:=Bool×Int×Int×Int×Int×Int×Int×Int×Int×Int×Int×Int×Int×Int×Int×(List zK)×EQ×AC×EQ
abbrev Uf:Type:=Int×(List zK)×EQ×AC×EQ×AC×EQ×(List zD)×AC×Int×Bool×(List zW)
abbrev Uh:Type:=Int×(List zK)×EQ×AC×EQ×AC×EQ×(List zD)×AC×Int×Bool×Bool
abbrev yA:Type:=Int×(List zK)×EQ×AC×EQ×AC×EQ×(List zD)×AC×Int×Bool
abbrev wu:Type:=Int×(List vW)×Int×Int×Int×Int×(List zK)×EQ×AC×EQ×AC×EQ×(List zD)×AC×Int×Bool×Int×(List zW)×Int
abbrev jS:Type:=Int×(List vW)×Int×Int×Int×Int×(List zK)×EQ×AC×EQ×AC×EQ×(List zD)×AC×Int×Bool×Int×(List zW)
abbrev iO:Type:=Int×(List vW)×Int×Int×Int×Int×(List zK)×EQ×AC×EQ×AC×EQ×(List zD)×AC×Int×Bool×Int×Bool
abbrev rR:Type:=Int×(List vW)×Int×Int×Int×Int×(List zK)×EQ×AC×EQ×AC×EQ×(List zD)×AC×Int×Bool×Int×Int
abbrev lV:Type:=Int×(List vW)×Int×Int×Int×Int×(List zK)×EQ×AC×EQ×AC×EQ×(List zD)×AC×Int×Bool×Int
abbrev qW:Type:=Int×(List vW)×Int×Int×Int
abbrev ajg:Go.Ab.Ty:=.pair .i qT
abbrev ajh:Go.Ab.Ty:=.pair .i vQb
abbrev aji:Go.Ab.Ty:=.pair .i ajg
abbrev tF:Go.Ab.Ty:=.pair .i ajh
abbrev ajj:Go.Ab.Ty:=.pair .i aji
abbrev zG:Go.Ab.Ty:=.pair .i ajj
abbrev qK:Go.Ab.Ty:=.pair .i zG
abbrev yCp:List Go.Ab.CS:=[.dat false .i,.dat false .i,.dat false (.sl .i)]
abbrev jU:List Go.Ab.CS:=[.dat false qT,.dat false (.sl .i),.dat false .i,.dat false (.sl .i)]
abbrev pK:List Go.Ab.CS:=[.dat true (.int .u8),.bool]
abbrev wI:List Go.Ab.CS:=[.dat true qT,.dat true (.sl .i),.dat true .i,.dat true (.sl .i)]
abbrev lQ:List Go.Ab.CS:=[.i,.dat false qT,.dat false (.sl .i),.dat false .i,.dat false (.sl .i),.dat false .i,.dat false (.sl .i),.dat false zG,.dat false .i,.i,.bool]
abbrev iL:List Go.Ab.CS:=[.i,.dat false wK,.i,.i,.i]
abbrev gO:List Go.Ab.CS:=[.i,.dat true qT,.dat true (.sl .i),.dat true .i,.dat true (.sl .i),.dat true .i,.dat true (.sl .i),.dat true zG,.dat true .i,.i,.bool]
abbrev pI:List Go.Ab.CS:=[.i,.dat true wK,.i,.i,.i]
abbrev qN1:List Go.Ab.CS:=[.i,.dat true wK,.i,.i,.i,.i,.dat true qT,.dat true (.sl .i),.dat true .i,.dat true (.sl .i),.dat true .i,.dat true (.sl .i),.dat true zG,.dat true .i,.i,.bool,.i,.lit (.osl 1001001 none)]
abbrev qYp:List Go.Ab.CS:=[.i,.dat true wK,.i,.i,.i,.i,.dat true qT,.dat true (.sl .i),.dat true .i,.dat true (.sl .i),.dat true .i,.dat true (.sl .i),.dat true zG,.dat true .i,.i,.bool,.i,.lit .nsl]
abbrev qUh:List Go.Ab.CS:=[.i,.dat true wK,.i,.i,.i,.i,.dat true qT,.dat true (.sl .i),.dat true .i,.dat true (.sl .i),.dat true .i,.dat true (.sl .i),.dat true zG,.dat true .i,.i,.bool,.i,.lit .nsl,.i]
abbrev wC:List Go.Ab.CS:=[.i,.i,.i,.i,.i,.i,.i]
abbrev yKy:List Go.Ab.CS:=[.i,.i,.i,.i,.i,.i,.i,.i,.i,.i,.i,.i,.i,.i,.dat true qT,.dat true (.sl .i),.dat true .i,.dat true (.sl .i)]
abbrev TC:List Go.Ab.CS:=[.i,.i,.i,.i,.i,.i,.i,.i,.i,.i,.i,.i,.i,.i,.lit .nsl,.lit .nsl,.lit .nsl,.lit .nsl]
abbrev yNy:List Go.Ab.CS:=[.i,.lit (.osl 1001001 none),.i,.lit (.osl 1001002 none),.i,.i,.i,.bool,.bool,.i]
abbrev yV8:List Go.Ab.CS:=[.i,.lit (.osl 1001002 none),.lit (.osl 1001003 none),.lit (.osl 1001004 none),.lit (.osl 1001005 none),.lit (.osl 1001006 none),.lit (.osl 1001007 none),.lit .nsl,.lit .nsl,.i,.bool]
abbrev yWq:List Go.Ab.CS:=[.i,.lit (.osl 1001003 none),.i,.lit (.osl 1001004 none),.i,.i,.i,.bool,.bool,.i]
abbrev qVl:List Go.Ab.CS:=[.i,.lit (.osl 1001003 none),.lit (.osl 1001004 none),.lit (.osl 1001005 none),.lit (.osl 1001006 none),.lit (.osl 1001007 none),.lit (.osl 1001008 none),.lit (.osl 1001009 none),.lit .nsl,.i,.bool]
abbrev ySw:List Go.Ab.CS:=[.i,.lit (.osl 1001003 none),.lit (.osl 1001004 none),.lit (.osl 1001005 none),.lit (.osl 1001006 none),.lit (.osl 1001007 none),.lit (.osl 1001008 none),.lit .nsl,.lit .nsl,.i,.bool]
abbrev S4:List Go.Ab.CS:=[.i,.lit (.osl 1001003 none),.lit (.osl 1001004 none),.lit (.osl 1001005 none),.lit (.osl 1001006 none),.lit (.osl 1001007 none),.lit .nsl,.lit .nsl,.lit .nsl,.i,.bool]
abbrev Tc:List Go.Ab.CS:=[.i,.lit (.osl 1001004 none),.lit .nsl,.lit .nsl,.lit .nsl,.lit .nsl,.lit .nsl,.lit .nsl,.lit .nsl,.i,.bool]
abbrev jT:List Go.Ab.CS:=[.i,.lit .nsl,.lit .nsl,.lit .nsl,.lit .nsl,.lit .nsl,.lit .nsl,.lit .nsl,.lit .nsl,.i,.bool]
abbrev yI4:List Go.Ab.CS:=[.lit (.osl 1001001 none),.lit (.osl 1001002 none),.i,.i,.i,.i,.i,.i,.bool,.bool]
abbrev yGl:List Go.Ab.CS:=[.lit (.osl 1001002 none),.lit (.osl 1001003 none),.i,.lit .nsl,.lit .nsl,.lit .nsl,.lit .nsl,.lit .nsl,.lit .nsl,.lit .nsl,.lit .nsl,.i,.bool,.bool]
abbrev qV8:List Go.Ab.CS:=[.lit (.osl 1001002 none),.lit (.osl 1001003 none),.lit (.osl 1001004 none)]
abbrev vC6:List Go.Ab.CS:=[.lit (.osl 1001003 none),.lit (.osl 1001004 none),.i,.lit .nsl,.lit .nsl,.lit .nsl,.lit .nsl,.lit .nsl,.lit .nsl,.lit .nsl,.lit .nsl,.i,.bool,.bool]
abbrev tE:List Go.Ab.CS:=[.lit (.osl 1001003 none),.lit (.osl 1001004 none),.lit (.osl 1001005 none),.lit (.osl 1001006 none)]
abbrev yW4:List Go.Ab.CS:=[.lit (.osl 1001004 none),.lit (.osl 1001005 none),.lit (.osl 1001006 none),.lit (.osl 1001007 none)]
abbrev yHc:List Go.Ab.CS:=[.lit (.osl 1001006 none),.lit (.osl 1001007 none),.i,.i,.i,.i,.i,.i,.bool,.bool]
abbrev SR:List Go.Ab.CS:=[.lit (.ptr 1001000 0),.i,.i,.i,.bool]
abbrev AN:List Go.Ab.CS:=[.lit .nsl,.lit .nsl,.i,.lit .nsl,.lit .nsl,.lit .nsl,.lit .nsl,.lit .nsl,.lit .nsl,.lit .nsl,.lit .nsl,.i,.bool,.bool]
abbrev oL:List Go.Ab.CS:=[.lit .nsl,.lit .nsl,.lit .nsl,.lit .nsl]
abbrev TA:List Go.Ab.PC:=[.dat false .i,.dat false .i,.dat false (.sl .i)]
abbrev TQ:List Go.Ab.PC:=[.dat false (.int .u8),.dat false (.int .u8),.i,.i,.i,.i,.i,.i,.bool,.bool]
abbrev jZ:List Go.Ab.PC:=[.dat false qT,.dat false (.sl .i),.dat false .i,.dat false (.sl .i)]
abbrev lv:List Go.Ab.PC:=[.dat true qT,.dat true (.sl .i),.dat true .i,.dat true (.sl .i)]
abbrev N4:List Go.Ab.PC:=[.i,.dat false (.int .u8),.i,.dat false (.int .u8),.i,.i,.i,.bool,.bool,.i]
abbrev nI:List Go.Ab.PC:=[.i,.dat false qT,.dat false (.sl .i),.dat false .i,.dat false (.sl .i),.dat false .i,.dat false (.sl .i),.dat false zG,.dat false .i,.i,.bool]
abbrev ie:List Go.Ab.PC:=[.i,.dat false wK,.i,.i,.i]
abbrev yGc:List Go.Ab.PC:=[.i,.dat false wK,.i,.i,.i,.i,.dat false qT,.dat false (.sl .i),.dat false .i,.dat false (.sl .i),.dat false .i,.dat false (.sl .i),.dat false zG,.dat false .i,.i,.bool,.i,.dat false qK]
abbrev yP8:List Go.Ab.PC:=[.i,.dat false wK,.i,.i,.i,.i,.dat false qT,.dat false (.sl .i),.dat false .i,.dat false (.sl .i),.dat false .i,.dat false (.sl .i),.dat false zG,.dat false .i,.i,.bool,.i,.dat false qK,.i]
abbrev AI:List Go.Ab.PC:=[.i,.dat true qT,.dat true (.sl .i),.dat true .i,.dat true (.sl .i),.dat true .i,.dat true (.sl .i),.dat true zG,.dat true .i,.i,.bool]
abbrev AH:List Go.Ab.PC:=[.i,.dat true wK,.i,.i,.i]
abbrev oK:List Go.Ab.PC:=[.i,.i,.i]
abbrev Oa:List Go.Ab.PC:=[.i,.i,.i,.i,.i,.i]
abbrev vN:List Go.Ab.PC:=[.i,.i,.i,.i,.i,.i,.i]
abbrev AJ:List Go.Ab.PC:=[.i,.i,.i,.i,.i,.i,.i,.i]
abbrev AP:List Go.Ab.RC:=[.fro (.sl (.int .u8))]
abbrev nJ:List Go.Ab.RC:=[.fro qT,.fro (.sl .i),.fro .i,.fro (.sl .i)]
abbrev yH:List Go.Ab.RC:=[.i]
abbrev AK:List Go.Ab.RC:=[.i,.fro qT,.fro (.sl .i),.fro .i,.fro (.sl .i),.fro .i,.fro (.sl .i),.fro zG,.fro .i,.i,.bool]
abbrev lS:List Go.Ab.RC:=[.i,.fro wK,.i,.i,.i,.i,.fro qT,.fro (.sl .i),.fro .i,.fro (.sl .i),.fro .i,.fro (.sl .i),.fro zG,.fro .i,.i,.bool,.i,.own qK]
abbrev Dt:List Go.Ab.RC:=[.i,.fro wK,.i,.i,.i,.i,.fro qT,.fro (.sl .i),.fro .i,.fro (.sl .i),.fro .i,.fro (.sl .i),.fro zG,.fro .i,.i,.bool,.i,.own qK,.i]
abbrev yVl:List Go.Ab.RC:=[.i,.fro wK,.i,.i,.i,.link 1,.i,.fro qT,.fro (.sl .i),.fro .i,.fro (.sl .i),.fro .i,.fro (.sl .i),.fro zG,.fro .i,.i,.bool,.i,.bool]
abbrev pL:List Go.Ab.RC:=[.i,.i,.i,.i,.i,.i,.i]
abbrev qR3:List Go.Ab.RC:=[.i,.i,.i,.i,.i,.i,.i,.i]
abbrev jh:List Go.Ab.RC:=[.i,.own (.int .u8),.i,.own (.int .u8),.i,.i,.i,.bool,.bool,.i]
abbrev qZh:List Go.Ab.RC:=[.i,.own qT,.mat,.own .i,.mat,.own .i,.mat,.own zG,.own .i,.i,.bool]
abbrev SS:List Go.Ab.RC:=[.link 0,.i,.i,.i,.bool]
abbrev TM:List Go.Ab.RC:=[.link 1,.i,.fro wK,.i,.i,.i,.i,.fro qT,.fro (.sl .i),.fro .i,.fro (.sl .i),.fro .i,.fro (.sl .i),.fro zG,.fro .i,.i,.bool,.i,.bool]
abbrev NW:List Go.Ab.RC:=[.link 1,.i,.i,.i,.bool]
abbrev I8:List Go.Ab.RC:=[.link 2,.i,.i,.i,.bool]
abbrev lP:List Go.Ab.RC:=[.own (.int .u8),.own (.int .u8),.i,.i,.i,.i,.i,.i,.bool,.bool]
abbrev yN2:List Go.Ab.RC:=[.own (.sl qK),.own qK,.i,.fro qT,.fro (.sl .i),.fro .i,.fro (.sl .i),.fro .i,.fro (.sl .i),.fro zG,.fro .i,.i,.bool,.bool]
abbrev TL:List Go.Ab.XC:=[.link 1,.p .i,.p (.dat true wK),.p .i,.p .i,.p .i,.p .i,.p (.dat true qT),.p (.dat true (.sl .i)),.p (.dat true .i),.p (.dat true (.sl .i)),.p (.dat true .i),.p (.dat true (.sl .i)),.p (.dat true zG),.p (.dat true .i),.p .i,.p .bool,.p .i,.p .bool]
abbrev NV:List Go.Ab.XC:=[.link 1,.p .i,.p .i,.p .i,.p .bool]
abbrev I7:List Go.Ab.XC:=[.link 2,.p .i,.p .i,.p .i,.p .bool]
abbrev oJ:List Go.Ab.XC:=[.own (.int .u8),.own (.int .u8),.p .i,.p .i,.p .i,.p .i,.p .i,.p .i,.p .bool,.p .bool]
abbrev Jb:List Go.Ab.XC:=[.p (.dat true (.int .u8)),.p .bool]
abbrev lR:List Go.Ab.XC:=[.p .i,.own (.int .u8),.p .i,.own (.int .u8),.p .i,.p .i,.p .i,.p .bool,.p .bool,.p .i]
abbrev yIu:List Go.Ab.XC:=[.p .i,.p (.dat true wK),.p .i,.p .i,.p .i,.link 1,.p .i,.p (.dat true qT),.p (.dat true (.sl .i)),.p (.dat true .i),.p (.dat true (.sl .i)),.p (.dat true .i),.p (.dat true (.sl .i)),.p (.dat true zG),.p (.dat true .i),.p .i,.p .bool,.p .i,.p .bool]
abbrev AT:List Go.Ab.XC:=[.p .i,.p (.dat true wK),.p .i,.p .i,.p .i,.p .i,.p (.dat true qT),.p (.dat true (.sl .i)),.p (.dat true .i),.p (.dat true (.sl .i)),.p (.dat true .i),.p (.dat true (.sl .i)),.p (.dat true zG),.p (.dat true .i),.p .i,.p .bool,.p .i,.own qK]
abbrev AQ:List Go.Ab.XC:=[.p .i,.p (.dat true wK),.p .i,.p .i,.p .i,.p .i,.p (.dat true qT),.p (.dat true (.sl .i)),.p (.dat true .i),.p (.dat true (.sl .i)),.p (.dat true .i),.p (.dat true (.sl .i)),.p (.dat true zG),.p (.dat true .i),.p .i,.p .bool,.p .i,.p (.nil)]
abbrev Ds:List Go.Ab.XC:=[.p .i,.p (.dat true wK),.p .i,.p .i,.p .i,.p .i,.p (.dat true qT),.p (.dat true (.sl .i)),.p (.dat true .i),.p (.dat true (.sl .i)),.p (.dat true .i),.p (.dat true (.sl .i)),.p (.dat true zG),.p (.dat true .i),.p .i,.p .bool,.p .i,.p (.nil),.p .i]
section
variable {A B C D E F G H I J K L M N O P Q R S U V W X Z a b Aa Ab Ac Ad Ae Af Ag Ah Ai Aj Ak Al Am An Ao Ap Aq Ar As At T Y:Type}
abbrev vZ (x:A×B×C×D)(t:T):=(x.1,x.2.1,x.2.2.1,x.2.2.2,t)
abbrev vI (x:A×B×C×D×E)(t:T):=(x.1,vZ x.2 t)
abbrev oM (x:A×B×C×D×E×F)(t:T):=(x.1,vI x.2 t)
abbrev gi (x:A×B×C×D×E×F×G)(t:T):=(x.1,oM x.2 t)
abbrev wm (x:A×B×C×D×E×F×G×H)(t:T):=(x.1,gi x.2 t)
abbrev To (x:A×B×C×D×E×F×G×H×I)(t:T):=(x.1,wm x.2 t)
abbrev wL (x:A×B×C×D×E×F×G×H×I×J)(t:T):=(x.1,To x.2 t)
abbrev vD (x:A×B×C×D×E×F×G×H×I×J×K)(t:T):=(x.1,wL x.2 t)
abbrev Ji (x:A×B×C×D×E×F×G×H×I×J×K×L)(t:T):=(x.1,vD x.2 t)
abbrev vDw (x:A×B×C×D×E×F×G×H×I×J×K×L×M)(t:T):=(x.1,Ji x.2 t)
abbrev N3 (x:A×B×C×D×E×F×G×H×I×J×K×L×M×N)(t:T):=(x.1,vDw x.2 t)
abbrev vEc (x:A×B×C×D×E×F×G×H×I×J×K×L×M×N×O)(t:T):=(x.1,N3 x.2 t)
abbrev ajk (x:A×B×C×D×E×F×G×H×I×J×K×L×M×N×O×P)(t:T):=(x.1,vEc x.2 t)
abbrev vQ (x:A×B×C×D×E×F×G×H×I×J×K×L×M×N×O×P×Q)(t:T):=(x.1,ajk x.2 t)
abbrev jK (x:A×B×C×D×E×F×G×H×I×J×K×L×M×N×O×P×Q×R)(t:T):=(x.1,vQ x.2 t)
abbrev AG (x:A×B×C×D×E×F×G×H×I×J×K×L×M×N×O×P×Q×R×S)(t:T):=(x.1,jK x.2 t)
abbrev vH (x:A×B×C×D×E):=(x.1,x.2.1,x.2.2.1,x.2.2.2.1)
abbrev yC (x:A×B×C×D×E×F):=(x.1,vH x.2)
abbrev nK (x:A×B×C×D×E×F×G):=(x.1,yC x.2)
abbrev vV (x:A×B×C×D×E×F×G×H):=(x.1,nK x.2)
abbrev ig (x:A×B×C×D×E×F×G×H×I):=(x.1,vV x.2)
abbrev Tp (x:A×B×C×D×E×F×G×H×I×J):=(x.1,ig x.2)
abbrev wB (x:A×B×C×D×E×F×G×H×I×J×K):=(x.1,Tp x.2)
abbrev qO (x:A×B×C×D×E×F×G×H×I×J×K×L):=(x.1,wB x.2)
abbrev AO (x:A×B×C×D×E×F×G×H×I×J×K×L×M):=(x.1,qO x.2)
abbrev Ui (x:A×B×C×D×E×F×G×H×I×J×K×L×M×N):=(x.1,AO x.2)
abbrev SZ (x:A×B×C×D×E×F×G×H×I×J×K×L×M×N×O):=(x.1,Ui x.2)
abbrev yZk (x:A×B×C×D×E×F×G×H×I×J×K×L×M×N×O×P):=(x.1,SZ x.2)
abbrev vTn (x:A×B×C×D×E×F×G×H×I×J×K×L×M×N×O×P×Q):=(x.1,yZk x.2)
abbrev lT (x:A×B×C×D×E×F×G×H×I×J×K×L×M×N×O×P×Q×R):=(x.1,vTn x.2)
abbrev jW (x:A×B×C×D×E×F×G×H×I×J×K×L×M×N×O×P×Q×R×S):=(x.1,lT x.2)
abbrev TD (x:A×B×C×D×E×F×G×H×I×J×K×L×M×N×O×P×Q×R×S×U):=(x.1,jW x.2)
abbrev vR (x:A×B×C×D×E)(t:T):=(x.1,x.2.1,x.2.2.1,x.2.2.2.1,t)
abbrev fL (x:A×B×C×D×E×F)(t:T):=(x.1,vR x.2 t)
abbrev jF (x:A×B×C×D×E×F×G)(t:T):=(x.1,fL x.2 t)
abbrev ku (x:A×B×C×D×E×F×G×H)(t:T):=(x.1,jF x.2 t)
abbrev yK8 (x:A×B×C×D×E×F×G×H×I)(t:T):=(x.1,ku x.2 t)
abbrev qRs (x:A×B×C×D×E×F×G×H×I×J)(t:T):=(x.1,yK8 x.2 t)
abbrev vSu (x:A×B×C×D×E×F×G×H×I×J×K)(t:T):=(x.1,qRs x.2 t)
abbrev AW (x:A×B×C×D×E×F×G×H×I×J×K×L)(t:T):=(x.1,vSu x.2 t)
abbrev kA (x:A×B×C×D×E×F×G×H×I×J×K×L×M)(t:T):=(x.1,AW x.2 t)
abbrev vW1 (x:A×B×C×D×E×F×G×H×I×J×K×L×M×N)(t:T):=(x.1,kA x.2 t)
abbrev yA6 (x:A×B×C×D×E×F×G×H×I×J×K×L×M×N×O)(t:T):=(x.1,vW1 x.2 t)
abbrev vTt (x:A×B×C×D×E×F×G×H×I×J×K×L×M×N×O×P)(t:T):=(x.1,yA6 x.2 t)
abbrev ajl (x:A×B×C×D×E×F×G×H×I×J×K×L×M×N×O×P×Q)(t:T):=(x.1,vTt x.2 t)
abbrev yL (x:A×B×C×D×E×F×G×H×I×J×K×L×M×N×O×P×Q×R)(t:T):=(x.1,ajl x.2 t)
abbrev vDx (x:A×B×C×D×E×F×G×H×I×J×K×L×M×N×O×P×Q×R×S)(t:T):=(x.1,yL x.2 t)
abbrev vJ (f:A→B→C→D→Y)(x:A×B×C×D×E):Y:=f x.1 x.2.1 x.2.2.1 x.2.2.2.1
abbrev lU (f:A→B→C→D→E→Y)(x:A×B×C×D×E×F):Y:=vJ (f x.1) x.2
abbrev kz (f:A→B→C→D→E→F→Y)(x:A×B×C×D×E×F×G):Y:=lU (f x.1) x.2
abbrev mM (f:A→B→C→D→E→F→G→Y)(x:A×B×C×D×E×F×G×H):Y:=kz (f x.1) x.2
abbrev mL (f:A→B→C→D→E→F→G→H→Y)(x:A×B×C×D×E×F×G×H×I):Y:=mM (f x.1) x.2
abbrev Tz (f:A→B→C→D→E→F→G→H→I→Y)(x:A×B×C×D×E×F×G×H×I×J):Y:=mL (f x.1) x.2
abbrev ajm (f:A→B→C→D→E→F→G→H→I→J→Y)(x:A×B×C×D×E×F×G×H×I×J×K):Y:=Tz (f x.1) x.2
abbrev tH (f:A→B→C→D→E→F→G→H→I→J→K→Y)(x:A×B×C×D×E×F×G×H×I×J×K×L):Y:=ajm (f x.1) x.2
abbrev Og (f:A→B→C→D→E→F→G→H→I→J→K→L→Y)(x:A×B×C×D×E×F×G×H×I×J×K×L×M):Y:=tH (f x.1) x.2
abbrev qP7 (f:A→B→C→D→E→F→G→H→I→J→K→L→M→Y)(x:A×B×C×D×E×F×G×H×I×J×K×L×M×N):Y:=Og (f x.1) x.2
abbrev Jd (f:A→B→C→D→E→F→G→H→I→J→K→L→M→N→Y)(x:A×B×C×D×E×F×G×H×I×J×K×L×M×N×O):Y:=qP7 (f x.1) x.2
abbrev vXf (f:A→B→C→D→E→F→G→H→I→J→K→L→M→N→O→Y)(x:A×B×C×D×E×F×G×H×I×J×K×L×M×N×O×P):Y:=Jd (f x.1) x.2
abbrev vBx (f:A→B→C→D→E→F→G→H→I→J→K→L→M→N→O→P→Y)(x:A×B×C×D×E×F×G×H×I×J×K×L×M×N×O×P×Q):Y:=vXf (f x.1) x.2
abbrev ajn (f:A→B→C→D→E→F→G→H→I→J→K→L→M→N→O→P→Q→Y)(x:A×B×C×D×E×F×G×H×I×J×K×L×M×N×O×P×Q×R):Y:=vBx (f x.1) x.2
abbrev vQy (f:A→B→C→D→E→F→G→H→I→J→K→L→M→N→O→P→Q→R→Y)(x:A×B×C×D×E×F×G×H×I×J×K×L×M×N×O×P×Q×R×S):Y:=ajn (f x.1) x.2
abbrev aff (f:A→B→C→D→E→F→G→H→I→J→K→L→M→N→O→P→Q→R→S→Y)(x:A×B×C×D×E×F×G×H×I×J×K×L×M×N×O×P×Q×R×S×U):Y:=vQy (f x.1) x.2
abbrev yGy (x:A×B×C×D×E×F×G×H×I×J×K×L×M×N×O×P×Q)(t:T):=vZ x.2.2.2.2.2.2.2.2.2.2.2.2.2 t
abbrev CK (x:A×B×C×D×E×F)(t:T):=vZ x.2.2 t
abbrev ajo (x:A×B×C×D×E×F×G)(t:T):=vZ x.2.2.2 t
abbrev yKd (x:A×B×C×D×E×F×G×H)(t:T):=vZ x.2.2.2.2 t
abbrev vOv (x:A×B×C×D×E×F×G×H×I)(t:T):=vZ x.2.2.2.2.2 t
abbrev afM (x:A×B×C×D×E×F×G×H×I×J×K×L)(t:T):=vZ x.2.2.2.2.2.2.2.2 t
abbrev yRa (x:A×B×C×D×E×F×G×H×I×J×K×L×M×N×O×P×Q)(t:T):=vI x.2.2.2.2.2.2.2.2.2.2.2.2 t
abbrev yBa (x:A×B×C×D×E×F×G×H×I×J×K×L×M×N×O×P×Q)(t:T):=oM x.2.2.2.2.2.2.2.2.2.2.2 t
abbrev vG0 (x:A×B×C×D×E×F×G×H)(t:T):=oM x.2.2 t
abbrev qSk (x:A×B×C×D×E×F×G×H×I×J×K×L×M×N×O×P×Q)(t:T):=gi x.2.2.2.2.2.2.2.2.2.2 t
abbrev yPw (x:A×B×C×D×E×F×G×H)(t:T):=gi x.2 t
abbrev Of (x:A×B×C×D×E×F×G×H×I×J×K)(t:T):=gi x.2.2.2.2 t
abbrev vL2 (x:A×B×C×D×E×F×G×H×I×J×K×L×M×N)(t:T):=gi x.2.2.2.2.2.2.2 t
abbrev yId (x:A×B×C×D×E×F×G×H×I×J×K×L×M×N×O)(t:T):=gi x.2.2.2.2.2.2.2.2 t
abbrev ajp (x:A×B×C×D×E×F×G×H×I×J×K×L)(t:T):=vD x.2 t
abbrev lO (x:A×B×C×D×E×F×G×H×I×J×K×L×M×N×O×P×Q×R)(t:T):=vD x.2.2.2.2.2.2.2 t
abbrev qPr (x:A×B×C×D×E×F×G×H×I×J×K×L×M×N×O×P×Q×R)(t:T):=vDw x.2.2.2.2.2 t
abbrev ai7 (x:A×B×C×D×E×F×G×H×I×J×K×L×M×N×O)(t:T):=N3 x.2 t
abbrev qQx (x:A×B×C×D×E×F×G×H×I×J×K×L×M×N×O×P×Q×R×S)(t:T):=jK x.2 t
abbrev yP0 (x:A×B×C×D×E×F×G×H×I×J×K×L×M×N×O×P×Q×R×S×U):=vH x.2.2.2.2.2.2.2.2.2.2.2.2.2.2.2
abbrev AM (x:A×B×C×D×E×F):=vH x.2
abbrev I9 (x:A×B×C×D×E×F×G×H×I×J×K×L×M×N×O×P×Q×R×S×U×V×W×X×Z×a):=vH x.2.2.2.2.2.2.2.2.2.2.2.2.2.2.2.2.2.2.2.2
abbrev N1 (x:A×B×C×D×E×F×G×H×I×J×K×L×M×N×O×P×Q×R×S×U×V×W×X×Z×a×b):=vH x.2.2.2.2.2.2.2.2.2.2.2.2.2.2.2.2.2.2.2.2.2
abbrev NX (x:A×B×C×D×E×F×G):=vH x.2.2
abbrev agS (x:A×B×C×D×E×F×G×H×I×J×K×L×M×N×O×P×Q×R×S×U×V×W×X×Z×a×b×Aa×Ab×Ac×Ad×Ae×Af×Ag×Ah×Ai×Aj):=vH x.2.2.2.2.2.2.2.2.2.2.2.2.2.2.2.2.2.2.2.2.2.2.2.2.2.2.2.2.2.2.2
abbrev yJe (x:A×B×C×D×E×F×G×H×I×J×K×L×M×N×O×P×Q×R×S×U×V×W×X×Z×a×b×Aa×Ab×Ac×Ad×Ae×Af×Ag×Ah×Ai×Aj×Ak):=vH x.2.2.2.2.2.2.2.2.2.2.2.2.2.2.2.2.2.2.2.2.2.2.2.2.2.2.2.2.2.2.2.2
abbrev vTp (x:A×B×C×D×E×F×G×H×I):=vH x.2.2.2.2
abbrev yNa (x:A×B×C×D×E×F×G×H×I×J×K×L×M×N×O×P×Q×R×S×U×V×W×X×Z×a):=nK x.2.2.2.2.2.2.2.2.2.2.2.2.2.2.2.2.2.2
abbrev vU6 (x:A×B×C×D×E×F×G×H×I×J×K×L×M×N×O×P×Q×R×S×U×V×W×X×Z×a×b):=nK x.2.2.2.2.2.2.2.2.2.2.2.2.2.2.2.2.2.2.2
abbrev vGb (x:A×B×C×D×E×F×G×H×I×J×K×L×M×N×O×P×Q×R×S×U×V×W×X×Z×a×b×Aa):=nK x.2.2.2.2.2.2.2.2.2.2.2.2.2.2.2.2.2.2.2.2
abbrev Jf (x:A×B×C×D×E×F×G×H×I×J×K×L×M×N×O×P×Q×R×S×U×V×W×X×Z×a×b):=vV x.2.2.2.2.2.2.2.2.2.2.2.2.2.2.2.2.2.2
abbrev acE (x:A×B×C×D×E×F×G×H×I×J×K×L×M×N×O×P×Q×R×S×U×V×W×X×Z×a×b×Aa):=vV x.2.2.2.2.2.2.2.2.2.2.2.2.2.2.2.2.2.2.2
abbrev Tm (x:A×B×C×D×E×F×G×H×I):=vV x.2
abbrev qX6 (x:A×B×C×D×E×F×G×H×I×J×K×L×M×N):=vV x.2.2.2.2.2.2
abbrev qNq (x:A×B×C×D×E×F×G×H×I×J×K×L×M×N×O):=vV x.2.2.2.2.2.2.2
abbrev yG7 (x:A×B×C×D×E×F×G×H×I×J×K×L×M×N×O×P×Q×R×S×U×V×W×X×Z×a):=ig x.2.2.2.2.2.2.2.2.2.2.2.2.2.2.2.2
abbrev ac0 (x:A×B×C×D×E×F×G×H×I×J×K×L×M×N×O×P×Q×R×S×U×V×W×X×Z×a×b×Aa×Ab×Ac×Ad×Ae×Af×Ag×Ah×Ai×Aj×Ak×Al×Am×An×Ao×Ap×Aq):=ig x.2.2.2.2.2.2.2.2.2.2.2.2.2.2.2.2.2.2.2.2.2.2.2.2.2.2.2.2.2.2.2.2.2.2
abbrev ahF (x:A×B×C×D×E×F×G×H×I×J×K×L×M×N):=ig x.2.2.2.2.2
abbrev pJ (x:A×B×C×D×E×F×G×H×I×J×K×L):=wB x.2
abbrev Ja (x:A×B×C×D×E×F×G×H×I×J×K×L×M×N×O×P×Q×R×S×U×V×W×X×Z×a×b×Aa×Ab×Ac×Ad×Ae×Af×Ag×Ah×Ai):=wB x.2.2.2.2.2.2.2.2.2.2.2.2.2.2.2.2.2.2.2.2.2.2.2.2
abbrev N2 (x:A×B×C×D×E×F×G×H×I×J×K×L×M×N×O×P×Q×R×S×U×V×W×X×Z×a×b×Aa×Ab×Ac×Ad×Ae×Af×Ag×Ah×Ai×Aj):=wB x.2.2.2.2.2.2.2.2.2.2.2.2.2.2.2.2.2.2.2.2.2.2.2.2.2
abbrev SU (x:A×B×C×D×E×F×G×H×I×J×K×L×M):=wB x.2.2
abbrev agT (x:A×B×C×D×E×F×G×H×I×J×K×L×M×N×O×P×Q×R×S×U×V×W×X×Z×a×b×Aa×Ab×Ac×Ad×Ae×Af×Ag×Ah×Ai×Aj×Ak×Al×Am×An×Ao×Ap×Aq×Ar×As×At):=wB x.2.2.2.2.2.2.2.2.2.2.2.2.2.2.2.2.2.2.2.2.2.2.2.2.2.2.2.2.2.2.2.2.2.2.2
abbrev Tb (x:A×B×C×D×E×F×G×H×I×J×K×L×M×N×O):=wB x.2.2.2.2
abbrev Dv (x:A×B×C×D×E×F×G×H×I×J×K×L×M×N×O×P):=wB x.2.2.2.2.2
abbrev NY (x:A×B×C×D×E×F×G×H×I×J×K×L×M×N×O×P×Q):=wB x.2.2.2.2.2.2
abbrev adh (x:A×B×C×D×E×F×G×H×I×J×K×L×M×N×O×P×Q×R×S×U×V×W×X):=qO x.2.2.2.2.2.2.2.2.2.2.2
abbrev NR (x:A×B×C×D×E×F×G×H×I×J×K×L×M×N):=qO x.2.2
abbrev iJ (x:A×B×C×D×E×F×G×H×I×J×K×L×M×N×O×P×Q):=qO x.2.2.2.2.2
abbrev agv (x:A×B×C×D×E×F×G×H×I×J×K×L×M×N×O×P×Q×R×S):=qO x.2.2.2.2.2.2.2
abbrev acU (x:A×B×C×D×E×F×G×H×I×J×K×L×M×N×O×P×Q×R×S×U×V×W×X×Z×a×b×Aa×Ab×Ac×Ad×Ae×Af):=Ui x.2.2.2.2.2.2.2.2.2.2.2.2.2.2.2.2.2.2
abbrev yRw (x:A×B×C×D×E×F×G×H×I×J×K×L×M×N×O×P×Q×R×S×U):=Ui x.2.2.2.2.2.2
abbrev yTo (x:A×B×C×D×E×F×G×H×I×J×K×L×M×N×O×P×Q×R×S×U×V):=Ui x.2.2.2.2.2.2.2
abbrev agR (x:A×B×C×D×E×F×G×H×I×J×K×L×M×N×O×P×Q×R×S×U×V×W×X×Z×a×b×Aa×Ab×Ac×Ad×Ae):=jW x.2.2.2.2.2.2.2.2.2.2.2.2
abbrev agB (x:A×B×C×D×E×F×G×H×I×J×K×L×M×N×O×P×Q×R×S×U×V×W×X×Z×a×b×Aa×Ab×Ac×Ad×Ae×Af):=jW x.2.2.2.2.2.2.2.2.2.2.2.2.2
abbrev ky (x:A×B×C×D×E×F×G×H×I×J×K×L×M×N×O×P×Q×R×S×U):=jW x.2
abbrev qZj (x:A×B×C×D×E×F×G×H×I×J×K×L×M×N×O×P×Q×R×S×U×V):=jW x.2.2
abbrev Du (x:A×B×C×D×E×F×G×H×I×J×K×L×M×N×O×P×Q×R×S×U×V):=TD x.2
abbrev Jn (x:A×B×C×D×E×F×G×H×I×J×K×L×M×N×O)(t:T):=vR x.2.2.2.2.2.2.2.2.2.2 t
abbrev Ug (x:A×B×C×D×E×F×G×H×I×J×K×L×M×N×O×P×Q×R)(t:T):=vR x.2.2.2.2.2.2.2.2.2.2.2.2.2 t
abbrev iN (x:A×B×C×D×E×F)(t:T):=vR x.2 t
abbrev Ti (x:A×B×C×D×E×F×G)(t:T):=vR x.2.2 t
abbrev ajf (x:A×B×C×D×E×F×G×H×I)(t:T):=vR x.2.2.2.2 t
abbrev vOh (x:A×B×C×D×E×F×G×H×I×J)(t:T):=vR x.2.2.2.2.2 t
abbrev qPk (x:A×B×C×D×E×F×G×H×I×J×K×L×M×N×O×P×Q×R)(t:T):=fL x.2.2.2.2.2.2.2.2.2.2.2.2 t
abbrev vJt (x:A×B×C×D×E×F×G)(t:T):=fL x.2 t
abbrev vX5 (x:A×B×C×D×E×F×G×H×I×J)(t:T):=fL x.2.2.2.2 t
abbrev yL6 (x:A×B×C×D×E×F×G×H×I×J×K×L×M×N×O×P×Q×R)(t:T):=jF x.2.2.2.2.2.2.2.2.2.2.2 t
abbrev Jp (x:A×B×C×D×E×F×G×H×I×J×K)(t:T):=jF x.2.2.2.2 t
abbrev yDa (x:A×B×C×D×E×F×G×H×I×J×K×L×M×N×O×P×Q×R)(t:T):=ku x.2.2.2.2.2.2.2.2.2.2 t
abbrev aie (x:A×B×C×D×E×F×G×H×I×J×K×L×M×N×O×P×Q×R×S×U)(t:T):=ku x.2.2.2.2.2.2.2.2.2.2.2.2 t
abbrev qVk (x:A×B×C×D×E×F×G×H×I)(t:T):=ku x.2 t
abbrev aid (x:A×B×C×D×E×F×G×H×I×J×K×L×M)(t:T):=ku x.2.2.2.2.2 t
abbrev vYw (x:A×B×C×D×E×F×G×H×I×J×K×L×M)(t:T):=yK8 x.2.2.2.2 t
abbrev qQ2 (x:A×B×C×D×E×F×G×H×I×J×K×L×M×N×O×P×Q)(t:T):=AW x.2.2.2.2.2 t
abbrev afO (x:A×B×C×D×E×F×G×H×I×J×K×L×M×N×O×P×Q×R×S×U×V)(t:T):=yA6 x.2.2.2.2.2.2 t
abbrev Sf (x:A×B×C×D×E×F×G×H×I×J×K×L×M×N×O×P×Q×R×S)(t:T):=yL x.2 t
end
def lW:AC:=[0,1,2,2,3,3,3,3,4,4,4,4,4,4,4,4,5,5,5,5,5,5,5,5,5,5,5,5,5,5,5,5,6,6,6,6,6,6,6,6,6,6,6,6,6,6,6,6,6,6,6,6,6,6,6,6,6,6,6,6,6,6,6,6,7,7,7,7,7,7,7,7,7,7,7,7,7,7,7,7,7,7,7,7,7,7,7,7,7,7,7,7,7,7,7,7,7,7,7,7,7,7,7,7,7,7,7,7,7,7,7,7,7,7,7,7,7,7,7,7,7,7,7,7,7,7,7,7,8,8,8,8,8,8,8,8,8,8,8,8,8,8,8,8,8,8,8,8,8,8,8,8,8,8,8,8,8,8,8,8,8,8,8,8,8,8,8,8,8,8,8,8,8,8,8,8,8,8,8,8,8,8,8,8,8,8,8,8,8,8,8,8,8,8,8,8,8,8,8,8,8,8,8,8,8,8,8,8,8,8,8,8,8,8,8,8,8,8,8,8,8,8,8,8,8,8,8,8,8,8,8,8,8,8,8,8,8,8,8,8,8,8,8,8,8,8,8,8,8,8,8,8,8,8,8,8]
abbrev yF1:Type:=(List mQ)×Int
abbrev qUb:Type:=List mQ→Int→Int→Option yF1
def I2 (k:Nat)(rec:qUb):qUb:=fun s0 s3 s4=>
 cond (decide (s4<s0.length)) (cond (decide (s4<200)) (cond (zB s4 s0.length) (rec s0 (zA (s3+((s0.getD s4.toNat aka).2.2.1.length:Int))) (zA (s4+1))) none)<|some (s0,s3))<|some (s0,s3)
def I1 (k:Nat):Nat→qUb:=qY (fun _ _ _=>none) (I2 k)
def SI (k:Nat)(a0:List mQ):Option Bool:=
 (I1 k k a0 0 0).bind fun z=>cond (decide ((z.1.length:Int)>100)) (some true)<|some (decide (z.2>8000))
def Dq (k:Nat)(a0:Int):Option qW:=
 cond (decide ((yM .i64 a0 3)=1)) (some (4,[(100,1000),(7,0)],12,20,100))<|cond (decide ((yM .i64 a0 3)=2)) (some (3,[],20,20,4))<|cond (decide ((yM .i64 a0 3)=3)) (some (3,[(100,1000),(7,0)],0,6,1))<|some (3,[(100,1000),(7,0)],12,20,4)
def qZb (k:Nat)(a0:Int):Option (vS⊕Unit):=
 cond (decide (a0<0)) (some (.inr ()))<|cond (decide (a0>200000)) (some (.inr ()))<|some (.inl (a0,[],0,[],0,0,0,false,false,0))
def tG (k:Nat)(a0 a1 a2:Int):Option Bool:=
 cond (decide (a0≥a1)) (some (decide (a0≤a2)))<|some false
def vKf (k:Nat)(a0:vW):Option Bool:=
 (tG k a0.1 0 1048576).bind fun x0=>cond (!x0) (some true)<|(tG k a0.2 0 10000).bind fun x1=>some (!x1)
abbrev qYt:Type:=List vW→Int→Int→Option (Unit⊕Int)
def vFi (k:Nat)(rec:qYt):qYt:=fun s0 s7 s8=>
 cond (decide (s8<s7)) (cond (zB s8 s0.length) ((vKf k (s0.getD s8.toNat (0,0))).bind fun x0=>cond x0 (some (.inr s8))<|rec s0 s7 (zA (s8+1))) none)<|some (.inl ())
def qSg (k:Nat):Nat→qYt:=qY (fun _ _ _=>none) (vFi k)
def yTd (k:Nat)(a0:List vW):Option Int:=
 (qSg k k a0 (a0.length:Int) 0).bind fun z=>match z with
 |.inl z1=>some (-1)
 |.inr z2=>some z2
def vCb (k:Nat)(a0:List vW):Option Bool:=
 (yTd k a0).bind fun x0=>some (decide (x0≥0))
def IT (k:Nat)(a0:qW):Option Bool:=
 (tG k a0.1 1 6).bind fun x0=>cond x0 ((tG k a0.2.2.2.1 1 1048576).bind fun x1=>cond x1 ((tG k a0.2.2.1 0 a0.2.2.2.1).bind fun x2=>cond x2 ((tG k a0.2.2.2.2 1 1048576).bind fun x3=>cond (decide ((a0.2.1.length : Int)≤3)) (cond x3 ((vCb k a0.2.1).bind fun x4=>some (!x4))<|some false)<|some false)<|cond (decide ((a0.2.1.length:Int)≤3)) (some false)<|some false)<|cond (decide ((a0.2.1.length:Int)≤3)) (some false)<|some false)<|(tG k a0.2.2.2.1 1 1048576).bind fun x5=>cond x5 ((tG k a0.2.2.1 0 a0.2.2.2.1).bind fun x6=>cond x6 ((tG k a0.2.2.2.2 1 1048576).bind fun x7=>some false)<|some false)<|some false
def S2 (k:Nat)(a0:Int):Option Bool:=
 cond (decide (a0≥0)) (some (decide (a0<2)))<|some false
def De (k:Nat)(a0:AC):Option AC:=
 cond (zL (0+a0.length) 1) (some a0) none
def qXx (k:Nat)(a0:vS)(a1:Int):Option AC:=
 (S2 k a1).bind fun x0=>cond (!x0) (some [])<|cond (decide (a1=0)) ((De k a0.2.1).bind fun x1=>some x1)<|cond (decide (a1=1)) ((De k a0.2.2.2.1).bind fun x2=>some x2) none
abbrev qUj:Type:=AC×EQ
abbrev qM0:Type:=AC→EQ→Option qUj
def Sv (k:Nat)(rec:qM0):qM0:=fun s0 r0=>
 cond (decide ((s0.length : Int)≥2)) (cond (zB 0 s0.length) (cond (zB 1 s0.length) (cond (decide ((wV .i64 (shl .i64 (zA ((s0.getD 0 0))) 8) (zA ((s0.getD 1 0))))>60000)) (some (s0,r0))<|cond (decide ((wV .i64 (shl .i64 (zA ((s0.getD 0 0))) 8) (zA ((s0.getD 1 0))))>(zA ((s0.length:Int)-2)))) (some (s0,r0))<|cond ((decide (2≤(zA (2+(wV .i64 (shl .i64 (zA ((s0.getD 0 0))) 8) (zA ((s0.getD 1 0))))))))&&(decide ((zA (2+(wV .i64 (shl .i64 (zA ((s0.getD 0 0))) 8) (zA ((s0.getD 1 0))))))≤(s0.length : Int)))) (cond (zL (0+(qS s0 2 ((zA (2+(wV .i64 (shl .i64 (zA ((s0.getD 0 0))) 8) (zA ((s0.getD 1 0)))))).toNat - 2)).length) 1) (let y0:AC:=(qS s0 2 ((zA (2+(wV .i64 (shl .i64 (zA ((s0.getD 0 0))) 8) (zA ((s0.getD 1 0)))))).toNat-2))
      cond (zL (r0.length+1) 24) (cond ((decide (0≤(zA (2+(wV .i64 (shl .i64 (zA ((s0.getD 0 0))) 8) (zA ((s0.getD 1 0))))))))&&(decide ((zA (2+(wV .i64 (shl .i64 (zA ((s0.getD 0 0))) 8) (zA ((s0.getD 1 0))))))≤(s0.length:Int)))) (rec (List.drop (zA (2+(wV .i64 (shl .i64 (zA ((s0.getD 0 0))) 8) (zA ((s0.getD 1 0)))))).toNat s0) (r0++[y0])) none) none) none) none) none) none)<|some (s0,r0)
def Nw (k:Nat):Nat→qM0:=qY (fun _ _=>none) (Sv k)
def Sy (k:Nat)(a0:AC):Option (EQ×Int):=
 (Nw k k a0 []).bind fun z=>some (z.2,(z.1.length:Int))
abbrev yBh:Type:=AC×Int×AC
abbrev yFp:Type:=AC→Int→AC→Int→Int→AC→Option yBh
def P6 (k:Nat)(rec:yFp):yFp:=fun s0 s5 bE bc gf r0=>
 cond (decide (gf<bc)) (cond (zB gf bE.length) (rec s0 (wV .u64 (shl .u64 s5 8) (IntKind.wrap .u64 ((bE.getD gf.toNat 0)))) bE bc (zA (gf+1)) r0) none)<|some (s0,s5,r0)
def EX (k:Nat):Nat→yFp:=qY (fun _ _ _ _ _ _=>none) (P6 k)
def EZ (k:Nat)(rec:AC→AC→Option AC)(s0 r0:AC):Option AC:=
 cond (decide ((s0.length : Int)>0)) (cond (decide (8≤(s0.length : Int))) ((EX k k s0 0 (List.take 8 s0) ((List.take 8 s0).length:Int) 0 r0).bind fun z=>cond (zL (z.2.2.length+1) 8) (cond (decide (8≤(z.1.length:Int))) (rec (List.drop 8 z.1) (z.2.2++[(zA (z.2.1))])) none) none) none)<|some r0
def EY (k:Nat):Nat→AC→AC→Option AC:=qY (fun _ _=>none) (EZ k)
def qn (k:Nat)(a0:AC):Option (AC×Int):=
 cond (!(decide ((Int.tmod (a0.length:Int) 8)=0))) (some ([],2))<|(EY k k a0 []).bind fun z1=>some (z1,0)
def ID (k:Nat)(a0:vS)(a1:Int):Option (Int×AC×EQ):=
 (qXx k a0 a1).bind fun x0=>(Sy k x0).bind fun x1=>cond (decide ((x1.1.length:Int)=0)) (some (0,[],[]))<|cond (zB 0 x1.1.length) (cond (decide (((x1.1.getD 0 []).length:Int)<8)) (some (0,[],[]))<|cond (zB 0 x1.1.length) (cond (decide (8≤((x1.1.getD 0 []).length : Int))) ((qn k (List.take 8 (x1.1.getD 0 []))).bind fun x2=>cond (zB 0 x2.1.length) (cond (decide ((x2.1.getD 0 0)<1)) (some (0,[],[]))<|cond (zB 0 x2.1.length) (cond (decide ((x2.1.getD 0 0)>4611686018427387904)) (some (0,[],[]))<|cond (zB 0 x2.1.length) (cond (zB 0 x1.1.length) (cond (decide (8≤((x1.1.getD 0 []).length : Int))) (cond (decide (1≤(x1.1.length:Int))) (some ((x2.1.getD 0 0),(List.drop 8 (x1.1.getD 0 [])),(qS x1.1 1 (x1.1.length-1)))) none) none) none) none) none) none) none) none) none
def Nz (k:Nat)(a0:vS):Option (Int×Int×AC×EQ×Bool):=
 (ID k a0 0).bind fun x0=>cond (decide (x0.1>0)) ((ID k a0 1).bind fun x1=>cond (decide (x1.1>x0.1)) (some (x1.1,1,x1.2.1,x1.2.2,true))<|some (x0.1,0,x0.2.1,x0.2.2,true))<|(ID k a0 1).bind fun x2=>cond (decide (x2.1>0)) (some (x2.1,1,x2.2.1,x2.2.2,true))<|some (0,0,[],[],false)
def Lv (k:Nat)(a0:Int):Option Bool:=
 cond (decide (a0≥0)) (some (decide (a0≤6)))<|some false
abbrev qNi:Type:=Int→Int→Int→AC→Option AC
def FP (k:Nat)(rec:qNi):qNi:=fun s1 bm bh r0=>
 cond (decide (bh<bm)) (cond (zB bh r0.length) (rec s1 bm (zA (bh+1)) (r0.set bh.toNat s1)) none)<|some r0
def Lw (k:Nat):Nat→qNi
 |0,_,_,_,_=>none
 |n+1,s1,bm,bh,r0=>FP k (Lw k n) s1 bm bh r0
def Cc (k:Nat)(a0 a1:Int):Option AC:=
 (Lv k a0).bind fun x0=>cond (!x0) (some [])<|cond (pg a0 a0 8) ((Lw k k a1 ((List.replicate a0.toNat (0:Int)).length:Int) 0 (List.replicate a0.toNat (0:Int))).bind fun z=>some z) none
abbrev qTp:Type:=Int→Int→Int→Int→EQ→Option EQ
def FR (k:Nat)(rec:qTp):qTp:=fun s0 s1 bm bh m0=>
 cond (decide (bh<bm)) ((Cc k s0 s1).bind fun x1=>cond (zB bh m0.length) (rec s0 s1 bm (zA (bh+1)) (m0.set bh.toNat x1)) none)<|some m0
def Lx (k:Nat):Nat→qTp
 |0,_,_,_,_,_=>none
 |n+1,s0,s1,bm,bh,m0=>FR k (Lx k n) s0 s1 bm bh m0
def FQ (k:Nat)(a0 a1:Int):Option EQ:=
 (Lv k a0).bind fun x0=>cond (!x0) (some [])<|cond (pg a0 a0 24) ((Lx k k a0 a1 ((List.replicate a0.toNat ([]:AC)).length:Int) 0 (List.replicate a0.toNat ([]:AC))).bind fun z=>some z) none
abbrev qSz:Type:=Int×qW×yS×yS×(List zK)×EQ×AC×EQ×AC
abbrev yGt:Type:=Int→List vW→Int→Int→qW→yS→yS→List zK→EQ→AC→EQ→AC→Option qSz
def yUh (k:Nat)(rec:yGt):yGt:=fun s3 cN s21 Uj b0 b1 b2 r3 m4 r5 m6 r7=>
 cond (decide (Uj<s21)) (cond (zB Uj cN.length) (cond (zL (r7.length+1) 8) (rec s3 cN s21 (zA (Uj+1)) b0 b1 b2 r3 m4 r5 m6 (r7++[(cN.getD Uj.toNat (0,0)).1])) none) none)<|some (s3,b0,b1,b2,r3,m4,r5,m6,r7)
def yG1 (k:Nat):Nat→yGt:=qY (fun _ _ _ _ _ _ _ _ _ _ _ _=>none) (yUh k)
abbrev qQa:Type:=yS×yS×(List zK)×EQ×AC×EQ×AC×EQ
abbrev qTk:Type:=Int→Int→qW→yS→yS→List zK→EQ→AC→EQ→AC→EQ→Option qQa
def vL0 (k:Nat)(rec:qTk):qTk:=fun DC tJ b0 b1 b2 r3 m4 r5 m6 r7 m8=>
 cond (decide (tJ<DC)) (cond (pg (b0.2.1.length : Int) (b0.2.1.length : Int) 8) (cond (zL (m8.length+1) 24) (rec DC (zA (tJ+1)) b0 b1 b2 r3 m4 r5 m6 r7 (m8++[(List.replicate b0.2.1.length (0:Int))])) none) none)<|some (b1,b2,r3,m4,r5,m6,r7,m8)
def qNx (k:Nat):Nat→qTk:=qY (fun _ _ _ _ _ _ _ _ _ _ _=>none) (vL0 k)
def rz (k:Nat)(a0:qW):Option yA:=
 cond (pg a0.1 a0.1 24) ((FQ k a0.1 (-1)).bind fun x0=>(Cc k a0.1 (-1)).bind fun x1=>(FQ k a0.1 0).bind fun x2=>(yG1 k k a0.1 a0.2.1 (a0.2.1.length:Int) 0 a0 (0,0,false) (0,0,false) (List.replicate a0.1.toNat ((0,0,0):Int×Int×Int)) x0 x1 x2 []).bind fun z=>(qNx k k z.1 0 z.2.1 z.2.2.1 z.2.2.2.1 z.2.2.2.2.1 z.2.2.2.2.2.1 z.2.2.2.2.2.2.1 z.2.2.2.2.2.2.2.1 z.2.2.2.2.2.2.2.2 []).bind fun z1=>some (z1.2.1.1,(vG0 z1 ([],[],z1.2.1.2)))) none
def Qg (k:Nat)(a0:Bool):Option Int:=
 cond a0 (some 1)<|some 0
abbrev qZy:Type:=AC×Int×Int×AC
abbrev qV9:Type:=Int→Int→AC→Int→Int→AC→Option qZy
def Qc (k:Nat)(rec:qV9):qV9:=fun s5 s6 aP bM bm r0=>
 cond (decide (s6≥0)) (cond (!(decide ((zA (8 * s6))<0))) (cond (zL (r0.length+1) 1) (rec s5 (zA (s6-1)) aP bM bm (r0++[(IntKind.wrap .u8 ((shr .i64 s5 (zA (8*s6)))))])) none) none)<|some (aP,bM,bm,r0)
def xV (k:Nat):Nat→qV9:=qY (fun _ _ _ _ _ _=>none) (Qc k)
abbrev qOa:Type:=AC→Int→Int→AC→Option AC
def E2 (k:Nat)(rec:qOa):qOa:=fun aP bM bm r0=>
 cond (decide (bm<bM)) (cond (zB bm aP.length) ((xV k k (aP.getD bm.toNat 0) 7 aP bM bm r0).bind fun z=>rec z.1 z.2.1 (zA (z.2.2.1+1)) z.2.2.2) none)<|some r0
def B5 (k:Nat):Nat→qOa:=qY (fun _ _ _ _=>none) (E2 k)
def xW (k:Nat)(a0:AC):Option AC:=
 cond (pg 0 (zA (8 * (a0.length : Int))) 1) ((B5 k k a0 (a0.length:Int) 0 []).bind fun z1=>some z1) none
def Qd (k:Nat)(a0:AC):Option AC:=
 (xW k [(a0.length:Int)]).bind fun x0=>(xW k a0).bind fun x1=>cond (zL (x0.length+x1.length) 1) (some (x0++x1)) none
abbrev qNu:Type:=EQ→Int→Int→AC→Option AC
def E5 (k:Nat)(rec:qNu):qNu:=fun s6 s7 s8 r0=>
 cond (decide (s8<s7)) (cond (zB s8 s6.length) ((Qd k (s6.getD s8.toNat [])).bind fun x0=>cond (zL (r0.length+x0.length) 1) (rec s6 s7 (zA (s8+1)) (r0++x0)) none) none)<|some r0
def E4 (k:Nat):Nat→qNu:=qY (fun _ _ _ _=>none) (E5 k)
def KW (k:Nat)(a0:EQ):Option AC:=
 (E4 k k a0 (a0.length:Int) 0 []).bind fun z=>some z
abbrev qY8:Type:=yA×AY×EQ
abbrev yEb:Type:=List zK→Int→Int→yA→AY→EQ→Option qY8
def E6 (k:Nat)(rec:yEb):yEb:=fun lX gP ju b0 b1 r2=>
 cond (decide (ju<gP)) (cond (zB ju lX.length) (cond (zL (r2.length+1) 24) (let y0:EQ:=(r2++[[(lX.getD ju.toNat ala).1,(lX.getD ju.toNat ala).2.1,(lX.getD ju.toNat ala).2.2]])
    rec lX gP (zA (ju+1)) b0 b1 y0) none) none)<|some (b0,b1,r2)
def B6 (k:Nat):Nat→yEb:=qY (fun _ _ _ _ _ _=>none) (E6 k)
abbrev qUo:Type:=yA×EQ
abbrev yFk:Type:=List zD→Int→Int→yA→EQ→Option qUo
def E7 (k:Nat)(rec:yFk):yFk:=fun wx s80 tK b0 r1=>
 cond (decide (tK<s80)) (cond (zB tK wx.length) (cond (zL (r1.length+1) 24) (let y3:EQ:=(r1++[[(wx.getD tK.toNat ama).1,(wx.getD tK.toNat ama).2.1,(wx.getD tK.toNat ama).2.2.1,(wx.getD tK.toNat ama).2.2.2.1,(wx.getD tK.toNat ama).2.2.2.2.1,(wx.getD tK.toNat ama).2.2.2.2.2.1,(wx.getD tK.toNat ama).2.2.2.2.2.2]])
    rec wx s80 (zA (tK+1)) b0 y3) none) none)<|some (b0,r1)
def B7 (k:Nat):Nat→yFk:=qY (fun _ _ _ _ _=>none) (E7 k)
def kl (k:Nat)(a0:yA):Option AC:=
 (Qg k a0.2.2.2.2.2.2.2.2.2.2).bind fun x0=>(B6 k k a0.2.1 (a0.2.1.length:Int) 0 a0 (AM a0) [[a0.1,a0.2.2.2.2.2.2.2.2.2.1,x0,(a0.2.1.length:Int),(a0.2.2.1.length:Int),(a0.2.2.2.1.length:Int),(a0.2.2.2.2.1.length:Int),(a0.2.2.2.2.2.2.1.length:Int),(a0.2.2.2.2.2.2.2.1.length:Int)]]).bind fun z=>cond (zL (z.2.2.length+z.2.1.2.1.length) 24) (cond (zL ((z.2.2++z.2.1.2.1).length+1) 24) (let y1:EQ:=((z.2.2++z.2.1.2.1)++[z.2.1.2.2.1])
   cond (zL (y1.length+z.2.1.2.2.2.length) 24) (cond (zL ((y1++z.2.1.2.2.2).length+1) 24) (let y2:EQ:=((y1++z.2.1.2.2.2)++[z.1.2.2.2.2.2.1])
     cond (zL (y2.length+z.1.2.2.2.2.2.2.1.length) 24) ((B7 k k z.1.2.2.2.2.2.2.2.1 (z.1.2.2.2.2.2.2.2.1.length:Int) 0 z.1 (y2++z.1.2.2.2.2.2.2.1)).bind fun z1=>cond (zL (z1.2.length+1) 24) (let y4:EQ:=(z1.2++[z1.1.2.2.2.2.2.2.2.2.1])
       (KW k y4).bind fun x1=>some x1) none) none) none) none) none) none
def KT (k:Nat)(a0:AC):Option jB:=
 cond (decide ((a0.length:Int)>60000)) (some ([],false))<|cond (zL (2+a0.length) 1) (some (([(IntKind.wrap .u8 ((shr .i64 (a0.length:Int) 8))),(IntKind.wrap .u8 ((a0.length:Int)))]++a0),true)) none
def RE (k:Nat)(a0:vS):Option Int:=
 some a0.1
def rC (k:Nat)(a0:vS):Option Bool:=
 some a0.2.2.2.2.2.2.2.2.1
def fJ (k:Nat)(a0:vS):Option (Bool×vS):=
 cond (!a0.2.2.2.2.2.2.2.1) (some (false,(qRs a0 (zA (a0.2.2.2.2.2.2.2.2.2+1)))))<|cond (decide (a0.2.2.2.2.2.2.2.2.2<a0.2.2.2.2.2.1)) (some (false,(qRs a0 (zA (a0.2.2.2.2.2.2.2.2.2+1)))))<|cond ((decide (0≤(zA (a0.2.2.1+(yI true (yI false a0.2.2.2.2.2.2.1 0) (zA ((a0.2.1.length : Int) - a0.2.2.1)))))))&&(decide ((zA (a0.2.2.1+(yI true (yI false a0.2.2.2.2.2.2.1 0) (zA ((a0.2.1.length : Int) - a0.2.2.1)))))≤(a0.2.1.length : Int)))) (cond ((decide (0≤(zA (a0.2.2.2.2.1+(yI true (zA ((yI false a0.2.2.2.2.2.2.1 0)-(yI true (yI false a0.2.2.2.2.2.2.1 0) (zA ((a0.2.1.length:Int)-a0.2.2.1))))) (zA ((a0.2.2.2.1.length:Int)-a0.2.2.2.2.1)))))))&&(decide ((zA (a0.2.2.2.2.1+(yI true (zA ((yI false a0.2.2.2.2.2.2.1 0)-(yI true (yI false a0.2.2.2.2.2.2.1 0) (zA ((a0.2.1.length:Int)-a0.2.2.1))))) (zA ((a0.2.2.2.1.length:Int)-a0.2.2.2.2.1)))))≤(a0.2.2.2.1.length:Int)))) (some (true,a0.1,(List.take ((zA (a0.2.2.1+(yI true (yI false a0.2.2.2.2.2.2.1 0) (zA ((a0.2.1.length:Int)-a0.2.2.1))))).toNat-0) a0.2.1),(zA (a0.2.2.1+(yI true (yI false a0.2.2.2.2.2.2.1 0) (zA ((a0.2.1.length:Int)-a0.2.2.1))))),(List.take ((zA (a0.2.2.2.2.1+(yI true (zA ((yI false a0.2.2.2.2.2.2.1 0)-(yI true (yI false a0.2.2.2.2.2.2.1 0) (zA ((a0.2.1.length:Int)-a0.2.2.1))))) (zA ((a0.2.2.2.1.length:Int)-a0.2.2.2.2.1))))).toNat-0) a0.2.2.2.1),(zA (a0.2.2.2.2.1+(yI true (zA ((yI false a0.2.2.2.2.2.2.1 0)-(yI true (yI false a0.2.2.2.2.2.2.1 0) (zA ((a0.2.1.length:Int)-a0.2.2.1))))) (zA ((a0.2.2.2.1.length:Int)-a0.2.2.2.2.1))))),a0.2.2.2.2.2.1,a0.2.2.2.2.2.2.1,a0.2.2.2.2.2.2.2.1,true,a0.2.2.2.2.2.2.2.2.2)) none) none
def Hm (k:Nat)(a0:vS)(a1:Int):Option (Int×vS):=
 (rC k a0).bind fun x0=>cond x0 (some (11,a0))<|(S2 k a1).bind fun x1=>cond (!x1) (some (1,a0))<|(fJ k a0).bind fun x2=>cond x2.1 (some (11,x2.2))<|cond (decide (a1=0)) (cond (decide (a1=0)) (some (0,x2.2.1,[],0,x2.2.2.2.2))<|cond (decide (a1=1)) (some (0,x2.2.1,[],x2.2.2.2.1,x2.2.2.2.2.1,0,x2.2.2.2.2.2.2)) none)<|cond (decide (a1=1)) (cond (decide (a1=0)) (some (0,x2.2.1,x2.2.2.1,0,[],x2.2.2.2.2.2))<|cond (decide (a1=1)) (some (0,x2.2.1,x2.2.2.1,x2.2.2.2.1,[],0,x2.2.2.2.2.2.2)) none) none
def vk (k:Nat)(a0:vS)(a1:Int)(a2:AC):Option (Int×vS):=
 (rC k a0).bind fun x0=>cond x0 (some (11,a0))<|(S2 k a1).bind fun x1=>cond (!x1) (some (1,a0))<|cond (decide (a1=0)) (cond (decide ((a2.length:Int)>(zA (a0.1-(a0.2.1.length:Int))))) (some (3,a0))<|(fJ k a0).bind fun x2=>cond x2.1 (some (11,x2.2))<|cond (decide (a1=0)) (cond (zL (x2.2.2.1.length+a2.length) 1) (some (0,x2.2.1,(x2.2.2.1++a2),x2.2.2.2)) none)<|cond (decide (a1=1)) (cond (zL (x2.2.2.2.2.1.length+a2.length) 1) (some (0,x2.2.1,x2.2.2.1,x2.2.2.2.1,(x2.2.2.2.2.1++a2),x2.2.2.2.2.2)) none) none)<|cond (decide (a1=1)) (cond (decide ((a2.length:Int)>(zA (a0.1-(a0.2.2.2.1.length:Int))))) (some (3,a0))<|(fJ k a0).bind fun x3=>cond x3.1 (some (11,x3.2))<|cond (decide (a1=0)) (cond (zL (x3.2.2.1.length+a2.length) 1) (some (0,x3.2.1,(x3.2.2.1++a2),x3.2.2.2)) none)<|cond (decide (a1=1)) (cond (zL (x3.2.2.2.2.1.length+a2.length) 1) (some (0,x3.2.1,x3.2.2.1,x3.2.2.2.1,(x3.2.2.2.2.1++a2),x3.2.2.2.2.2)) none) none) none
def tp (k:Nat)(a0:vS):Option (Int×vS):=
 (rC k a0).bind fun x0=>cond x0 (some (11,a0))<|(fJ k a0).bind fun x1=>cond x1.1 (some (11,x1.2))<|some (0,x1.2.1,x1.2.2.1,(x1.2.2.1.length:Int),x1.2.2.2.2.1,(x1.2.2.2.2.1.length:Int),x1.2.2.2.2.2.2)
def za (k:Nat)(a0:vS)(a1 a2:Int)(a3:AC):Option (Int×vS):=
 (xW k [a2]).bind fun x0=>cond (zL (x0.length+a3.length) 1) ((KT k (x0++a3)).bind fun x1=>cond (!x1.2) (some (10,a0))<|cond (decide (a2>4611686018427387904)) (some (10,a0))<|(RE k a0).bind fun x2=>cond (decide (x1.1.length>x2)) (some (10,a0))<|(Hm k a0 a1).bind fun x3=>cond (!(decide (x3.1=0))) (some (x3.1,x3.2))<|(vk k x3.2 a1 x1.1).bind fun x4=>cond (!(decide (x4.1=0))) (some (x4.1,x4.2))<|(tp k x4.2).bind fun x5=>some (x5.1,x5.2)) none
def qW9 (k:Nat)(a0:vS)(a1:AC):Option ((AC×EQ×Int×vS×wA)⊕(AC×EQ×Int×vS)):=
 (Nz k a0).bind fun x0=>cond x0.2.2.2.2 (some (.inl (x0.2.2.1,x0.2.2.2.1,0,a0,x0.2.1,x0.1,(x0.2.2.2.1.length:Int),true)))<|(za k a0 0 1 a1).bind fun x1=>cond (!(decide (x1.1=0))) (some (.inr ([],[],x1.1,x1.2)))<|cond (zL (0+a1.length) 1) (some (.inl (a1,[],0,x1.2,0,1,0,false))) none
def Sq (k:Nat)(a0:AC):Option (AC×AC×Bool):=
 cond (decide ((a0.length:Int)<8)) (some ([],[],false))<|cond (decide (8≤(a0.length : Int))) ((qn k (List.take 8 a0)).bind fun x0=>cond (decide (8≤(a0.length : Int))) (cond (zB 0 x0.1.length) (cond (decide ((x0.1.getD 0 0)<0)) (some ([],[],false))<|cond (zB 0 x0.1.length) (cond (decide ((x0.1.getD 0 0)>(zA (Int.tdiv ((List.drop 8 a0).length:Int) 8)))) (some ([],[],false))<|cond (zB 0 x0.1.length) (cond ((decide (0≤(zA (8 * (x0.1.getD 0 0)))))&&(decide ((zA (8 * (x0.1.getD 0 0)))≤((List.drop 8 a0).length : Int)))) ((qn k (List.take (zA (8*(x0.1.getD 0 0))).toNat (List.drop 8 a0))).bind fun x1=>cond ((decide (0≤(zA (8*(x0.1.getD 0 0)))))&&(decide ((zA (8*(x0.1.getD 0 0)))≤((List.drop 8 a0).length:Int)))) (some (x1.1,(List.drop (zA (8*(x0.1.getD 0 0))).toNat (List.drop 8 a0)),true)) none) none) none) none) none) none) none
def Ay (k:Nat)(a0:jB):Option (AC×jB):=
 (Sq k a0.1).bind fun x0=>cond a0.2 (some (x0.1,x0.2.1,true))<|some (x0.1,x0.2.1,(!x0.2.2))
def wc (k:Nat)(a0:jB)(a1:Int):Option (AC×jB):=
 (Ay k a0).bind fun x0=>cond (!(decide ((x0.1.length : Int)=a1))) (cond (pg a1 a1 8) (some ((List.replicate a1.toNat (0:Int)),x0.2.1,true)) none)<|some (x0.1,x0.2)
abbrev yAw:Type:=jB×EQ
abbrev yD5:Type:=Int→jB→EQ→Option yAw
def IH (k:Nat)(rec:yD5):yD5:=fun s1 b0 r1=>
 cond (decide (s1>0)) (cond (!b0.2) ((Ay k b0).bind fun x0=>cond (zL (r1.length+1) 24) (rec (zA (s1-1)) x0.2 (r1++[x0.1])) none)<|some (b0,r1))<|some (b0,r1)
def IG (k:Nat):Nat→yD5:=qY (fun _ _ _=>none) (IH k)
def IE (k:Nat)(a0:jB)(a1:Int):Option (EQ×jB):=
 (IG k k a1 a0 []).bind fun z=>some (z.2,z.1)
def yX8 (k:Nat)(a0 a1:AC):Option Bool:=
 some (oR a0 a1)
abbrev yAg:Type:=AC×yS×jB×AC×yS×(List zK)
abbrev yGf:Type:=AC→Int→yS→jB→AC→yS→List zK→Option yAg
def IK (k:Nat)(rec:yGf):yGf:=fun s0 s7 b0 b1 r2 b3 r4=>
 cond (decide (s7>0)) (cond (!b1.2) ((wc k b1 3).bind fun x1=>cond (zB 0 x1.1.length) (cond (zB 1 x1.1.length) (cond (zB 2 x1.1.length) (cond (zL (r4.length+1) 24) (let y0:List zK:=(r4++[((x1.1.getD 0 0),(x1.1.getD 1 0),(x1.1.getD 2 0))])
       rec s0 (zA (s7-1)) b0 x1.2 r2 b3 y0) none) none) none) none)<|some (s0,b0,b1,r2,b3,r4))<|some (s0,b0,b1,r2,b3,r4)
def Df (k:Nat):Nat→yGf:=qY (fun _ _ _ _ _ _ _=>none) (IK k)
abbrev yDc:Type:=AC×yS×jB×yS×(List zK)×EQ×AC×EQ×AC×EQ×(List zD)
abbrev qRu:Type:=AC→Int→yS→jB→yS→List zK→EQ→AC→EQ→AC→EQ→List zD→Option yDc
def IM (k:Nat)(rec:qRu):qRu:=fun s0 s9 b0 b1 b2 r3 r4 r5 r6 r7 r8 r9=>
 cond (decide (s9>0)) (cond (!b1.2) ((wc k b1 7).bind fun x7=>cond (zB 0 x7.1.length) (cond (zB 1 x7.1.length) (cond (zB 2 x7.1.length) (cond (zB 3 x7.1.length) (cond (zB 4 x7.1.length) (cond (zB 5 x7.1.length) (cond (zB 6 x7.1.length) (cond (zL (r9.length+1) 56) (let y1:List zD:=(r9++[((x7.1.getD 0 0),(x7.1.getD 1 0),(x7.1.getD 2 0),(x7.1.getD 3 0),(x7.1.getD 4 0),(x7.1.getD 5 0),(x7.1.getD 6 0))])
           rec s0 (zA (s9-1)) b0 x7.2 b2 r3 r4 r5 r6 r7 r8 y1) none) none) none) none) none) none) none) none)<|some (s0,b0,b1,b2,r3,r4,r5,r6,r7,r8,r9))<|some (s0,b0,b1,b2,r3,r4,r5,r6,r7,r8,r9)
def Dh (k:Nat):Nat→qRu:=qY (fun _ _ _ _ _ _ _ _ _ _ _ _=>none) (IM k)
def Dm (k:Nat)(a0:AC):Option (yA×Bool):=
 (wc k (a0,false) 9).bind fun x0=>cond (zB 0 x0.1.length) (cond (zB 1 x0.1.length) (cond (zB 2 x0.1.length) (cond (zB 3 x0.1.length) ((Df k k a0 (x0.1.getD 3 0) (0,0,false) x0.2 x0.1 ((x0.1.getD 0 0),(x0.1.getD 1 0),(decide ((x0.1.getD 2 0)=1))) []).bind fun z=>cond (zB 4 z.2.2.2.1.length) ((IE k z.2.2.1 (z.2.2.2.1.getD 4 0)).bind fun x2=>(Ay k x2.2).bind fun x3=>cond (zB 6 z.2.2.2.1.length) ((IE k x3.2 (z.2.2.2.1.getD 6 0)).bind fun x4=>(Ay k x4.2).bind fun x5=>cond (zB 7 z.2.2.2.1.length) ((IE k x5.2 (z.2.2.2.1.getD 7 0)).bind fun x6=>cond (zB 8 z.2.2.2.1.length) ((Dh k k z.1 (z.2.2.2.1.getD 8 0) z.2.1 x6.2 z.2.2.2.2.1 z.2.2.2.2.2 x2.1 x3.1 x4.1 x5.1 x6.1 []).bind fun z1=>(Ay k z1.2.2.1).bind fun x8=>cond x8.2.2 (some ((0,[],[],[],[],[],[],[],[],0,false),false))<|(kl k (z1.2.2.2.1.1,(Of z1 (x8.1,z1.2.2.2.1.2)))).bind fun x9=>(yX8 k x9 z1.1).bind fun bV=>cond (!bV) (some ((0,[],[],[],[],[],[],[],[],0,false),false))<|some ((z1.2.2.2.1.1,(Of z1 (x8.1,z1.2.2.2.1.2))),true)) none) none) none) none) none) none) none) none
def uJ (k:Nat)(a0:Int):Option Int:=
 cond (decide (a0=9)) (some 0)<|cond (decide (a0=13)) (some 0)<|cond (decide (a0=14)) (some 0)<|cond (decide (a0=15)) (some 0)<|cond (decide (a0=2)) (some 1)<|cond (decide (a0=6)) (some 1)<|cond (decide (a0=7)) (some 1)<|cond (decide (a0=16)) (some 1)<|cond (decide (a0=19)) (some 1)<|cond (decide (a0=20)) (some 1)<|cond (decide (a0=21)) (some 1)<|cond (decide (a0=22)) (some 1)<|cond (decide (a0=23)) (some 1)<|cond (decide (a0=3)) (some 2)<|cond (decide (a0=4)) (some 2)<|cond (decide (a0=5)) (some 2)<|cond (decide (a0=8)) (some 2)<|cond (decide (a0=10)) (some 2)<|cond (decide (a0=11)) (some 2)<|cond (decide (a0=12)) (some 2)<|cond (decide (a0=18)) (some 4)<|cond (decide (a0=17)) (some 5)<|cond (decide (a0=1)) (some 6)<|some (-1)
def qo (k:Nat)(a0:AC):Option (zD×Int):=
 cond (decide ((a0.length:Int)=0)) (some ((0,0,0,0,0,0,0),2))<|cond (decide (1≤(a0.length : Int))) ((qn k (List.drop 1 a0)).bind fun x0=>cond (!(decide (x0.2=0))) (some ((0,0,0,0,0,0,0),2))<|cond (zB 0 a0.length) ((uJ k (zA ((a0.getD 0 0)))).bind fun x1=>cond (!(decide ((x0.1.length:Int)=x1))) (some ((0,0,0,0,0,0,0),2))<|cond (zB 0 a0.length) (some (((zA ((a0.getD 0 0))),(cond (Nat.blt 0 x0.1.length) (x0.1.getD 0 0)<|0),(cond (Nat.blt 1 x0.1.length) (x0.1.getD 1 0)<|0),(cond (Nat.blt 2 x0.1.length) (x0.1.getD 2 0)<|0),(cond (Nat.blt 3 x0.1.length) (x0.1.getD 3 0)<|0),(cond (Nat.blt 4 x0.1.length) (x0.1.getD 4 0)<|0),(cond (Nat.blt 5 x0.1.length) (x0.1.getD 5 0)<|0)),0)) none) none) none
def ND (k:Nat)(a0:AC):Option (zW×Int):=
 cond (decide ((a0.length:Int)<8)) (some ((0,0,0,0,0,0,0,0),2))<|cond (decide (8≤(a0.length : Int))) ((qn k (List.take 8 a0)).bind fun x0=>cond (decide (8≤(a0.length : Int))) ((qo k (List.drop 8 a0)).bind fun x1=>cond (!(decide (x1.2=0))) (some ((0,0,0,0,0,0,0,0),2))<|cond (zB 0 x0.1.length) (some (((x0.1.getD 0 0),x1.1),0)) none) none) none
def RA (k:Nat)(a0:Int):Option Bool:=
 cond (decide (a0≥10)) (some (decide (a0≤14)))<|some false
def Mz (k:Nat)(a0:Int):Option Bool:=
 cond (decide (a0≥1)) (some (decide (a0≤14)))<|some false
abbrev yCz:Type:=AC→Int→Int→Option (Unit⊕Bool)
def lM (k:Nat)(rec:yCz):yCz:=fun bm bh aQ=>
 cond (decide (aQ<bh)) (cond (zB aQ bm.length) (cond (!(decide ((bm.getD aQ.toNat 0)=0))) (some (.inr false))<|rec bm bh (zA (aQ+1))) none)<|some (.inl ())
def mH (k:Nat):Nat→yCz:=qY (fun _ _ _=>none) (lM k)
def lN (k:Nat)(a0:zD):Option Bool:=
 (uJ k a0.1).bind fun x0=>cond (decide (x0<0)) (some false)<|cond ((decide (0≤x0))&&(decide (x0≤6))) ((mH k k (qS [a0.2.1,a0.2.2.1,a0.2.2.2.1,a0.2.2.2.2.1,a0.2.2.2.2.2.1,a0.2.2.2.2.2.2] x0.toNat (6-x0.toNat)) ((qS [a0.2.1,a0.2.2.1,a0.2.2.2.1,a0.2.2.2.2.1,a0.2.2.2.2.2.1,a0.2.2.2.2.2.2] x0.toNat (6-x0.toNat)).length:Int) 0).bind fun z=>match z with
  |.inl z1=>some true
  |.inr z2=>some z2) none
def yy (k:Nat)(a0:qW)(a1:yA)(a2:zW):Option Int:=
 (RA k a2.2.1).bind fun x0=>cond (decide (a2.1≥0)) ((Mz k a2.2.1).bind fun x1=>cond (!x1) (some 5)<|(lN k a2.2).bind fun x2=>cond (!x2) (some 5)<|cond x0 (cond (!(decide (a2.1=(-1)))) (some 5)<|cond (!x0) (cond (!(decide (a2.1<a0.1))) (some 5)<|cond a1.2.2.2.2.2.2.2.2.2.2 (cond (!(decide (a2.2.1=9))) (some 7)<|some 0)<|some 0)<|cond a1.2.2.2.2.2.2.2.2.2.2 (cond (!(decide (a2.2.1=9))) (some 7)<|some 0)<|some 0)<|cond (!x0) (cond (!(decide (a2.1<a0.1))) (some 5)<|cond a1.2.2.2.2.2.2.2.2.2.2 (cond (!(decide (a2.2.1=9))) (some 7)<|some 0)<|some 0)<|cond a1.2.2.2.2.2.2.2.2.2.2 (cond (!(decide (a2.2.1=9))) (some 7)<|some 0)<|some 0)<|(Mz k a2.2.1).bind fun x3=>cond (!x3) (some 5)<|(lN k a2.2).bind fun x4=>cond (!x4) (some 5)<|cond x0 (cond (!(decide (a2.1=(-1)))) (some 5)<|cond (!x0) (some 5)<|cond a1.2.2.2.2.2.2.2.2.2.2 (cond (!(decide (a2.2.1=9))) (some 7)<|some 0)<|some 0)<|cond (!x0) (some 5)<|cond a1.2.2.2.2.2.2.2.2.2.2 (cond (!(decide (a2.2.1=9))) (some 7)<|some 0)<|some 0
def qW0 (k:Nat)(cj bj bB cy bN cd bP a1:Int):Option Bool:=
 some (decide (bj=a1))
abbrev qVz:Type:=List zD
abbrev yGa:Type:=List zD→Int→Int→Int→List zD→Option qVz
def GS (k:Nat)(rec:yGa):yGa:=fun s8 s9 av af r1=>
 cond (decide (av<s9)) (cond (zB av s8.length) ((qW0 k (s8.getD av.toNat ama).1 (s8.getD av.toNat ama).2.1 (s8.getD av.toNat ama).2.2.1 (s8.getD av.toNat ama).2.2.2.1 (s8.getD av.toNat ama).2.2.2.2.1 (s8.getD av.toNat ama).2.2.2.2.2.1 (s8.getD av.toNat ama).2.2.2.2.2.2 af).bind fun x0=>cond x0 (cond (zL (r1.length+1) 56) (let y0:List zD:=(r1++[(s8.getD av.toNat ama)])
     rec s8 s9 (zA (av+1)) af y0) none)<|rec s8 s9 (zA (av+1)) af r1) none)<|some r1
def Mm (k:Nat):Nat→yGa
 |0,_,_,_,_,_=>none
 |n+1,s8,s9,av,af,r1=>GS k (Mm k n) s8 s9 av af r1
def yEh (k:Nat)(a0:List zD)(cX:Int):Option (List zD):=
 (Mm k k a0 (a0.length:Int) 0 cX []).bind fun z=>some z
def Mk (k:Nat)(a0:List zD)(a1:Int):Option (List zD):=
 (yEh k a0 a1).bind fun x0=>some x0
def vAd (k:Nat)(a0:(Int×Int×Int×Int×Int×Int×Bool×Int))(a1:Int)(a2:AC):Option jS:=
 some (a0.1,[],(iN a0 ([],[],[],[],[],[],[],[],a0.2.2.2.2.2.1,a0.2.2.2.2.2.2.1,a0.2.2.2.2.2.2.2,[(a0.2.2.2.2.2.2.2,a1,(cond (Nat.blt 0 a2.length) (a2.getD 0 0)<|0),(cond (Nat.blt 1 a2.length) (a2.getD 1 0)<|0),(cond (Nat.blt 2 a2.length) (a2.getD 2 0)<|0),(cond (Nat.blt 3 a2.length) (a2.getD 3 0)<|0),(cond (Nat.blt 4 a2.length) (a2.getD 4 0)<|0),(cond (Nat.blt 5 a2.length) (a2.getD 5 0)<|0))])))
def Sg (k:Nat)(a0:yA)(a1:Int):Option (List zW):=
 cond (zB a1 a0.2.1.length) ((Mk k a0.2.2.2.2.2.2.2.1 a1).bind fun x0=>(vAd k (0,0,0,0,0,0,false,a1) 17 [(a0.2.1.getD a1.toNat ala).1,(a0.2.1.getD a1.toNat ala).2.1,(a0.2.1.getD a1.toNat ala).2.2,(x0.length:Int),a0.1]).bind fun x1=>some x1.2.2.2.2.2.2.2.2.2.2.2.2.2.2.2.2.2) none
def Sh (k:Nat)(a0:lV)(a1:Int)(a2:AC):Option jS:=
 some (vQ a0 [(a0.2.2.2.2.2.2.2.2.2.2.2.2.2.2.2.2,a1,(cond (Nat.blt 0 a2.length) (a2.getD 0 0)<|0),(cond (Nat.blt 1 a2.length) (a2.getD 1 0)<|0),(cond (Nat.blt 2 a2.length) (a2.getD 2 0)<|0),(cond (Nat.blt 3 a2.length) (a2.getD 3 0)<|0),(cond (Nat.blt 4 a2.length) (a2.getD 4 0)<|0),(cond (Nat.blt 5 a2.length) (a2.getD 5 0)<|0))])
def vK (k:Nat)(a0 a1 a2:Int):Option Bool:=
 cond (decide (a0≥a1)) (some (decide (a0≤a2)))<|some false
def Mw (k:Nat)(a0:qW)(a1:Int):Option Bool:=
 cond (decide (a1≥0)) (some (decide (a1<a0.1)))<|some false
def Rw (k:Nat)(a0:qW)(a1:Int)(a2:zD):Option Bool:=
 (Mw k a0 a2.2.1).bind fun x0=>cond x0 ((Mw k a0 a2.2.2.1).bind fun x1=>cond x1 (cond (decide (a2.1≥1)) (cond (decide (a2.2.2.2.1≥1)) (cond (decide (a2.2.2.2.1≤1099511627776)) (cond (decide (a2.2.2.2.2.1≥1)) (cond (!(decide (a2.2.1=a2.2.2.1))) (cond (decide (a2.2.2.2.2.1≤3)) (cond (decide (a2.2.2.2.2.2.1≥0)) (cond (decide (a2.2.2.2.2.2.1≤a2.2.2.2.2.2.2)) (cond (decide (a2.2.2.2.2.2.2≥a1)) (some (decide (a2.2.2.2.2.2.2≤1048576)))<|some false)<|some false)<|some false)<|some false)<|some false)<|cond (!(decide (a2.2.1=a2.2.2.1))) (some false)<|some false)<|cond (!(decide (a2.2.1=a2.2.2.1))) (some false)<|some false)<|cond (!(decide (a2.2.1=a2.2.2.1))) (some false)<|some false)<|cond (!(decide (a2.2.1=a2.2.2.1))) (some false)<|some false)<|cond (decide (a2.1≥1)) (cond (decide (a2.2.2.2.1≥1)) (cond (decide (a2.2.2.2.1≤1099511627776)) (cond (decide (a2.2.2.2.2.1≥1)) (some false)<|some false)<|some false)<|some false)<|some false)<|cond (decide (a2.1≥1)) (cond (decide (a2.2.2.2.1≥1)) (cond (decide (a2.2.2.2.1≤1099511627776)) (cond (decide (a2.2.2.2.2.1≥1)) (some false)<|some false)<|some false)<|some false)<|some false
def Cz (k:Nat)(a0:qW)(a1 a2:Int):Option Int:=
 cond (decide (a1≥a0.2.2.2.1)) (some 7)<|cond (decide (a2=3)) (cond (decide (a1≥a0.2.2.1)) (some 7)<|some 0)<|some 0
def Hc (k:Nat)(a0:qW)(a1:Int)(a2:zD):Option Int:=
 (Rw k a0 a1 a2).bind fun x0=>cond (!x0) (some 1)<|(Cz k a0 a1 a2.2.2.2.2.1).bind fun x1=>some x1
def Q6 (k:Nat)(a0:Int):Option Bool:=
 some (!(decide (a0=a0)))
def Q5 (k:Nat)(a0 a1:Int):Option Bool:=
 (Q6 k a0).bind fun x0=>cond x0 ((Q6 k a1).bind fun x1=>cond (!x1) (some true)<|some (decide (a0<a1)))<|some (decide (a0<a1))
def Q8 (k:Nat)(a0:Int):Option Bool:=
 some (!(decide (a0=a0)))
abbrev yDq:Type:=AC×Int×Int×Int
abbrev qQp:Type:=AC→Int→Int→Int→Int→Option yDq
def Q7 (k:Nat)(rec:qQp):qQp:=fun s0 s1 s6 s7 s8=>
 cond (decide (s7<s8)) (cond (zB (zA ((shr .u64 (IntKind.wrap .u64 ((zA (s7+s8)))) 1))) s0.length) ((Q5 k (s0.getD (zA ((shr .u64 (IntKind.wrap .u64 ((zA (s7+s8)))) 1))).toNat 0) s1).bind fun x0=>cond x0 (rec s0 s1 s6 (zA ((zA ((shr .u64 (IntKind.wrap .u64 ((zA (s7+s8)))) 1)))+1)) s8)<|rec s0 s1 s6 s7 (zA ((shr .u64 (IntKind.wrap .u64 ((zA (s7+s8)))) 1)))) none)<|some (s0,s1,s6,s7)
def L4 (k:Nat):Nat→qQp:=qY (fun _ _ _ _ _=>none) (Q7 k)
def Gt (k:Nat)(a0:AC)(a1:Int):Option eX:=
 (L4 k k a0 a1 (a0.length:Int) 0 (a0.length:Int)).bind fun z=>cond (decide (z.2.2.2<z.2.2.1)) (cond (zB z.2.2.2 z.1.length) (cond (decide ((z.1.getD z.2.2.2.toNat 0)=z.2.1)) (some (z.2.2.2,true))<|cond (zB z.2.2.2 z.1.length) ((Q8 k (z.1.getD z.2.2.2.toNat 0)).bind fun x1=>cond x1 ((Q8 k z.2.1).bind fun x2=>some (z.2.2.2,x2))<|some (z.2.2.2,false)) none) none)<|some (z.2.2.2,false)
def qs (k:Nat)(a0:AC):Option AC:=
 cond (zL (0+a0.length) 8) (some a0) none
abbrev yK6 (k:Nat)(a0:AC)(a1:Int)(a2:AC):Option AC:=ins 8 a0 a1 a2
def Gu (k:Nat)(a0:AC)(a1:Int):Option (AC×Int):=
 (Gt k a0 a1).bind fun x0=>cond x0.2 (some (a0,6))<|cond (decide ((a0.length:Int)≥200)) (some (a0,3))<|(qs k a0).bind fun x1=>(yK6 k x1 x0.1 [a1]).bind fun x2=>some (x2,0)
def yGp (k:Nat)(cj bj bB cy bN cd bP a1:Int):Option Bool:=
 some (decide (cj=a1))
abbrev yBx:Type:=List zD→Int→Int→Int→Option (Unit⊕Int)
def Gj (k:Nat)(rec:yBx):yBx:=fun s0 s7 s8 af=>
 cond (decide (s8<s7)) (cond (zB s8 s0.length) ((yGp k (s0.getD s8.toNat ama).1 (s0.getD s8.toNat ama).2.1 (s0.getD s8.toNat ama).2.2.1 (s0.getD s8.toNat ama).2.2.2.1 (s0.getD s8.toNat ama).2.2.2.2.1 (s0.getD s8.toNat ama).2.2.2.2.2.1 (s0.getD s8.toNat ama).2.2.2.2.2.2 af).bind fun x0=>cond x0 (some (.inr s8))<|rec s0 s7 (zA (s8+1)) af) none)<|some (.inl ())
def Gh (k:Nat):Nat→yBx
 |0,_,_,_,_=>none
 |n+1,s0,s7,s8,af=>Gj k (Gh k n) s0 s7 s8 af
def qQ0 (k:Nat)(a0:List zD)(cX:Int):Option Int:=
 (Gh k k a0 (a0.length:Int) 0 cX).bind fun z=>match z with
 |.inl z1=>some (-1)
 |.inr z2=>some z2
def py (k:Nat)(a0:List zD)(a1:Int):Option Int:=
 (qQ0 k a0 a1).bind fun x0=>some x0
def Q3 (k:Nat)(a0:Int):Option Bool:=
 some (!(decide (a0=a0)))
def LS (k:Nat)(a0 a1:Int):Option Int:=
 (Q3 k a0).bind fun x0=>(Q3 k a1).bind fun x1=>cond x0 (cond x1 (some 0)<|some (-1))<|cond x1 (some 1)<|cond (decide (a0<a1)) (some (-1))<|cond (decide (a0>a1)) (some 1)<|some 0
abbrev qOw:Type:=Int→AC→Int→Int→Option (Int⊕Int)
def vEw (k:Nat)(rec:qOw):qOw:=fun s3 s6 s7 s8=>
 cond (decide (s8<s7)) (cond (zB s8 s6.length) (cond (!(decide ((s6.getD s8.toNat 0)=s3))) (some (.inr (s6.getD s8.toNat 0)))<|rec s3 s6 s7 (zA (s8+1))) none)<|some (.inl s3)
def LR (k:Nat):Nat→qOw
 |0,_,_,_,_=>none
 |n+1,s3,s6,s7,s8=>vEw k (LR k n) s3 s6 s7 s8
def Q2 (k:Nat)(a0:AC):Option Int:=
 (LR k k 0 a0 (a0.length:Int) 0).bind fun z=>match z with
 |.inl z1=>some z1
 |.inr z2=>some z2
def Gk (k:Nat)(cj bj bB cy bN cd bP ij cz dz eA dA jk jl:Int):Option Int:=
 (LS k bj cz).bind fun x0=>(LS k bN dA).bind fun x1=>(Q2 k [x0,x1]).bind fun x2=>some x2
def yg (k:Nat)(a0:List zD):Option (List zD):=
 cond (zL (0+a0.length) 56) (some a0) none
abbrev Q4 (k:Nat)(a0:List zD)(a1:Int)(a2:List zD):Option (List zD):=ins 56 a0 a1 a2
abbrev qWe:Type:=(List zD)×Int×zD
abbrev qNc:Type:=List zD→Int→zD→Option qWe
def Gn (k:Nat)(rec:qNc):qNc:=fun s0 s6 b0=>
 cond (decide (s6<s0.length)) (cond (zB s6 s0.length) ((Gk k (s0.getD s6.toNat ama).1 (s0.getD s6.toNat ama).2.1 (s0.getD s6.toNat ama).2.2.1 (s0.getD s6.toNat ama).2.2.2.1 (s0.getD s6.toNat ama).2.2.2.2.1 (s0.getD s6.toNat ama).2.2.2.2.2.1 (s0.getD s6.toNat ama).2.2.2.2.2.2 b0.1 b0.2.1 b0.2.2.1 b0.2.2.2.1 b0.2.2.2.2.1 b0.2.2.2.2.2.1 b0.2.2.2.2.2.2).bind fun x1=>cond (decide (x1≤0)) (rec s0 (zA (s6+1)) b0)<|some (s0,s6,b0)) none)<|some (s0,s6,b0)
def LW (k:Nat):Nat→qNc:=qY (fun _ _ _=>none) (Gn k)
def yh (k:Nat)(a0:List zD)(a1:zD):Option ((List zD)×Int):=
 (py k a0 a1.1).bind fun x0=>cond (decide (x0≥0)) (some (a0,6))<|cond (decide ((a0.length:Int)≥40)) (some (a0,3))<|(LW k k a0 0 a1).bind fun z=>(yg k z.1).bind fun x2=>(Q4 k x2 z.2.1 [z.2.2]).bind fun x3=>some (x3,0)
def Rx (k:Nat)(a0:jS)(a1:Ow):Option (Int×jS):=
 (vK k a1.2.1 0 (zA (a0.1-1))).bind fun x0=>cond (!x0) (some (1,a0))<|(vK k a1.2.2.2.1 1 3).bind fun x1=>cond (!x1) (some (1,a0))<|(Hc k (yC a0) a0.2.2.2.2.2.1 (a1.1,a0.2.2.2.2.2.2.2.2.2.2.2.2.2.2.2.2.1,a1.2)).bind fun x2=>cond (!(decide (x2=0))) (some (x2,a0))<|(Gu k a0.2.2.2.2.2.2.2.2.2.2.2.2.2.1 a1.1).bind fun x3=>cond (!(decide (x3.2=0))) (some (x3.2,a0))<|(yh k a0.2.2.2.2.2.2.2.2.2.2.2.2.1 (a1.1,a0.2.2.2.2.2.2.2.2.2.2.2.2.2.2.2.2.1,a1.2)).bind fun x4=>cond (!(decide (x4.2=0))) (some (x4.2,a0))<|some (0,(kA a0 (x4.1,x3.1,a0.2.2.2.2.2.2.2.2.2.2.2.2.2.2)))
def yG2 (k:Nat)(a0:jS)(a1:Int):Option (zD×Int):=
 (py k a0.2.2.2.2.2.2.2.2.2.2.2.2.1 a1).bind fun x0=>cond (decide (x0<0)) (some ((0,0,0,0,0,0,0),4))<|cond (zB x0 a0.2.2.2.2.2.2.2.2.2.2.2.2.1.length) (cond (!(decide ((a0.2.2.2.2.2.2.2.2.2.2.2.2.1.getD x0.toNat ama).2.1=a0.2.2.2.2.2.2.2.2.2.2.2.2.2.2.2.2.1))) (some ((0,0,0,0,0,0,0),4))<|cond (zB x0 a0.2.2.2.2.2.2.2.2.2.2.2.2.1.length) (some ((a0.2.2.2.2.2.2.2.2.2.2.2.2.1.getD x0.toNat ama),0)) none) none
def LQ (k:Nat)(a0:List zD)(a1 a2:Int):Option (List zD):=
 cond (((((decide (0≤a1))&&(decide (a1≤a2)))&&(decide (a2≤a0.length)))&&(decide (((a2.toNat : Nat) : Int)≤a0.length)))&&(decide ((a0.length : Int)≤(a0.length : Int)))) (cond (decide (a1=a2)) (some a0)<|cond ((decide (0≤a1))&&(decide (a1≤a0.length))) (cond ((decide (0≤a2))&&(decide (a2≤a0.length))) (cond (Nat.ble (a1.toNat - 0) (0+a2.toNat)) (let y0:List zD:=(((List.take (a1.toNat-0) a0)++(qS a0 (0+a2.toNat) (a0.length-a2.toNat)))++(List.drop ((a1.toNat-0)+(a0.length-a2.toNat)) a0))
     cond (((decide (0≤((qS y0 0 ((a1.toNat - 0)+(a0.length - a2.toNat))).length : Int)))&&(decide (((qS y0 0 ((a1.toNat - 0)+(a0.length - a2.toNat))).length : Int)≤(a0.length : Int))))&&(decide ((a0.length : Int)≤(((y0.length - 0) : Nat) : Int)))) (let y1:List zD:=(((List.take (0+(qS y0 0 ((a1.toNat-0)+(a0.length-a2.toNat))).length) y0)++(List.replicate (a0.length-(qS y0 0 ((a1.toNat-0)+(a0.length-a2.toNat))).length) ((0,0,0,0,0,0,0):Int×Int×Int×Int×Int×Int×Int)))++(List.drop ((0+(qS y0 0 ((a1.toNat-0)+(a0.length-a2.toNat))).length)+(a0.length-(qS y0 0 ((a1.toNat-0)+(a0.length-a2.toNat))).length)) y0))
      some (List.take ((a1.toNat-0)+(a0.length-a2.toNat)) y1)) none) none) none) none) none
def qx (k:Nat)(a0:List zD)(a1:Int):Option qQv:=
 (py k a0 a1).bind fun x0=>cond (decide (x0<0)) (some (a0,0,0,0,0,0,0,0,4))<|(yg k a0).bind fun x1=>(LQ k x1 x0 (zA (x0+1))).bind fun x2=>cond (zB x0 a0.length) (some (x2,(gi (a0.getD x0.toNat ama) 0))) none
def yx (k:Nat)(a0:jS)(a1:Int)(a2:AC):Option jS:=
 cond (zL (a0.2.2.2.2.2.2.2.2.2.2.2.2.2.2.2.2.2.length+1) 64) (let y0:List zW:=(a0.2.2.2.2.2.2.2.2.2.2.2.2.2.2.2.2.2++[(a0.2.2.2.2.2.2.2.2.2.2.2.2.2.2.2.2.1,a1,(cond (Nat.blt 0 a2.length) (a2.getD 0 0)<|0),(cond (Nat.blt 1 a2.length) (a2.getD 1 0)<|0),(cond (Nat.blt 2 a2.length) (a2.getD 2 0)<|0),(cond (Nat.blt 3 a2.length) (a2.getD 3 0)<|0),(cond (Nat.blt 4 a2.length) (a2.getD 4 0)<|0),(cond (Nat.blt 5 a2.length) (a2.getD 5 0)<|0))])
  some (yL a0 y0)) none
def Gp (k:Nat)(a0:List zD)(a1 a2:Int):Option ((List zD)×Int):=
 (qx k a0 a1).bind fun x0=>cond (!(decide (x0.2.2.2.2.2.2.2.2=0))) (some (a0,x0.2.2.2.2.2.2.2.2))<|(yh k x0.1 (iN x0 (a2,x0.2.2.2.2.2.2.1,x0.2.2.2.2.2.2.2.1))).bind fun x1=>some (x1.1,x1.2)
def yC2 (k:Nat)(a0:List zD)(a1:Int):Option qQv:=
 (py k a0 a1).bind fun x0=>cond (decide (x0<0)) none<|(yg k a0).bind fun x1=>(LQ k x1 x0 (zA (x0+1))).bind fun x2=>cond (zB x0 a0.length) (some (x2,(gi (a0.getD x0.toNat ama) 0))) none
abbrev qZa:Type:=Int×(List zD)×zD
abbrev yGs:Type:=Int→List zD→zD→Option qZa
def Gr (k:Nat)(rec:yGs):yGs:=fun s9 r0 b1=>
 cond (decide (s9<r0.length)) (cond (zB s9 r0.length) ((Gk k (r0.getD s9.toNat ama).1 (r0.getD s9.toNat ama).2.1 (r0.getD s9.toNat ama).2.2.1 (r0.getD s9.toNat ama).2.2.2.1 (r0.getD s9.toNat ama).2.2.2.2.1 (r0.getD s9.toNat ama).2.2.2.2.2.1 (r0.getD s9.toNat ama).2.2.2.2.2.2 b1.1 b1.2.1 b1.2.2.1 b1.2.2.2.1 b1.2.2.2.2.1 b1.2.2.2.2.2.1 b1.2.2.2.2.2.2).bind fun x1=>cond (decide (x1<0)) (rec (zA (s9+1)) r0 b1)<|some (s9,r0,b1)) none)<|some (s9,r0,b1)
def LZ (k:Nat):Nat→yGs:=qY (fun _ _ _=>none) (Gr k)
def Gs (k:Nat)(a0:List zD)(a1:Int):Option ((List zD)×Int):=
 (yC2 k a0 a1).bind fun x0=>cond (!(decide (x0.2.2.2.2.2.2.2.2=0))) (some (a0,x0.2.2.2.2.2.2.2.2))<|(LZ k k 0 x0.1 (Tm x0)).bind fun z=>(Q4 k z.2.1 z.1 [z.2.2]).bind fun x2=>some (x2,0)
def Gq (k:Nat)(a0:List zD)(a1:Int):Option ((List zD)×Int):=
 (qx k a0 a1).bind fun x0=>cond (!(decide (x0.2.2.2.2.2.2.2.2=0))) (some (a0,x0.2.2.2.2.2.2.2.2))<|(yh k x0.1 (Tm x0)).bind fun x1=>some (x1.1,x1.2)
def CA (k:Nat)(a0:jS)(a1:zD):Option (Int×jS):=
 (yG2 k a0 a1.2.1).bind fun x0=>cond (!(decide (x0.2=0))) (some (x0.2,a0))<|cond (decide (a1.1=2)) ((qx k a0.2.2.2.2.2.2.2.2.2.2.2.2.1 a1.2.1).bind fun x1=>(yx k (kA a0 (x1.1,a0.2.2.2.2.2.2.2.2.2.2.2.2.2)) 20 [a1.2.1]).bind fun x2=>some (x1.2.2.2.2.2.2.2.2,x2))<|cond (decide (a1.1=4)) ((vK k a1.2.2.1 1 3).bind fun x3=>cond (!x3) (some (1,a0))<|(Cz k (yC a0) a0.2.2.2.2.2.1 a1.2.2.1).bind fun x4=>cond (!(decide (x4=0))) (some (x4,a0))<|(Gp k a0.2.2.2.2.2.2.2.2.2.2.2.2.1 a1.2.1 a1.2.2.1).bind fun x5=>some (x5.2,(kA a0 (x5.1,a0.2.2.2.2.2.2.2.2.2.2.2.2.2))))<|cond (decide (a1.2.2.1=0)) ((Gs k a0.2.2.2.2.2.2.2.2.2.2.2.2.1 a1.2.1).bind fun x6=>some (x6.2,(kA a0 (x6.1,a0.2.2.2.2.2.2.2.2.2.2.2.2.2))))<|cond (decide (a1.2.2.1=1)) ((Gq k a0.2.2.2.2.2.2.2.2.2.2.2.2.1 a1.2.1).bind fun x7=>some (x7.2,(kA a0 (x7.1,a0.2.2.2.2.2.2.2.2.2.2.2.2.2))))<|some (1,a0)
def Zj (k:Nat)(a0:List zK):Option (List zK):=
 cond (zL (0+a0.length) 24) (some a0) none
def Zg (k:Nat)(a0:EQ):Option Nat:=
 cond (zL (0+a0.length) 24) (some a0.length) none
abbrev yFm:Type:=EQ→Int→Int→EQ→Nat→Option (EQ×Nat)
def Fs (k:Nat)(rec:yFm):yFm:=fun s8 s9 av m0 n0=>
 cond (decide (av<s9)) (cond (zB av s8.length) ((qs k (s8.getD av.toNat [])).bind fun x1=>cond (zB av n0) (cond (Nat.beq av.toNat m0.length) (rec s8 s9 (zA (av+1)) (m0++[x1]) n0) none) none) none)<|some (m0,n0)
def La (k:Nat):Nat→yFm
 |0,_,_,_,_,_=>none
 |n+1,s8,s9,av,m0,n0=>Fs k (La k n) s8 s9 av m0 n0
def Lb (k:Nat)(a0:EQ):Option EQ:=
 (Zg k a0).bind fun x0=>(La k k a0 (a0.length:Int) 0 [] x0).bind fun z=>XU z.1 z.2
def gG (k:Nat)(au:List zK)(aB:EQ)(az:AC)(ax:EQ):Option AY:=
 (Zj k au).bind fun x0=>(Lb k aB).bind fun x1=>(qs k az).bind fun x2=>(Lb k ax).bind fun x3=>some (x0,x1,x2,x3)
def yAo (k:Nat)(a0:jS)(a1:Int):Option Bool:=
 (vK k a1 0 (zA (a0.1-1))).bind fun x0=>cond x0 (some (!(decide (a1=a0.2.2.2.2.2.2.2.2.2.2.2.2.2.2.2.2.1))))<|some false
def CB (k:Nat)(a0:jS)(a1:zD):Option (Int×jS):=
 (gG k a0.2.2.2.2.2.2.1 a0.2.2.2.2.2.2.2.1 a0.2.2.2.2.2.2.2.2.1 a0.2.2.2.2.2.2.2.2.2.1).bind fun x0=>cond (decide (a1.1=5)) ((yAo k a0 a1.2.1).bind fun x1=>cond (!x1) (some (1,a0))<|(vK k a1.2.2.1 (-1) 1152921504606846976).bind fun x2=>cond (!x2) (some (1,a0))<|cond (zB a0.2.2.2.2.2.2.2.2.2.2.2.2.2.2.2.2.1 x0.2.1.length) (cond (zB a1.2.1 (x0.2.1.getD a0.2.2.2.2.2.2.2.2.2.2.2.2.2.2.2.2.1.toNat []).length) (let y0:EQ:=(x0.2.1.set a0.2.2.2.2.2.2.2.2.2.2.2.2.2.2.2.2.1.toNat ((x0.2.1.getD a0.2.2.2.2.2.2.2.2.2.2.2.2.2.2.2.2.1.toNat []).set a1.2.1.toNat a1.2.2.1))
    some (0,(jF a0 (x0.1,y0,x0.2.2.1,x0.2.2.2,a0.2.2.2.2.2.2.2.2.2.2)))) none) none)<|cond (decide (a1.1=6)) ((vK k a1.2.1 (-1) 1152921504606846976).bind fun x3=>cond (!x3) (some (1,a0))<|cond (zB a0.2.2.2.2.2.2.2.2.2.2.2.2.2.2.2.2.1 x0.2.2.1.length) (let y1:AC:=(x0.2.2.1.set a0.2.2.2.2.2.2.2.2.2.2.2.2.2.2.2.2.1.toNat a1.2.1)
   some (0,(jF a0 (x0.1,x0.2.1,y1,x0.2.2.2,a0.2.2.2.2.2.2.2.2.2.2)))) none)<|(vK k a1.2.1 0 1152921504606846976).bind fun x4=>cond (!x4) (some (1,a0))<|cond (zB a0.2.2.2.2.2.2.2.2.2.2.2.2.2.2.2.2.1 x0.1.length) (let y2:List zK:=(x0.1.set a0.2.2.2.2.2.2.2.2.2.2.2.2.2.2.2.2.1.toNat ((x0.1.getD a0.2.2.2.2.2.2.2.2.2.2.2.2.2.2.2.2.1.toNat ala).1,(x0.1.getD a0.2.2.2.2.2.2.2.2.2.2.2.2.2.2.2.2.1.toNat ala).2.1,a1.2.1))
  some (0,(jF a0 (y2,x0.2.1,x0.2.2.1,x0.2.2.2,a0.2.2.2.2.2.2.2.2.2.2)))) none
def Ob (k:Nat)(a0:jS)(a1:Int):Option Bool:=
 (vK k a1 0 (zA ((a0.2.1.length:Int)-1))).bind fun x0=>some x0
def He (k:Nat)(a0:EQ):Option EQ:=
 cond (zL (0+a0.length) 24) (some a0) none
def rj (k:Nat)(a0:AC)(a1 a2:Int):Option AC:=
 (qs k a0).bind fun x0=>cond (decide (a1≥0)) (cond (decide (a1<x0.length)) (cond (zB a1 x0.length) (some (x0.set a1.toNat a2)) none)<|some x0)<|some x0
def L6 (k:Nat)(a0:Int):Option Bool:=
 cond (decide (a0≥0)) (some (decide (a0≤10000)))<|some false
def Gy (k:Nat)(a0 a1:Int):Option vW:=
 some ((IntKind.wrap .u64 ((IntKind.wrap .u64 ((IntKind.wrap .u64 ((shr .u64 a0 32)*(shr .u64 a1 32)))+(shr .u64 (IntKind.wrap .u64 ((IntKind.wrap .u64 ((shr .u64 a0 32)*(yM .u64 a1 4294967295)))+(shr .u64 (IntKind.wrap .u64 ((yM .u64 a0 4294967295)*(yM .u64 a1 4294967295))) 32))) 32)))+(shr .u64 (IntKind.wrap .u64 ((yM .u64 (IntKind.wrap .u64 ((IntKind.wrap .u64 ((shr .u64 a0 32)*(yM .u64 a1 4294967295)))+(shr .u64 (IntKind.wrap .u64 ((yM .u64 a0 4294967295)*(yM .u64 a1 4294967295))) 32))) 4294967295)+(IntKind.wrap .u64 ((yM .u64 a0 4294967295)*(shr .u64 a1 32))))) 32))),(IntKind.wrap .u64 (a0*a1)))
def yHm (k:Nat)(a0:Int):Option Int:=
 cond (decide (a0≥4294967296)) (cond (decide ((shr .u64 a0 32)≥65536)) (cond (decide ((shr .u64 (shr .u64 a0 32) 16)≥256)) (cond (zB (IntKind.wrap .u8 ((shr .u64 (shr .u64 (shr .u64 a0 32) 16) 8))) lW.length) (some (zA (56+(zA ((lW.getD (IntKind.wrap .u8 ((shr .u64 (shr .u64 (shr .u64 a0 32) 16) 8))).toNat 0)))))) none)<|cond (zB (IntKind.wrap .u8 ((shr .u64 (shr .u64 a0 32) 16))) lW.length) (some (zA (48+(zA ((lW.getD (IntKind.wrap .u8 ((shr .u64 (shr .u64 a0 32) 16))).toNat 0)))))) none)<|cond (decide ((shr .u64 a0 32)≥256)) (cond (zB (IntKind.wrap .u8 ((shr .u64 (shr .u64 a0 32) 8))) lW.length) (some (zA (40+(zA ((lW.getD (IntKind.wrap .u8 ((shr .u64 (shr .u64 a0 32) 8))).toNat 0)))))) none)<|cond (zB (IntKind.wrap .u8 ((shr .u64 a0 32))) lW.length) (some (zA (32+(zA ((lW.getD (IntKind.wrap .u8 ((shr .u64 a0 32))).toNat 0)))))) none)<|cond (decide (a0≥65536)) (cond (decide ((shr .u64 a0 16)≥256)) (cond (zB (IntKind.wrap .u8 ((shr .u64 (shr .u64 a0 16) 8))) lW.length) (some (zA (24+(zA ((lW.getD (IntKind.wrap .u8 ((shr .u64 (shr .u64 a0 16) 8))).toNat 0)))))) none)<|cond (zB (IntKind.wrap .u8 ((shr .u64 a0 16))) lW.length) (some (zA (16+(zA ((lW.getD (IntKind.wrap .u8 ((shr .u64 a0 16))).toNat 0)))))) none)<|cond (decide (a0≥256)) (cond (zB (IntKind.wrap .u8 ((shr .u64 a0 8))) lW.length) (some (zA (8+(zA ((lW.getD (IntKind.wrap .u8 ((shr .u64 a0 8))).toNat 0)))))) none)<|cond (zB (IntKind.wrap .u8 (a0)) lW.length) (some (zA (0+(zA ((lW.getD (IntKind.wrap .u8 (a0)).toNat 0)))))) none
def qYr (k:Nat)(a0:Int):Option Int:=
 (yHm k a0).bind fun x0=>some (zA (64-x0))
abbrev qPu:Type:=Int→Int→Int→Int→Int→Int→Int→Int→Int→Option zW
def Nd (k:Nat)(rec:qPu):qPu:=fun s2 s8 s9 av aP bm bh aQ bE=>
 cond (decide (aQ≥4294967296)) (cond (decide ((IntKind.wrap .u64 (bE+s9))≥4294967296)) (some (s2,s8,s9,av,aP,bm,bh,(IntKind.wrap .u64 (aQ-1))))<|rec s2 s8 s9 av aP bm bh (IntKind.wrap .u64 (aQ-1)) (IntKind.wrap .u64 (bE+s9)))<|cond (decide ((IntKind.wrap .u64 (aQ * av))>(IntKind.wrap .u64 ((IntKind.wrap .u64 (4294967296 * bE))+bm)))) (cond (decide ((IntKind.wrap .u64 (bE+s9))≥4294967296)) (some (s2,s8,s9,av,aP,bm,bh,(IntKind.wrap .u64 (aQ-1))))<|rec s2 s8 s9 av aP bm bh (IntKind.wrap .u64 (aQ-1)) (IntKind.wrap .u64 (bE+s9)))<|some (s2,s8,s9,av,aP,bm,bh,aQ)
def zv (k:Nat):Nat→qPu:=qY (fun _ _ _ _ _ _ _ _ _=>none) (Nd k)
abbrev yFr:Type:=Int→Int→Int→Int→Int→Int→Int→Int→Int→Option Ow
def Nf (k:Nat)(rec:yFr):yFr:=fun s2 s8 s9 av bh aQ bE bc gf=>
 cond (decide (gf≥4294967296)) (cond (decide ((IntKind.wrap .u64 (bE+s9))≥4294967296)) (some (s2,s8,bh,aQ,bc,(IntKind.wrap .u64 (gf-1))))<|rec s2 s8 s9 av bh aQ (IntKind.wrap .u64 (bE+s9)) bc (IntKind.wrap .u64 (gf-1)))<|cond (decide ((IntKind.wrap .u64 (gf * av))>(IntKind.wrap .u64 ((IntKind.wrap .u64 (4294967296 * bE))+bh)))) (cond (decide ((IntKind.wrap .u64 (bE+s9))≥4294967296)) (some (s2,s8,bh,aQ,bc,(IntKind.wrap .u64 (gf-1))))<|rec s2 s8 s9 av bh aQ (IntKind.wrap .u64 (bE+s9)) bc (IntKind.wrap .u64 (gf-1)))<|some (s2,s8,bh,aQ,bc,gf)
def zw (k:Nat):Nat→yFr:=qY (fun _ _ _ _ _ _ _ _ _=>none) (Nf k)
def Gz (k:Nat)(a0 a1 a2:Int):Option vW:=
 cond (decide (a2=0)) none<|cond (decide (a2≤a0)) none<|cond (decide (a0=0)) (cond (!(decide (a2=0))) (cond (!(decide (a2=0))) (some ((IntKind.wrap .u64 (Int.tdiv a1 a2)),(Int.tmod a1 a2))) none) none)<|(qYr k a2).bind fun x0=>cond (!(decide ((IntKind.wrap .u64 (x0))<0))) (cond (!(decide ((IntKind.wrap .u64 (x0))<0))) (cond (!(decide ((IntKind.wrap .u64 (64 - (IntKind.wrap .u64 (x0))))<0))) (cond (!(decide ((IntKind.wrap .u64 (x0))<0))) (cond (!(decide ((shr .u64 (shl .u64 a2 (IntKind.wrap .u64 (x0))) 32)=0))) ((zv k k (shl .u64 a2 (IntKind.wrap .u64 (x0))) (IntKind.wrap .u64 (x0)) (shr .u64 (shl .u64 a2 (IntKind.wrap .u64 (x0))) 32) (yM .u64 (shl .u64 a2 (IntKind.wrap .u64 (x0))) 4294967295) (wV .u64 (shl .u64 a0 (IntKind.wrap .u64 (x0))) (shr .u64 a1 (IntKind.wrap .u64 (64-(IntKind.wrap .u64 (x0)))))) (shr .u64 (shl .u64 a1 (IntKind.wrap .u64 (x0))) 32) (yM .u64 (shl .u64 a1 (IntKind.wrap .u64 (x0))) 4294967295) (IntKind.wrap .u64 (Int.tdiv (wV .u64 (shl .u64 a0 (IntKind.wrap .u64 (x0))) (shr .u64 a1 (IntKind.wrap .u64 (64-(IntKind.wrap .u64 (x0)))))) (shr .u64 (shl .u64 a2 (IntKind.wrap .u64 (x0))) 32))) (IntKind.wrap .u64 ((wV .u64 (shl .u64 a0 (IntKind.wrap .u64 (x0))) (shr .u64 a1 (IntKind.wrap .u64 (64-(IntKind.wrap .u64 (x0))))))-(IntKind.wrap .u64 ((IntKind.wrap .u64 (Int.tdiv (wV .u64 (shl .u64 a0 (IntKind.wrap .u64 (x0))) (shr .u64 a1 (IntKind.wrap .u64 (64-(IntKind.wrap .u64 (x0)))))) (shr .u64 (shl .u64 a2 (IntKind.wrap .u64 (x0))) 32)))*(shr .u64 (shl .u64 a2 (IntKind.wrap .u64 (x0))) 32)))))).bind fun z=>cond (!(decide (z.2.2.1=0))) ((zw k k z.1 z.2.1 z.2.2.1 z.2.2.2.1 z.2.2.2.2.2.2.1 z.2.2.2.2.2.2.2 (IntKind.wrap .u64 ((IntKind.wrap .u64 ((IntKind.wrap .u64 ((IntKind.wrap .u64 (z.2.2.2.2.1*4294967296))+z.2.2.2.2.2.1))-(IntKind.wrap .u64 (z.2.2.2.2.2.2.2*z.1))))-(IntKind.wrap .u64 ((IntKind.wrap .u64 (Int.tdiv (IntKind.wrap .u64 ((IntKind.wrap .u64 ((IntKind.wrap .u64 (z.2.2.2.2.1*4294967296))+z.2.2.2.2.2.1))-(IntKind.wrap .u64 (z.2.2.2.2.2.2.2*z.1)))) z.2.2.1))*z.2.2.1)))) (IntKind.wrap .u64 ((IntKind.wrap .u64 ((IntKind.wrap .u64 (z.2.2.2.2.1*4294967296))+z.2.2.2.2.2.1))-(IntKind.wrap .u64 (z.2.2.2.2.2.2.2*z.1)))) (IntKind.wrap .u64 (Int.tdiv (IntKind.wrap .u64 ((IntKind.wrap .u64 ((IntKind.wrap .u64 (z.2.2.2.2.1*4294967296))+z.2.2.2.2.2.1))-(IntKind.wrap .u64 (z.2.2.2.2.2.2.2*z.1)))) z.2.2.1))).bind fun z1=>cond (!(decide (z1.2.1<0))) (some ((IntKind.wrap .u64 ((IntKind.wrap .u64 (z1.2.2.2.1*4294967296))+z1.2.2.2.2.2)),(shr .u64 (IntKind.wrap .u64 ((IntKind.wrap .u64 ((IntKind.wrap .u64 (z1.2.2.2.2.1*4294967296))+z1.2.2.1))-(IntKind.wrap .u64 (z1.2.2.2.2.2*z1.1)))) z1.2.1))) none) none) none) none) none) none) none
def GA (k:Nat)(a0 a1 a2:Int):Option eX:=
 cond (decide (a0<0)) (some (0,false))<|cond (decide (a1<0)) (some (0,false))<|(L6 k a2).bind fun x0=>cond (!x0) (some (0,false))<|(Gy k (IntKind.wrap .u64 (a0)) (IntKind.wrap .u64 (a1))).bind fun x1=>(Gz k (Int.tmod x1.1 10000) x1.2 10000).bind fun x2=>(Gy k x2.1 (IntKind.wrap .u64 ((zA (10000-a2))))).bind fun x3=>(BY k x3.2 (IntKind.wrap .u64 (Int.tdiv (IntKind.wrap .u64 (x2.2*(IntKind.wrap .u64 ((zA (10000-a2)))))) 10000)) 0).bind fun x4=>cond (decide ((IntKind.wrap .u64 (Int.tdiv x1.1 10000))>0)) (cond (decide ((IntKind.wrap .u64 ((zA (10000-a2))))>0)) (some (0,false))<|cond (decide ((IntKind.wrap .u64 (x3.1+x4.2))>0)) (some (0,false))<|cond (decide (x4.1>9223372036854775807)) (some (0,false))<|some ((zA (x4.1)),true))<|cond (decide ((IntKind.wrap .u64 (x3.1+x4.2))>0)) (some (0,false))<|cond (decide (x4.1>9223372036854775807)) (some (0,false))<|some ((zA (x4.1)),true)
abbrev yAv:Type:=Int→Int→AC→Int→Int→Option vW
def Gx (k:Nat)(rec:yAv):yAv:=fun s4 s5 s9 av aP=>
 cond (decide (aP<av)) (cond (zB aP s9.length) ((BY k s5 (IntKind.wrap .u64 ((s9.getD aP.toNat 0))) 0).bind fun x0=>rec (zA (s4+(zA ((shr .i64 (s9.getD aP.toNat 0) 63)+(zA (x0.2)))))) x0.1 s9 av (zA (aP+1))) none)<|some (s4,s5)
def Gw (k:Nat):Nat→yAv
 |0,_,_,_,_,_=>none
 |n+1,s4,s5,s9,av,aP=>Gx k (Gw k n) s4 s5 s9 av aP
def Gv (k:Nat)(a0:AC):Option eX:=
 (Gw k k 0 0 a0 (a0.length:Int) 0).bind fun z=>cond (!(decide (z.1=(shr .i64 (zA (z.2)) 63)))) (some (0,false))<|some ((zA (z.2)),true)
abbrev qQu:Type:=AC→AC→List vW→Int→Int→AC→Option (AC⊕eX)
def td (k:Nat)(rec:qQu):qQu:=fun s1 s2 kC aY fP r0=>
 cond (decide (fP<aY)) (cond (zB fP kC.length) (cond (zB fP s1.length) (cond (zB fP s2.length) ((GA k (s1.getD fP.toNat 0) (s2.getD fP.toNat 0) (kC.getD fP.toNat (0,0)).2).bind fun x0=>cond (!x0.2) (some (.inr (0,false)))<|cond (zL (r0.length+1) 8) (rec s1 s2 kC aY (zA (fP+1)) (r0++[x0.1])) none) none) none) none)<|some (.inl r0)
def rf (k:Nat):Nat→qQu:=qY (fun _ _ _ _ _ _=>none) (td k)
def nv (k:Nat)(a0:List vW)(a1 a2:AC):Option eX:=
 cond (!(decide ((a1.length:Int)=(a0.length:Int)))) (some (0,false))<|cond (!(decide ((a2.length:Int)=(a0.length:Int)))) (some (0,false))<|(rf k k a1 a2 a0 (a0.length:Int) 0 []).bind fun z=>match z with
 |.inl z1=>(Gv k z1).bind fun x1=>some (x1.1,x1.2)
 |.inr z2=>some (z2.1,z2.2)
def Ry (k:Nat)(a0:jS)(a1 a2:Int):Option (Int×jS):=
 (Ob k a0 a1).bind fun x0=>cond (!x0) (some (1,a0))<|(vK k a2 0 1099511627776).bind fun x1=>cond (!x1) (some (1,a0))<|(He k a0.2.2.2.2.2.2.2.2.2.2.2.1).bind fun x2=>cond (zB a0.2.2.2.2.2.2.2.2.2.2.2.2.2.2.2.2.1 x2.length) ((rj k (x2.getD a0.2.2.2.2.2.2.2.2.2.2.2.2.2.2.2.2.1.toNat []) a1 a2).bind fun x3=>cond (zB a0.2.2.2.2.2.2.2.2.2.2.2.2.2.2.2.2.1 x2.length) (let y0:EQ:=(x2.set a0.2.2.2.2.2.2.2.2.2.2.2.2.2.2.2.2.1.toNat x3)
   cond (zB a0.2.2.2.2.2.2.2.2.2.2.2.2.2.2.2.2.1 y0.length) ((nv k a0.2.1 a0.2.2.2.2.2.2.2.2.2.2.1 (y0.getD a0.2.2.2.2.2.2.2.2.2.2.2.2.2.2.2.2.1.toNat [])).bind fun x4=>cond (zB a0.2.2.2.2.2.2.2.2.2.2.2.2.2.2.2.2.1 a0.2.2.2.2.2.2.1.length) (cond (!x4.2) (some (8,a0))<|cond (decide (x4.1>1152921504606846976)) (some (8,a0))<|cond (decide (x4.1<(a0.2.2.2.2.2.2.1.getD a0.2.2.2.2.2.2.2.2.2.2.2.2.2.2.2.2.1.toNat ala).2.1)) (cond (decide ((zA ((a0.2.2.2.2.2.2.1.getD a0.2.2.2.2.2.2.2.2.2.2.2.2.2.2.2.2.1.toNat ala).1+x4.1))<0)) (some (9,a0))<|(gG k a0.2.2.2.2.2.2.1 a0.2.2.2.2.2.2.2.1 a0.2.2.2.2.2.2.2.2.1 a0.2.2.2.2.2.2.2.2.2.1).bind fun x5=>cond (zB a0.2.2.2.2.2.2.2.2.2.2.2.2.2.2.2.2.1 x5.1.length) (let y1:List zK:=(x5.1.set a0.2.2.2.2.2.2.2.2.2.2.2.2.2.2.2.2.1.toNat ((x5.1.getD a0.2.2.2.2.2.2.2.2.2.2.2.2.2.2.2.2.1.toNat ala).1,x4.1,(x5.1.getD a0.2.2.2.2.2.2.2.2.2.2.2.2.2.2.2.2.1.toNat ala).2.2))
       some (0,(jF a0 (y1,x5.2.1,x5.2.2.1,x5.2.2.2,a0.2.2.2.2.2.2.2.2.2.2.1,y0,a0.2.2.2.2.2.2.2.2.2.2.2.2)))) none)<|(gG k a0.2.2.2.2.2.2.1 a0.2.2.2.2.2.2.2.1 a0.2.2.2.2.2.2.2.2.1 a0.2.2.2.2.2.2.2.2.2.1).bind fun x6=>cond (zB a0.2.2.2.2.2.2.2.2.2.2.2.2.2.2.2.2.1 x6.1.length) (let y2:List zK:=(x6.1.set a0.2.2.2.2.2.2.2.2.2.2.2.2.2.2.2.2.1.toNat ((x6.1.getD a0.2.2.2.2.2.2.2.2.2.2.2.2.2.2.2.2.1.toNat ala).1,x4.1,(x6.1.getD a0.2.2.2.2.2.2.2.2.2.2.2.2.2.2.2.2.1.toNat ala).2.2))
      some (0,(jF a0 (y2,x6.2.1,x6.2.2.1,x6.2.2.2,a0.2.2.2.2.2.2.2.2.2.2.1,y0,a0.2.2.2.2.2.2.2.2.2.2.2.2)))) none) none) none) none) none
def Rz (k:Nat)(a0 a1:Int):Option eX:=
 cond (decide (a1>0)) (cond (decide (a0>(zA (9223372036854775807-a1)))) (some (0,false))<|cond (decide (a1<0)) (cond (decide (a0<(zA ((-9223372036854775808)-a1)))) (some (0,false))<|some ((zA (a0+a1)),true))<|some ((zA (a0+a1)),true))<|cond (decide (a1<0)) (cond (decide (a0<(zA ((-9223372036854775808)-a1)))) (some (0,false))<|some ((zA (a0+a1)),true))<|some ((zA (a0+a1)),true)
def Qj (k:Nat)(jm jn fl:Int):Option Bool:=
 cond (decide (jm>(-4611686018427387904))) (cond (decide (jm<4611686018427387904)) (cond (decide (jn≥0)) (cond (decide (jn≤2305843009213693952)) (cond (decide (fl≥0)) (some (decide (fl≤2305843009213693952)))<|some false)<|some false)<|some false)<|some false)<|some false
def My (k:Nat)(a0:zK)(a1:Int):Option (zK×Int):=
 (Rz k a0.1 a1).bind fun x0=>cond (!x0.2) (some (a0,8))<|(Qj k x0.1 a0.2.1 a0.2.2).bind fun x1=>cond (!x1) (some (a0,8))<|some ((x0.1,a0.2),0)
def HC (k:Nat)(a0:zK)(a1:Int):Option (zK×Int):=
 (My k a0 a1).bind fun x0=>some (x0.1,x0.2)
def ya (k:Nat)(jm jn fl a1:Int):Option Int:=
 some (yI false (zA (fl-a1)) 0)
def HD (k:Nat)(a0:zK)(a1 a2:Int):Option (zK×Int):=
 (My k a0 (zA (0-a1))).bind fun x0=>cond (decide (x0.2=0)) (cond (decide (a2=1)) ((ya k a0.1 a0.2.1 a0.2.2 a1).bind fun x1=>some ((x0.1.1,x0.1.2.1,x1),x0.2))<|cond (decide (a2=2)) ((ya k a0.1 a0.2.1 a0.2.2 a1).bind fun x2=>some ((x0.1.1,x0.1.2.1,x2),x0.2))<|some (x0.1,x0.2))<|some (x0.1,x0.2)
def HE (k:Nat)(a0:zK)(a1:Int):Option Int:=
 cond (decide (a1=3)) (some (zA ((zA (a0.1+a0.2.1))-a0.2.2)))<|some (zA (a0.1+a0.2.1))
def qW4 (k:Nat)(a0:jS)(a1 a2 a3:Int):Option (Int×jS):=
 (vK k a2 0 (zA (a0.1-1))).bind fun x0=>cond (!x0) (some (1,a0))<|(vK k a3 1 1099511627776).bind fun x1=>cond (!x1) (some (1,a0))<|cond (zB a2 a0.2.2.2.2.2.2.1.length) ((HC k (a0.2.2.2.2.2.2.1.getD a2.toNat ala) a3).bind fun x2=>cond (decide (a1=11)) ((HD k (a0.2.2.2.2.2.2.1.getD a2.toNat ala) a3 3).bind fun x3=>(HE k (a0.2.2.2.2.2.2.1.getD a2.toNat ala) 3).bind fun x4=>cond (decide (x4<a3)) (some (9,a0))<|cond (decide ((zA (a0.2.2.2.2.2.2.2.2.2.2.2.2.2.2.1-a3))<0)) (some (9,a0))<|cond (!(decide (x3.2=0))) (some (x3.2,a0))<|cond (decide ((zA (a0.2.2.2.2.2.2.2.2.2.2.2.2.2.2.1-a3))>1152921504606846976)) (some (8,a0))<|(gG k a0.2.2.2.2.2.2.1 a0.2.2.2.2.2.2.2.1 a0.2.2.2.2.2.2.2.2.1 a0.2.2.2.2.2.2.2.2.2.1).bind fun x5=>cond (zB a2 x5.1.length) (some (0,(jF a0 ((x5.1.set a2.toNat x3.1),x5.2.1,x5.2.2.1,x5.2.2.2,(Jn a0 ((zA (a0.2.2.2.2.2.2.2.2.2.2.2.2.2.2.1-a3)),a0.2.2.2.2.2.2.2.2.2.2.2.2.2.2.2)))))) none)<|cond (!(decide (x2.2=0))) (some (x2.2,a0))<|cond (decide ((zA (a0.2.2.2.2.2.2.2.2.2.2.2.2.2.2.1+a3))>1152921504606846976)) (some (8,a0))<|(gG k a0.2.2.2.2.2.2.1 a0.2.2.2.2.2.2.2.1 a0.2.2.2.2.2.2.2.2.1 a0.2.2.2.2.2.2.2.2.2.1).bind fun x6=>cond (zB a2 x6.1.length) (some (0,(jF a0 ((x6.1.set a2.toNat x2.1),x6.2.1,x6.2.2.1,x6.2.2.2,(Jn a0 ((zA (a0.2.2.2.2.2.2.2.2.2.2.2.2.2.2.1+a3)),a0.2.2.2.2.2.2.2.2.2.2.2.2.2.2.2)))))) none) none
abbrev yGm:Type:=(lV×(List zW)×AC×(List zK)×EQ×AC×EQ)⊕(Int×lV×(List zW))
abbrev qSe:Type:=EQ→Int→Int→lV→List zW→AC→List zK→EQ→AC→EQ→Option yGm
def vMq (k:Nat)(rec:qSe):qSe:=fun gP ju lB b0 r1 r2 r4 m5 r6 m7=>
 cond (decide (lB<ju)) (cond (zB lB gP.length) ((nv k b0.2.1 r2 (gP.getD lB.toNat [])).bind fun x4=>cond (!x4.2) (some (.inr (8,b0,r1)))<|cond (decide (x4.1>1152921504606846976)) (some (.inr (8,b0,r1)))<|cond (zB lB r4.length) (let y0:List zK:=(r4.set lB.toNat ((r4.getD lB.toNat ala).1,x4.1,(r4.getD lB.toNat ala).2.2))
    rec gP ju (zA (lB+1)) b0 r1 r2 y0 m5 r6 m7) none) none)<|some (.inl (b0,r1,r2,r4,m5,r6,m7))
def yDm (k:Nat):Nat→qSe:=qY (fun _ _ _ _ _ _ _ _ _ _=>none) (vMq k)
def yYq (k:Nat)(a0:jS)(a1 a2:Int):Option (Int×jS):=
 (Ob k a0 a1).bind fun x0=>cond (!x0) (some (1,a0))<|(vK k a2 0 1048576).bind fun x1=>cond (!x1) (some (1,a0))<|(rj k a0.2.2.2.2.2.2.2.2.2.2.1 a1 a2).bind fun x2=>(gG k a0.2.2.2.2.2.2.1 a0.2.2.2.2.2.2.2.1 a0.2.2.2.2.2.2.2.2.1 a0.2.2.2.2.2.2.2.2.2.1).bind fun x3=>(yDm k k a0.2.2.2.2.2.2.2.2.2.2.2.1 (a0.2.2.2.2.2.2.2.2.2.2.2.1.length:Int) 0 (lT a0) a0.2.2.2.2.2.2.2.2.2.2.2.2.2.2.2.2.2 x2 x3.1 x3.2.1 x3.2.2.1 x3.2.2.2).bind fun z=>match z with
 |.inl z1=>some (0,(jF z1.1 (ajo z1 (z1.2.2.1,(yBa z1.1 z1.2.1)))))
 |.inr z2=>some (z2.1,(vQ z2.2.1 z2.2.2))
def Sc (k:Nat)(a0:jS)(a1:zD):Option (Int×jS):=
 cond (decide (a1.1=1)) ((Rx k a0 a1.2).bind fun x0=>some (x0.1,x0.2))<|cond (decide (a1.1=2)) ((CA k a0 a1).bind fun x1=>some (x1.1,x1.2))<|cond (decide (a1.1=3)) ((CA k a0 a1).bind fun x2=>some (x2.1,x2.2))<|cond (decide (a1.1=4)) ((CA k a0 a1).bind fun x3=>some (x3.1,x3.2))<|cond (decide (a1.1=5)) ((CB k a0 a1).bind fun x4=>some (x4.1,x4.2))<|cond (decide (a1.1=6)) ((CB k a0 a1).bind fun x5=>some (x5.1,x5.2))<|cond (decide (a1.1=7)) ((CB k a0 a1).bind fun x6=>some (x6.1,x6.2))<|cond (decide (a1.1=8)) ((Ry k a0 a1.2.1 a1.2.2.1).bind fun x7=>some (x7.1,x7.2))<|cond (decide (a1.1=10)) ((qW4 k a0 a1.1 a1.2.1 a1.2.2.1).bind fun x8=>some (x8.1,x8.2))<|cond (decide (a1.1=11)) ((qW4 k a0 a1.1 a1.2.1 a1.2.2.1).bind fun x9=>some (x9.1,x9.2))<|cond (decide (a1.1=12)) ((yYq k a0 a1.2.1 a1.2.2.1).bind fun bV=>some (bV.1,bV.2))<|some (0,a0)
def Cy (k:Nat)(di:Int)(dR:List vW)(dU dj cm a1:Int):Option Bool:=
 some (decide (a1=dj))
def rr (k:Nat)(a0 a1:Int)(a2:AC):Option zW:=
 some (a0,a1,(cond (Nat.blt 0 a2.length) (a2.getD 0 0)<|0),(cond (Nat.blt 1 a2.length) (a2.getD 1 0)<|0),(cond (Nat.blt 2 a2.length) (a2.getD 2 0)<|0),(cond (Nat.blt 3 a2.length) (a2.getD 3 0)<|0),(cond (Nat.blt 4 a2.length) (a2.getD 4 0)<|0),(cond (Nat.blt 5 a2.length) (a2.getD 5 0)<|0))
abbrev yBn:Type:=Int×(List zK)×EQ×AC×EQ×AC×EQ×(List zD)×AC×Int×Bool×Int×Int×Bool×(List zW)
abbrev qXz:Type:=List zD→Int→Int→Int→List zK→EQ→AC→EQ→AC→EQ→List zD→AC→Int→Bool→Int→Int→Bool→List zW→Option yBn
def G6 (k:Nat)(rec:qXz):qXz:=fun av aP bM af ai aj ah bb bp bq dV dW dX bY aw bD aX r2=>
 cond (decide (bM<aP)) (cond (zB bM av.length) ((rr k (av.getD bM.toNat ama).2.1 22 [(av.getD bM.toNat ama).1]).bind fun x0=>cond (zL (r2.length+1) 64) (rec av aP (zA (bM+1)) af ai aj ah bb bp bq dV dW dX bY aw bD aX (r2++[x0])) none) none)<|some (af,ai,aj,ah,bb,bp,bq,dV,dW,dX,bY,aw,bD,aX,r2)
def G5 (k:Nat):Nat→qXz
 |0,_,_,_,_,_,_,_,_,_,_,_,_,_,_,_,_,_,_=>none
 |n+1,av,aP,bM,af,ai,aj,ah,bb,bp,bq,dV,dW,dX,bY,aw,bD,aX,r2=>G6 k (G5 k n) av aP bM af ai aj ah bb bp bq dV dW dX bY aw bD aX r2
abbrev qTc:Type:=List zK→Int→Int→Int→List zK→EQ→AC→EQ→AC→EQ→List zD→AC→Int→Bool→Int→Int→Bool→List zW→Option yBn
def G8 (k:Nat)(rec:qTc):qTc:=fun lY fQ mR af ai aj ah bb bp bq dV dW dX bY aw bD aX r2=>
 cond (decide (mR<fQ)) (cond (zB mR lY.length) ((rr k mR 23 [(lY.getD mR.toNat ala).1]).bind fun x1=>cond (zL (r2.length+1) 64) (rec lY fQ (zA (mR+1)) af ai aj ah bb bp bq dV dW dX bY aw bD aX (r2++[x1])) none) none)<|some (af,ai,aj,ah,bb,bp,bq,dV,dW,dX,bY,aw,bD,aX,r2)
def Mu (k:Nat):Nat→qTc
 |0,_,_,_,_,_,_,_,_,_,_,_,_,_,_,_,_,_,_=>none
 |n+1,lY,fQ,mR,af,ai,aj,ah,bb,bp,bq,dV,dW,dX,bY,aw,bD,aX,r2=>G8 k (Mu k n) lY fQ mR af ai aj ah bb bp bq dV dW dX bY aw bD aX r2
def Rv (k:Nat)(mO:Int)(rI:List zK)(rJ:EQ)(rK:AC)(rL:EQ)(rM:AC)(rN:EQ)(mP:List zD)(rO:AC)(rP:Int)(rQ:Bool):Option Uf:=
 (G5 k k mP (mP.length:Int) 0 mO rI rJ rK rL rM rN mP rO rP rQ 0 0 false []).bind fun z=>(Mu k k z.2.1 (z.2.1.length:Int) 0 z.1 z.2.1 z.2.2.1 z.2.2.2.1 z.2.2.2.2.1 z.2.2.2.2.2.1 z.2.2.2.2.2.2.1 z.2.2.2.2.2.2.2.1 z.2.2.2.2.2.2.2.2.1 z.2.2.2.2.2.2.2.2.2.1 z.2.2.2.2.2.2.2.2.2.2.1 z.2.2.2.2.2.2.2.2.2.2.2.1 z.2.2.2.2.2.2.2.2.2.2.2.2.1 z.2.2.2.2.2.2.2.2.2.2.2.2.2.1 z.2.2.2.2.2.2.2.2.2.2.2.2.2.2).bind fun z1=>some (ku z1 ([],z1.2.2.2.2.2.2.2.2.1,z1.2.2.2.2.2.2.2.2.2.1,true,z1.2.2.2.2.2.2.2.2.2.2.2.2.2.2))
def yA8 (k:Nat)(cj bj bB cy bN cd bP a1:Int):Option Bool:=
 some (decide (a1>bP))
def Hb (k:Nat)(di:Int)(dR:List vW)(dU dj cm a1:Int):Option Bool:=
 cond (decide (a1>0)) (cond (decide (a1<dj)) (cond (!(decide (cm=0))) (some (decide ((Int.tmod a1 cm)=0))) none)<|some false)<|some false
def ZZ (k:Nat)(cj bj bB cy bN cd bP a1:Int):Option Bool:=
 cond (decide (a1≥cd)) (some (decide (a1≤bP)))<|some false
def ZY (k:Nat)(cj bj bB cy bN cd bP a1:Int):Option Bool:=
 (ZZ k cj bj bB cy bN cd bP a1).bind fun x0=>some x0
def F3 (k:Nat)(rec:yGa):yGa:=fun s8 s9 av af r1=>
 cond (decide (av<s9)) (cond (zB av s8.length) ((ZY k (s8.getD av.toNat ama).1 (s8.getD av.toNat ama).2.1 (s8.getD av.toNat ama).2.2.1 (s8.getD av.toNat ama).2.2.2.1 (s8.getD av.toNat ama).2.2.2.2.1 (s8.getD av.toNat ama).2.2.2.2.2.1 (s8.getD av.toNat ama).2.2.2.2.2.2 af).bind fun x0=>cond x0 (cond (zL (r1.length+1) 56) (let y0:List zD:=(r1++[(s8.getD av.toNat ama)])
     rec s8 s9 (zA (av+1)) af y0) none)<|rec s8 s9 (zA (av+1)) af r1) none)<|some r1
def LI (k:Nat):Nat→yGa
 |0,_,_,_,_,_=>none
 |n+1,s8,s9,av,af,r1=>F3 k (LI k n) s8 s9 av af r1
def ZX (k:Nat)(a0:List zD)(cX:Int):Option (List zD):=
 (LI k k a0 (a0.length:Int) 0 cX []).bind fun z=>some z
def F2 (k:Nat)(a0:List zD)(a1:Int):Option (List zD):=
 (ZX k a0 a1).bind fun x0=>some x0
def Z5 (k:Nat)(cj bj bB cy bN cd bP ij cz dz eA dA jk jl:Int):Option Bool:=
 cond (decide (bj=cz)) (some (!(decide (bN=3))))<|some false
abbrev qZm:Type:=List zD→Int→Int→Int→Int→Int→Int→Int→Int→Int→Option (Unit⊕Int)
def Ga (k:Nat)(rec:qZm):qZm:=fun s0 s7 s8 af ai aj ah bb bp bq=>
 cond (decide (s8<s7)) (cond (zB s8 s0.length) ((Z5 k (s0.getD s8.toNat ama).1 (s0.getD s8.toNat ama).2.1 (s0.getD s8.toNat ama).2.2.1 (s0.getD s8.toNat ama).2.2.2.1 (s0.getD s8.toNat ama).2.2.2.2.1 (s0.getD s8.toNat ama).2.2.2.2.2.1 (s0.getD s8.toNat ama).2.2.2.2.2.2 af ai aj ah bb bp bq).bind fun x0=>cond x0 (some (.inr s8))<|rec s0 s7 (zA (s8+1)) af ai aj ah bb bp bq) none)<|some (.inl ())
def LN (k:Nat):Nat→qZm
 |0,_,_,_,_,_,_,_,_,_,_=>none
 |n+1,s0,s7,s8,af,ai,aj,ah,bb,bp,bq=>Ga k (LN k n) s0 s7 s8 af ai aj ah bb bp bq
def Z6 (k:Nat)(a0:List zD)(mS gk mT dB eE eF gl:Int):Option Int:=
 (LN k k a0 (a0.length:Int) 0 mS gk mT dB eE eF gl).bind fun z=>match z with
 |.inl z1=>some (-1)
 |.inr z2=>some z2
def QY (k:Nat)(a0:List zD)(mS gk mT dB eE eF gl:Int):Option Bool:=
 (Z6 k a0 mS gk mT dB eE eF gl).bind fun x0=>some (decide (x0≥0))
def yDi (k:Nat)(cj bj bB cy bN cd bP:Int)(a1:List eX)(a2:List zD):Option (Bool×(List eX)):=
 cond (!(Option.getD (List.lookup bj a1) false)) (some (true,((bj,true)::a1)))<|cond (decide (bN=3)) ((QY k a2 cj bj bB cy bN cd bP).bind fun x0=>some ((!x0),((bj,true)::a1)))<|some (false,((bj,true)::a1))
abbrev qRl:Type:=(List eX)×(List zD)×(List zD)
abbrev qNr:Type:=List zD→Int→Int→List eX→List zD→List zD→Option qRl
def Gd (k:Nat)(rec:qNr):qNr:=fun s8 s9 av p1 bd r3=>
 cond (decide (av<s9)) (cond (zB av s8.length) ((yDi k (s8.getD av.toNat ama).1 (s8.getD av.toNat ama).2.1 (s8.getD av.toNat ama).2.2.1 (s8.getD av.toNat ama).2.2.2.1 (s8.getD av.toNat ama).2.2.2.2.1 (s8.getD av.toNat ama).2.2.2.2.2.1 (s8.getD av.toNat ama).2.2.2.2.2.2 p1 bd).bind fun x0=>cond x0.1 (cond (zL (r3.length+1) 56) (let y0:List zD:=(r3++[(s8.getD av.toNat ama)])
     rec s8 s9 (zA (av+1)) x0.2 bd y0) none)<|rec s8 s9 (zA (av+1)) x0.2 bd r3) none)<|some (p1,bd,r3)
def Gc (k:Nat):Nat→qNr
 |0,_,_,_,_,_,_=>none
 |n+1,s8,s9,av,p1,bd,r3=>Gd k (Gc k n) s8 s9 av p1 bd r3
def Z9 (k:Nat)(a0:List zD)(cX:List eX)(ajq:List zD):Option ((List zD)×(List eX)):=
 (Gc k k a0 (a0.length:Int) 0 cX ajq []).bind fun z=>some (z.2.2,z.1)
def LO (k:Nat)(a0:List zD)(a1:Int):Option (List zD):=
 (F2 k a0 a1).bind fun x0=>(Z9 k x0 [] x0).bind fun x1=>some x1.1
def Fx (k:Nat)(au:List zK)(aB:EQ)(az:AC)(ax:EQ)(ij cz dz eA dA jk jl:Int):Option Bool:=
 cond (decide (cz≥0)) (cond (decide (cz<au.length)) (cond (decide (dz≥0)) (cond (decide (dz<au.length)) (cond (!(decide (cz=dz))) (cond (decide (eA≥1)) (cond (decide (eA≤1099511627776)) (cond (decide (dA≥1)) (some (decide (dA≤3)))<|some false)<|some false)<|some false)<|some false)<|some false)<|some false)<|some false)<|some false
def ZT (k:Nat)(cj bj bB cy bN cd bP:Int)(cW:List zK)(jo:EQ)(jq:AC)(jt:EQ):Option Bool:=
 (Fx k cW jo jq jt cj bj bB cy bN cd bP).bind fun x0=>some (!x0)
abbrev qV6:Type:=List zD→Int→Int→List zK→EQ→AC→EQ→Option (Unit⊕Int)
def F1 (k:Nat)(rec:qV6):qV6:=fun s0 s7 s8 af ai aj ah=>
 cond (decide (s8<s7)) (cond (zB s8 s0.length) ((ZT k (s0.getD s8.toNat ama).1 (s0.getD s8.toNat ama).2.1 (s0.getD s8.toNat ama).2.2.1 (s0.getD s8.toNat ama).2.2.2.1 (s0.getD s8.toNat ama).2.2.2.2.1 (s0.getD s8.toNat ama).2.2.2.2.2.1 (s0.getD s8.toNat ama).2.2.2.2.2.2 af ai aj ah).bind fun x0=>cond x0 (some (.inr s8))<|rec s0 s7 (zA (s8+1)) af ai aj ah) none)<|some (.inl ())
def LG (k:Nat):Nat→qV6
 |0,_,_,_,_,_,_,_=>none
 |n+1,s0,s7,s8,af,ai,aj,ah=>F1 k (LG k n) s0 s7 s8 af ai aj ah
def ZU (k:Nat)(a0:List zD)(bH:List zK)(cB:EQ)(cC:AC)(cD:EQ):Option Int:=
 (LG k k a0 (a0.length:Int) 0 bH cB cC cD).bind fun z=>match z with
 |.inl z1=>some (-1)
 |.inr z2=>some z2
def QT (k:Nat)(a0:List zD)(bH:List zK)(cB:EQ)(cC:AC)(cD:EQ):Option Bool:=
 (ZU k a0 bH cB cC cD).bind fun x0=>some (decide (x0≥0))
abbrev qQt:Type:=AC×AC×EQ
abbrev qOe:Type:=List zD→Int→Int→AC→AC→EQ→Option qQt
def FT (k:Nat)(rec:qOe):qOe:=fun aQ bE bc r2 r3 m4=>
 cond (decide (bc<bE)) (cond (zB bc aQ.length) (cond (zB (aQ.getD bc.toNat ama).2.1 r2.length) (cond (zB (aQ.getD bc.toNat ama).2.1 r2.length) (let y0:AC:=(r2.set (aQ.getD bc.toNat ama).2.1.toNat (zA ((r2.getD (aQ.getD bc.toNat ama).2.1.toNat 0)-(aQ.getD bc.toNat ama).2.2.2.1)))
     cond (zB (aQ.getD bc.toNat ama).2.2.1 y0.length) (cond (zB (aQ.getD bc.toNat ama).2.2.1 y0.length) (let y1:AC:=(y0.set (aQ.getD bc.toNat ama).2.2.1.toNat (zA ((y0.getD (aQ.getD bc.toNat ama).2.2.1.toNat 0)+(aQ.getD bc.toNat ama).2.2.2.1)))
       cond (zB (aQ.getD bc.toNat ama).2.1 m4.length) (cond (zB (aQ.getD bc.toNat ama).2.2.1 (m4.getD (aQ.getD bc.toNat ama).2.1.toNat []).length) (cond (zB (aQ.getD bc.toNat ama).2.2.1 (m4.getD (aQ.getD bc.toNat ama).2.1.toNat []).length) (let y2:EQ:=(m4.set (aQ.getD bc.toNat ama).2.1.toNat ((m4.getD (aQ.getD bc.toNat ama).2.1.toNat []).set (aQ.getD bc.toNat ama).2.2.1.toNat (zA (((m4.getD (aQ.getD bc.toNat ama).2.1.toNat []).getD (aQ.getD bc.toNat ama).2.2.1.toNat 0)+(aQ.getD bc.toNat ama).2.2.2.1))))
          cond (zB (aQ.getD bc.toNat ama).2.2.1 y2.length) (cond (zB (aQ.getD bc.toNat ama).2.1 (y2.getD (aQ.getD bc.toNat ama).2.2.1.toNat []).length) (cond (zB (aQ.getD bc.toNat ama).2.1 (y2.getD (aQ.getD bc.toNat ama).2.2.1.toNat []).length) (let y3:EQ:=(y2.set (aQ.getD bc.toNat ama).2.2.1.toNat ((y2.getD (aQ.getD bc.toNat ama).2.2.1.toNat []).set (aQ.getD bc.toNat ama).2.1.toNat (zA (((y2.getD (aQ.getD bc.toNat ama).2.2.1.toNat []).getD (aQ.getD bc.toNat ama).2.1.toNat 0)-(aQ.getD bc.toNat ama).2.2.2.1))))
             cond (!(decide ((aQ.getD bc.toNat ama).2.2.2.2.1=3))) (cond (zB (aQ.getD bc.toNat ama).2.1 r3.length) (cond (zB (aQ.getD bc.toNat ama).2.1 r3.length) (let y4:AC:=(r3.set (aQ.getD bc.toNat ama).2.1.toNat (zA ((r3.getD (aQ.getD bc.toNat ama).2.1.toNat 0)+(aQ.getD bc.toNat ama).2.2.2.1)))
                rec aQ bE (zA (bc+1)) y1 y4 y3) none) none)<|rec aQ bE (zA (bc+1)) y1 r3 y3) none) none) none) none) none) none) none) none) none) none) none)<|some (r2,r3,m4)
def LB (k:Nat):Nat→qOe
 |0,_,_,_,_,_,_=>none
 |n+1,aQ,bE,bc,r2,r3,m4=>FT k (LB k n) aQ bE bc r2 r3 m4
def QO (k:Nat)(a0:Int)(a1:List zD):Option (AC×AC×EQ):=
 (Cc k a0 0).bind fun x0=>(Cc k a0 0).bind fun x1=>(FQ k a0 0).bind fun x2=>(LB k k a1 (a1.length:Int) 0 x0 x1 x2).bind fun z=>some (z.1,z.2.1,z.2.2)
def ZK (k:Nat)(cj bj bB cy bN cd bP a1:Int):Option Bool:=
 some (decide (bj=a1))
def FU (k:Nat)(rec:yBx):yBx:=fun s0 s7 s8 af=>
 cond (decide (s8<s7)) (cond (zB s8 s0.length) ((ZK k (s0.getD s8.toNat ama).1 (s0.getD s8.toNat ama).2.1 (s0.getD s8.toNat ama).2.2.1 (s0.getD s8.toNat ama).2.2.2.1 (s0.getD s8.toNat ama).2.2.2.2.1 (s0.getD s8.toNat ama).2.2.2.2.2.1 (s0.getD s8.toNat ama).2.2.2.2.2.2 af).bind fun x0=>cond x0 (some (.inr s8))<|rec s0 s7 (zA (s8+1)) af) none)<|some (.inl ())
def LC (k:Nat):Nat→yBx
 |0,_,_,_,_=>none
 |n+1,s0,s7,s8,af=>FU k (LC k n) s0 s7 s8 af
def ZL (k:Nat)(a0:List zD)(cX:Int):Option Int:=
 (LC k k a0 (a0.length:Int) 0 cX).bind fun z=>match z with
 |.inl z1=>some (-1)
 |.inr z2=>some z2
def QP (k:Nat)(a0:List zD)(cX:Int):Option Bool:=
 (ZL k a0 cX).bind fun x0=>some (decide (x0≥0))
def FO (k:Nat)(rec:Int→AC→Int→Int→Option Int)(s5:Int)(bM:AC)(bm bh:Int):Option Int:=
 cond (decide (bh<bm)) (cond (zB bh bM.length) (rec (zA (s5+(bM.getD bh.toNat 0))) bM bm (zA (bh+1))) none)<|some s5
def FN (k:Nat):Nat→Int→AC→Int→Int→Option Int
 |0,_,_,_,_=>none
 |n+1,s5,bM,bm,bh=>FO k (FN k n) s5 bM bm bh
def QK (k:Nat)(au:List zK)(aB:EQ)(az:AC)(ax:EQ)(a1:Int):Option Int:=
 cond (zB a1 ax.length) ((FN k k 0 (ax.getD a1.toNat []) ((ax.getD a1.toNat []).length:Int) 0).bind fun z=>some z) none
def FW (k:Nat)(a0 a1:Int):Option Bool:=
 cond (!(decide (a1=(-1)))) (some (decide (a0>a1)))<|some false
def ZM (k:Nat)(cj bj bB cy bN cd bP a1 oN rT oO:Int)(ajr nL:AC)(eG:EQ)(a4:Int)(Uk:List zK)(iP:EQ)(ajE:AC)(iQ:EQ):Option Bool:=
 cond (!(decide (bj=a1))) (some false)<|cond (zB a1 nL.length) ((ya k oN rT oO (nL.getD a1.toNat 0)).bind fun x0=>cond (decide (bN=3)) (cond (decide (a4<x0)) (some true)<|cond (zB a1 iQ.length) (cond (zB bB (iQ.getD a1.toNat []).length) (cond (zB a1 eG.length) (cond (zB bB (eG.getD a1.toNat []).length) (cond (zB a1 iP.length) (cond (zB bB (iP.getD a1.toNat []).length) ((FW k (zA (((iQ.getD a1.toNat []).getD bB.toNat 0)+((eG.getD a1.toNat []).getD bB.toNat 0))) ((iP.getD a1.toNat []).getD bB.toNat 0)).bind fun x1=>some x1) none) none) none) none) none) none)<|cond (zB a1 iQ.length) (cond (zB bB (iQ.getD a1.toNat []).length) (cond (zB a1 eG.length) (cond (zB bB (eG.getD a1.toNat []).length) (cond (zB a1 iP.length) (cond (zB bB (iP.getD a1.toNat []).length) ((FW k (zA (((iQ.getD a1.toNat []).getD bB.toNat 0)+((eG.getD a1.toNat []).getD bB.toNat 0))) ((iP.getD a1.toNat []).getD bB.toNat 0)).bind fun x2=>some x2) none) none) none) none) none) none) none
abbrev qSc:Type:=List zD→Int→Int→Int→Int→Int→Int→AC→AC→EQ→Int→List zK→EQ→AC→EQ→Option (Unit⊕Int)
def FX (k:Nat)(rec:qSc):qSc:=fun s0 s7 s8 af aw aD aE bd bW bX cn jv wy wz w8=>
 cond (decide (s8<s7)) (cond (zB s8 s0.length) ((ZM k (s0.getD s8.toNat ama).1 (s0.getD s8.toNat ama).2.1 (s0.getD s8.toNat ama).2.2.1 (s0.getD s8.toNat ama).2.2.2.1 (s0.getD s8.toNat ama).2.2.2.2.1 (s0.getD s8.toNat ama).2.2.2.2.2.1 (s0.getD s8.toNat ama).2.2.2.2.2.2 af aw aD aE bd bW bX cn jv wy wz w8).bind fun x0=>cond x0 (some (.inr s8))<|rec s0 s7 (zA (s8+1)) af aw aD aE bd bW bX cn jv wy wz w8) none)<|some (.inl ())
def LF (k:Nat):Nat→qSc
 |0,_,_,_,_,_,_,_,_,_,_,_,_,_,_,_=>none
 |n+1,s0,s7,s8,af,aw,aD,aE,bd,bW,bX,cn,jv,wy,wz,w8=>FX k (LF k n) s0 s7 s8 af aw aD aE bd bW bX cn jv wy wz w8
def ZN (k:Nat)(a0:List zD)(cX cY dC cZ:Int)(gm eH:AC)(gn:EQ)(DD:Int)(eI:List zK)(jw:EQ)(jx:AC)(jy:EQ):Option Int:=
 (LF k k a0 (a0.length:Int) 0 cX cY dC cZ gm eH gn DD eI jw jx jy).bind fun z=>match z with
 |.inl z1=>some (-1)
 |.inr z2=>some z2
def QQ (k:Nat)(a0:List zD)(cX cY dC cZ:Int)(gm eH:AC)(gn:EQ)(DD:Int)(eI:List zK)(jw:EQ)(jx:AC)(jy:EQ):Option Bool:=
 (ZN k a0 cX cY dC cZ gm eH gn DD eI jw jx jy).bind fun x0=>some (decide (x0≥0))
abbrev qTa:Type:=(List zD)×Int×AC×AC×EQ×(List zK)×EQ×AC×EQ×Int×Int×Int×Int×Int
abbrev yB0:Type:=List zD→Int→AC→Int→Int→AC→AC→EQ→List zK→EQ→AC→EQ→Int→Int→Int→Int→Int→Option qTa
def FY (k:Nat)(rec:yB0):yB0:=fun s3 aP lX gP ju af ai aj aw aD aE aG bd cn de dt jv=>
 cond (decide (ju<gP)) (cond (zB ju lX.length) (rec s3 (zA (aP+(lX.getD ju.toNat 0))) lX gP (zA (ju+1)) af ai aj aw aD aE aG bd cn de dt jv) none)<|some (s3,aP,af,ai,aj,aw,aD,aE,aG,bd,cn,de,dt,jv)
def Ce (k:Nat):Nat→yB0
 |0,_,_,_,_,_,_,_,_,_,_,_,_,_,_,_,_,_=>none
 |n+1,s3,aP,lX,gP,ju,af,ai,aj,aw,aD,aE,aG,bd,cn,de,dt,jv=>FY k (Ce k n) s3 aP lX gP ju af ai aj aw aD aE aG bd cn de dt jv
def QS (k:Nat)(jz w9:AC)(j0:EQ)(cW:List zK)(jo:EQ)(jq:AC)(jt:EQ)(a2:Int)(a3:List zD):Option Bool:=
 cond (zB a2 cW.length) (cond (zB a2 jz.length) (cond (decide ((zA ((zA ((cW.getD a2.toNat ala).1+(cW.getD a2.toNat ala).2.1))+(jz.getD a2.toNat 0)))<0)) (some true)<|(QK k cW jo jq jt a2).bind fun x0=>cond (zB a2 j0.length) ((Ce k k a3 x0 (j0.getD a2.toNat []) ((j0.getD a2.toNat []).length:Int) 0 jz w9 j0 cW jo jq jt a2 (cW.getD a2.toNat ala).1 (cW.getD a2.toNat ala).2.1 (cW.getD a2.toNat ala).2.2 (zA ((zA ((cW.getD a2.toNat ala).1+(cW.getD a2.toNat ala).2.1))+(jz.getD a2.toNat 0)))).bind fun z=>cond (zB z.2.2.2.2.2.2.2.2.2.1 z.2.2.2.2.2.2.2.1.length) ((FW k z.2.1 (z.2.2.2.2.2.2.2.1.getD z.2.2.2.2.2.2.2.2.2.1.toNat 0)).bind fun x1=>cond x1 (some true)<|(QQ k z.1 z.2.2.2.2.2.2.2.2.2.1 z.2.2.2.2.2.2.2.2.2.2.1 z.2.2.2.2.2.2.2.2.2.2.2.1 z.2.2.2.2.2.2.2.2.2.2.2.2.1 z.2.2.1 z.2.2.2.1 z.2.2.2.2.1 z.2.2.2.2.2.2.2.2.2.2.2.2.2 z.2.2.2.2.2.1 z.2.2.2.2.2.2.1 z.2.2.2.2.2.2.2.1 z.2.2.2.2.2.2.2.2.1).bind fun x2=>some x2) none) none) none) none
abbrev qZv:Type:=List zD→Int→Int→List zK→EQ→AC→EQ→AC→AC→EQ→AC→Option AC
def F0 (k:Nat)(rec:qZv):qZv:=fun s1 bE bc af ai aj ah r2 r3 m4 r5=>
 cond (decide (bc<bE)) ((QP k s1 bc).bind fun x1=>cond x1 ((QS k r2 r3 m4 af ai aj ah bc s1).bind fun x2=>cond x2 (cond (zL (r5.length+1) 8) (rec s1 bE (zA (bc+1)) af ai aj ah r2 r3 m4 (r5++[bc])) none)<|rec s1 bE (zA (bc+1)) af ai aj ah r2 r3 m4 r5)<|rec s1 bE (zA (bc+1)) af ai aj ah r2 r3 m4 r5)<|some r5
def FZ (k:Nat):Nat→qZv
 |0,_,_,_,_,_,_,_,_,_,_,_=>none
 |n+1,s1,bE,bc,af,ai,aj,ah,r2,r3,m4,r5=>F0 k (FZ k n) s1 bE bc af ai aj ah r2 r3 m4 r5
def Cf (k:Nat)(au:List zK)(aB:EQ)(az:AC)(ax:EQ)(a1:List zD):Option AC:=
 (QO k (au.length:Int) a1).bind fun x0=>(FZ k k a1 (au.length:Int) 0 au aB az ax x0.1 x0.2.1 x0.2.2 []).bind fun z=>some z
def Cg (k:Nat)(au:List zK)(aB:EQ)(az:AC)(ax:EQ)(a1:List zD):Option Bool:=
 cond (decide ((a1.length : Int)≤64)) ((QT k a1 au aB az ax).bind fun x0=>cond (!x0) ((Cf k au aB az ax a1).bind fun x1=>some (decide ((x1.length:Int)=0)))<|some false)<|some false
def Zo (k:Nat)(cj bj bB cy bN cd bP:Int)(cW:List zK)(jo:EQ)(jq:AC)(jt:EQ):Option Bool:=
 (Fx k cW jo jq jt cj bj bB cy bN cd bP).bind fun x0=>some (!x0)
def Fy (k:Nat)(rec:qV6):qV6:=fun s0 s7 s8 af ai aj ah=>
 cond (decide (s8<s7)) (cond (zB s8 s0.length) ((Zo k (s0.getD s8.toNat ama).1 (s0.getD s8.toNat ama).2.1 (s0.getD s8.toNat ama).2.2.1 (s0.getD s8.toNat ama).2.2.2.1 (s0.getD s8.toNat ama).2.2.2.2.1 (s0.getD s8.toNat ama).2.2.2.2.2.1 (s0.getD s8.toNat ama).2.2.2.2.2.2 af ai aj ah).bind fun x0=>cond x0 (some (.inr s8))<|rec s0 s7 (zA (s8+1)) af ai aj ah) none)<|some (.inl ())
def Lk (k:Nat):Nat→qV6
 |0,_,_,_,_,_,_,_=>none
 |n+1,s0,s7,s8,af,ai,aj,ah=>Fy k (Lk k n) s0 s7 s8 af ai aj ah
def Zp (k:Nat)(a0:List zD)(bH:List zK)(cB:EQ)(cC:AC)(cD:EQ):Option Int:=
 (Lk k k a0 (a0.length:Int) 0 bH cB cC cD).bind fun z=>match z with
 |.inl z1=>some (-1)
 |.inr z2=>some z2
def Qv (k:Nat)(a0:List zD)(bH:List zK)(cB:EQ)(cC:AC)(cD:EQ):Option Bool:=
 (Zp k a0 bH cB cC cD).bind fun x0=>some (decide (x0≥0))
def Y7 (k:Nat)(jm jn fl:Int):Option Bool:=
 (Qj k jm jn fl).bind fun x0=>some (!x0)
abbrev qT0:Type:=List zK→Int→Int→Option (Unit⊕Int)
def Fg (k:Nat)(rec:qT0):qT0:=fun s0 s7 s8=>
 cond (decide (s8<s7)) (cond (zB s8 s0.length) ((Y7 k (s0.getD s8.toNat ala).1 (s0.getD s8.toNat ala).2.1 (s0.getD s8.toNat ala).2.2).bind fun x0=>cond x0 (some (.inr s8))<|rec s0 s7 (zA (s8+1))) none)<|some (.inl ())
def K1 (k:Nat):Nat→qT0
 |0,_,_,_=>none
 |n+1,s0,s7,s8=>Fg k (K1 k n) s0 s7 s8
def Y8 (k:Nat)(a0:List zK):Option Int:=
 (K1 k k a0 (a0.length:Int) 0).bind fun z=>match z with
 |.inl z1=>some (-1)
 |.inr z2=>some z2
def Ql (k:Nat)(a0:List zK):Option Bool:=
 (Y8 k a0).bind fun x0=>some (decide (x0≥0))
def Y2 (k:Nat)(a0:Int):Option Bool:=
 cond (decide (a0≥(-1))) (some (decide (a0≤2305843009213693952)))<|some false
def Y9 (k:Nat)(a0:Int):Option Bool:=
 (Y2 k a0).bind fun x0=>some (!x0)
abbrev qM8:Type:=AC→Int→Int→Option (Unit⊕Int)
def Fh (k:Nat)(rec:qM8):qM8:=fun s0 s7 s8=>
 cond (decide (s8<s7)) (cond (zB s8 s0.length) ((Y9 k (s0.getD s8.toNat 0)).bind fun x0=>cond x0 (some (.inr s8))<|rec s0 s7 (zA (s8+1))) none)<|some (.inl ())
def K2 (k:Nat):Nat→qM8
 |0,_,_,_=>none
 |n+1,s0,s7,s8=>Fh k (K2 k n) s0 s7 s8
def Za (k:Nat)(a0:AC):Option Int:=
 (K2 k k a0 (a0.length:Int) 0).bind fun z=>match z with
 |.inl z1=>some (-1)
 |.inr z2=>some z2
def Qm (k:Nat)(a0:AC):Option Bool:=
 (Za k a0).bind fun x0=>some (decide (x0≥0))
def K4 (k:Nat)(a0:AC)(a1:Int):Option Bool:=
 cond (decide ((a0.length : Int)=a1)) ((Qm k a0).bind fun x0=>some (!x0))<|some false
abbrev qPp:Type:=Int→EQ→Int→Int→Option (Unit⊕Bool)
def Fj (k:Nat)(rec:qPp):qPp:=fun s1 bm bh aQ=>
 cond (decide (aQ<bh)) (cond (zB aQ bm.length) ((K4 k (bm.getD aQ.toNat []) s1).bind fun x0=>cond (!x0) (some (.inr false))<|rec s1 bm bh (zA (aQ+1))) none)<|some (.inl ())
def K5 (k:Nat):Nat→qPp
 |0,_,_,_,_=>none
 |n+1,s1,bm,bh,aQ=>Fj k (K5 k n) s1 bm bh aQ
def Qp (k:Nat)(a0:EQ)(a1:Int):Option Bool:=
 cond (!(decide ((a0.length:Int)=a1))) (some false)<|(K5 k k a1 a0 (a0.length:Int) 0).bind fun z=>match z with
 |.inl z1=>some true
 |.inr z2=>some z2
def Qk (k:Nat)(a0:Int):Option Bool:=
 cond (decide (a0>(-72057594037927936))) (some (decide (a0<72057594037927936)))<|some false
def Zb (k:Nat)(a0:Int):Option Bool:=
 (Qk k a0).bind fun x0=>some (!x0)
def Fi (k:Nat)(rec:qM8):qM8:=fun s0 s7 s8=>
 cond (decide (s8<s7)) (cond (zB s8 s0.length) ((Zb k (s0.getD s8.toNat 0)).bind fun x0=>cond x0 (some (.inr s8))<|rec s0 s7 (zA (s8+1))) none)<|some (.inl ())
def K3 (k:Nat):Nat→qM8
 |0,_,_,_=>none
 |n+1,s0,s7,s8=>Fi k (K3 k n) s0 s7 s8
def Zc (k:Nat)(a0:AC):Option Int:=
 (K3 k k a0 (a0.length:Int) 0).bind fun z=>match z with
 |.inl z1=>some (-1)
 |.inr z2=>some z2
def Qn (k:Nat)(a0:AC):Option Bool:=
 (Zc k a0).bind fun x0=>some (decide (x0≥0))
def Qo (k:Nat)(a0:AC)(a1:Int):Option Bool:=
 cond (decide ((a0.length : Int)=a1)) ((Qn k a0).bind fun x0=>some (!x0))<|some false
def Fk (k:Nat)(rec:qPp):qPp:=fun s1 bm bh aQ=>
 cond (decide (aQ<bh)) (cond (zB aQ bm.length) ((Qo k (bm.getD aQ.toNat []) s1).bind fun x0=>cond (!x0) (some (.inr false))<|rec s1 bm bh (zA (aQ+1))) none)<|some (.inl ())
def K6 (k:Nat):Nat→qPp
 |0,_,_,_,_=>none
 |n+1,s1,bm,bh,aQ=>Fk k (K6 k n) s1 bm bh aQ
def Qq (k:Nat)(a0:EQ)(a1:Int):Option Bool:=
 cond (!(decide ((a0.length:Int)=a1))) (some false)<|(K6 k k a1 a0 (a0.length:Int) 0).bind fun z=>match z with
 |.inl z1=>some true
 |.inr z2=>some z2
abbrev yDe:Type:=(EQ×EQ×Int×Int)⊕Bool
abbrev qYl:Type:=EQ→Int→EQ→Int→Int→AC→Int→Int→Option yDe
def Fm (k:Nat)(rec:qYl):qYl:=fun s0 s3 s7 s8 s9 bh aQ bE=>
 cond (decide (bE<aQ)) (cond (zB bE bh.length) (cond (zB bE s0.length) (cond (zB s3 (s0.getD bE.toNat []).length) (cond (!(decide (((s0.getD bE.toNat []).getD s3.toNat 0)=(zA (0-(bh.getD bE.toNat 0)))))) (some (.inr false))<|rec s0 s3 s7 s8 s9 bh aQ (zA (bE+1))) none) none) none)<|some (.inl (s0,s7,s8,s9))
def Fl (k:Nat):Nat→qYl
 |0,_,_,_,_,_,_,_,_=>none
 |n+1,s0,s3,s7,s8,s9,bh,aQ,bE=>Fm k (Fl k n) s0 s3 s7 s8 s9 bh aQ bE
abbrev qXj:Type:=EQ→EQ→Int→Int→Option (Unit⊕Bool)
def Fo (k:Nat)(rec:qXj):qXj:=fun s0 s7 s8 s9=>
 cond (decide (s9<s8)) (cond (zB s9 s7.length) ((Fl k k s0 s9 s7 s8 s9 (s7.getD s9.toNat []) ((s7.getD s9.toNat []).length:Int) 0).bind fun z=>match z with
   |.inl z1=>rec z1.1 z1.2.1 z1.2.2.1 (zA (z1.2.2.2+1))
   |.inr z2=>some (.inr z2)) none)<|some (.inl ())
def K7 (k:Nat):Nat→qXj
 |0,_,_,_,_=>none
 |n+1,s0,s7,s8,s9=>Fo k (K7 k n) s0 s7 s8 s9
def Qr (k:Nat)(a0:EQ):Option Bool:=
 (K7 k k a0 a0 (a0.length:Int) 0).bind fun z3=>match z3 with
 |.inl z4=>some true
 |.inr z5=>some z5
def Fp (k:Nat)(au:List zK)(aB:EQ)(az:AC)(ax:EQ):Option Bool:=
 cond (decide ((au.length:Int)<1)) (some false)<|cond (decide ((au.length:Int)>6)) (some false)<|(Ql k au).bind fun x0=>cond x0 (some false)<|(Qp k aB (au.length:Int)).bind fun x1=>cond x1 ((K4 k az (au.length:Int)).bind fun x2=>cond x2 ((Qq k ax (au.length:Int)).bind fun x3=>cond x3 ((Qr k ax).bind fun x4=>some x4)<|some false)<|some false)<|some false
abbrev qWk:Type:=(List zK)×EQ×AC×EQ×(List zK)×EQ×AC×EQ
abbrev qYi:Type:=List zD→Int→Int→List zK→EQ→AC→EQ→List zK→EQ→AC→EQ→Option qWk
def FC (k:Nat)(rec:qYi):qYi:=fun bz kC aY af ai aj ah r3 m4 r5 m6=>
 cond (decide (aY<kC)) (cond (zB aY bz.length) (cond (zB (bz.getD aY.toNat ama).2.1 r3.length) (cond (zB (bz.getD aY.toNat ama).2.2.1 r3.length) (let y0:List zK:=(r3.set (bz.getD aY.toNat ama).2.1.toNat ((zA ((r3.getD (bz.getD aY.toNat ama).2.1.toNat ala).1-(bz.getD aY.toNat ama).2.2.2.1)),(r3.getD (bz.getD aY.toNat ama).2.1.toNat ala).2))
     let y1:List zK:=(y0.set (bz.getD aY.toNat ama).2.2.1.toNat ((zA ((y0.getD (bz.getD aY.toNat ama).2.2.1.toNat ala).1+(bz.getD aY.toNat ama).2.2.2.1)),(y0.getD (bz.getD aY.toNat ama).2.2.1.toNat ala).2))
     cond (!(decide ((bz.getD aY.toNat ama).2.2.2.2.1=3))) ((ya k (y1.getD (bz.getD aY.toNat ama).2.1.toNat ala).1 (y1.getD (bz.getD aY.toNat ama).2.1.toNat ala).2.1 (y1.getD (bz.getD aY.toNat ama).2.1.toNat ala).2.2 (bz.getD aY.toNat ama).2.2.2.1).bind fun x2=>let y2:List zK:=(y1.set (bz.getD aY.toNat ama).2.1.toNat ((y1.getD (bz.getD aY.toNat ama).2.1.toNat ala).1,(y1.getD (bz.getD aY.toNat ama).2.1.toNat ala).2.1,x2))
      cond (zB (bz.getD aY.toNat ama).2.1 m6.length) (cond (zB (bz.getD aY.toNat ama).2.2.1 (m6.getD (bz.getD aY.toNat ama).2.1.toNat []).length) (cond (zB (bz.getD aY.toNat ama).2.2.1 (m6.getD (bz.getD aY.toNat ama).2.1.toNat []).length) (let y3:EQ:=(m6.set (bz.getD aY.toNat ama).2.1.toNat ((m6.getD (bz.getD aY.toNat ama).2.1.toNat []).set (bz.getD aY.toNat ama).2.2.1.toNat (zA (((m6.getD (bz.getD aY.toNat ama).2.1.toNat []).getD (bz.getD aY.toNat ama).2.2.1.toNat 0)+(bz.getD aY.toNat ama).2.2.2.1))))
         cond (zB (bz.getD aY.toNat ama).2.2.1 y3.length) (cond (zB (bz.getD aY.toNat ama).2.1 (y3.getD (bz.getD aY.toNat ama).2.2.1.toNat []).length) (cond (zB (bz.getD aY.toNat ama).2.1 (y3.getD (bz.getD aY.toNat ama).2.2.1.toNat []).length) (let y4:EQ:=(y3.set (bz.getD aY.toNat ama).2.2.1.toNat ((y3.getD (bz.getD aY.toNat ama).2.2.1.toNat []).set (bz.getD aY.toNat ama).2.1.toNat (zA (((y3.getD (bz.getD aY.toNat ama).2.2.1.toNat []).getD (bz.getD aY.toNat ama).2.1.toNat 0)-(bz.getD aY.toNat ama).2.2.2.1))))
            rec bz kC (zA (aY+1)) af ai aj ah y2 m4 r5 y4) none) none) none) none) none) none)<|cond (zB (bz.getD aY.toNat ama).2.1 m6.length) (cond (zB (bz.getD aY.toNat ama).2.2.1 (m6.getD (bz.getD aY.toNat ama).2.1.toNat []).length) (cond (zB (bz.getD aY.toNat ama).2.2.1 (m6.getD (bz.getD aY.toNat ama).2.1.toNat []).length) (let y5:EQ:=(m6.set (bz.getD aY.toNat ama).2.1.toNat ((m6.getD (bz.getD aY.toNat ama).2.1.toNat []).set (bz.getD aY.toNat ama).2.2.1.toNat (zA (((m6.getD (bz.getD aY.toNat ama).2.1.toNat []).getD (bz.getD aY.toNat ama).2.2.1.toNat 0)+(bz.getD aY.toNat ama).2.2.2.1))))
        cond (zB (bz.getD aY.toNat ama).2.2.1 y5.length) (cond (zB (bz.getD aY.toNat ama).2.1 (y5.getD (bz.getD aY.toNat ama).2.2.1.toNat []).length) (cond (zB (bz.getD aY.toNat ama).2.1 (y5.getD (bz.getD aY.toNat ama).2.2.1.toNat []).length) (let y6:EQ:=(y5.set (bz.getD aY.toNat ama).2.2.1.toNat ((y5.getD (bz.getD aY.toNat ama).2.2.1.toNat []).set (bz.getD aY.toNat ama).2.1.toNat (zA (((y5.getD (bz.getD aY.toNat ama).2.2.1.toNat []).getD (bz.getD aY.toNat ama).2.1.toNat 0)-(bz.getD aY.toNat ama).2.2.2.1))))
           rec bz kC (zA (aY+1)) af ai aj ah y1 m4 r5 y6) none) none) none) none) none) none) none) none) none)<|some (af,ai,aj,ah,r3,m4,r5,m6)
def FB (k:Nat):Nat→qYi
 |0,_,_,_,_,_,_,_,_,_,_,_=>none
 |n+1,bz,kC,aY,af,ai,aj,ah,r3,m4,r5,m6=>FC k (FB k n) bz kC aY af ai aj ah r3 m4 r5 m6
def qu (k:Nat)(au:List zK)(aB:EQ)(az:AC)(ax:EQ)(a1:List zD):Option ((List zK)×EQ×AC×EQ×Int):=
 cond (decide ((a1.length:Int)>64)) (some (au,aB,az,ax,1))<|(Qv k a1 au aB az ax).bind fun x0=>cond x0 (some (au,aB,az,ax,1))<|(gG k au aB az ax).bind fun x1=>(FB k k a1 (a1.length:Int) 0 au aB az ax x1.1 x1.2.1 x1.2.2.1 x1.2.2.2).bind fun z=>(Fp k z.2.2.2.2.1 z.2.2.2.2.2.1 z.2.2.2.2.2.2.1 z.2.2.2.2.2.2.2).bind fun x3=>cond (!x3) (some (vR z 8))<|some (yKd z 0)
abbrev yDd:Type:=((List zK)×EQ×AC×EQ×Int×Int×Int×Int×Int×Int×Int)⊕(Bool×Int×Int×Int×Int×Int×Int×Int×(List zK)×EQ×AC×EQ)
abbrev qVo:Type:=Int→Int→List zK→EQ→AC→EQ→Int→Int→Int→Int→Int→Int→Int→List zD→Option yDd
def GG (k:Nat)(rec:qVo):qVo:=fun bE bc af ai aj ah aw aD aE aG aJ aK aL r3=>
 cond (decide (bc<bE)) (cond (zB bc r3.length) ((Cg k af ai aj ah [(r3.getD bc.toNat ama)]).bind fun x1=>cond (!x1) (rec bE (zA (bc+1)) af ai aj ah aw aD aE aG aJ aK aL r3)<|(qu k af ai aj ah [(r3.getD bc.toNat ama)]).bind fun x2=>cond (decide (x2.2.2.2.2=0)) (some (.inr (true,(gi (r3.getD bc.toNat ama) (vH x2)))))<|rec bE (zA (bc+1)) af ai aj ah aw aD aE aG aJ aK aL r3) none)<|some (.inl (af,ai,aj,ah,aw,aD,aE,aG,aJ,aK,aL))
def L8 (k:Nat):Nat→qVo
 |0,_,_,_,_,_,_,_,_,_,_,_,_,_,_=>none
 |n+1,bE,bc,af,ai,aj,ah,aw,aD,aE,aG,aJ,aK,aL,r3=>GG k (L8 k n) bE bc af ai aj ah aw aD aE aG aJ aK aL r3
def Rg (k:Nat)(au:List zK)(aB:EQ)(az:AC)(ax:EQ)(a1:List zD)(a2:Int):Option (Int×Int×Int×Int×Int×Int×Int×(List zK)×EQ×AC×EQ×Bool):=
 (LO k a1 a2).bind fun x0=>(L8 k k (x0.length:Int) 0 au aB az ax 0 0 0 0 0 0 0 x0).bind fun z=>match z with
 |.inl z1=>some (0,0,0,0,0,0,0,(vR z1 false))
 |.inr z2=>some (ajp z2 z2.1)
abbrev qRg:Type:=(List zD)×(List zK)×EQ×AC×EQ×(List zD)
abbrev yE2:Type:=Int→List zD→List zK→EQ→AC→EQ→List zD→Option qRg
def GI (k:Nat)(rec:yE2):yE2:=fun s2 s7 af ai aj ah r1=>
 (Rg k af ai aj ah s7 s2).bind fun x0=>cond (!x0.2.2.2.2.2.2.2.2.2.2.2) (some (s7,af,ai,aj,ah,r1))<|(qx k s7 x0.1).bind fun x1=>cond (zL (r1.length+1) 56) (let y0:List zD:=(r1++[(vV x0)])
  rec s2 x1.1 x0.2.2.2.2.2.2.2.1 x0.2.2.2.2.2.2.2.2.1 x0.2.2.2.2.2.2.2.2.2.1 x0.2.2.2.2.2.2.2.2.2.2.1 y0) none
def L9 (k:Nat):Nat→yE2
 |0,_,_,_,_,_,_,_=>none
 |n+1,s2,s7,af,ai,aj,ah,r1=>GI k (L9 k n) s2 s7 af ai aj ah r1
def Rh (k:Nat)(au:List zK)(aB:EQ)(az:AC)(ax:EQ)(a1:List zD)(a2:Int):Option tI:=
 (L9 k k a2 a1 au aB az ax []).bind fun z=>some (iN z (z.1,z.2.2.2.2.2))
abbrev qUa:Type:=(Int×Int×(List zK)×EQ×AC×EQ×Int×Int×Int×Int×Int×Int×Int×Int×Int×Int×Int×Int×Int×Int×(List zD))⊕yOm
abbrev yDt:Type:=Int→Int→Int→Int→List zK→EQ→AC→EQ→Int→Int→Int→Int→Int→Int→Int→Int→Int→Int→Int→Int→Int→Int→List zD→Int→Int→Int→Int→Int→Int→Int→Option qUa
def GL (k:Nat)(rec:yDt):yDt:=fun cQ cN kC aY af ai aj ah aw aD aE aG aJ aK aL cE cF bD aX cp cq ct r2 cn de dt il im iq ir=>
 cond (decide (aY<kC)) (cond (zB aY r2.length) (cond (!(decide ((r2.getD aY.toNat ama).2.1=dt))) (rec cQ cN kC (zA (aY+1)) af ai aj ah aw aD aE aG aJ aK aL cE cF bD aX cp cq ct r2 cn de dt il im iq ir)<|cond (!(decide ((r2.getD aY.toNat ama).2.2.1=de))) (rec cQ cN kC (zA (aY+1)) af ai aj ah aw aD aE aG aJ aK aL cE cF bD aX cp cq ct r2 cn de dt il im iq ir)<|cond (decide (de≥(r2.getD aY.toNat ama).2.1)) (rec cQ cN kC (zA (aY+1)) af ai aj ah aw aD aE aG aJ aK aL cE cF bD aX cp cq ct r2 cn de dt il im iq ir)<|(Cg k af ai aj ah [(cn,de,dt,il,im,iq,ir),(r2.getD aY.toNat ama)]).bind fun x1=>cond (!x1) (rec cQ cN kC (zA (aY+1)) af ai aj ah aw aD aE aG aJ aK aL cE cF bD aX cp cq ct r2 cn de dt il im iq ir)<|(qu k af ai aj ah [(cn,de,dt,il,im,iq,ir),(r2.getD aY.toNat ama)]).bind fun x2=>cond (decide (x2.2.2.2.2=0)) (some (.inr (true,cn,de,dt,il,im,iq,ir,(gi (r2.getD aY.toNat ama) (vH x2)))))<|rec cQ cN kC (zA (aY+1)) af ai aj ah aw aD aE aG aJ aK aL cE cF bD aX cp cq ct r2 cn de dt il im iq ir) none)<|some (.inl (cQ,cN,af,ai,aj,ah,aw,aD,aE,aG,aJ,aK,aL,cE,cF,bD,aX,cp,cq,ct,r2))
def Ma (k:Nat):Nat→yDt
 |0,_,_,_,_,_,_,_,_,_,_,_,_,_,_,_,_,_,_,_,_,_,_,_,_,_,_,_,_,_,_=>none
 |n+1,cQ,cN,kC,aY,af,ai,aj,ah,aw,aD,aE,aG,aJ,aK,aL,cE,cF,bD,aX,cp,cq,ct,r2,cn,de,dt,il,im,iq,ir=>GL k (Ma k n) cQ cN kC aY af ai aj ah aw aD aE aG aJ aK aL cE cF bD aX cp cq ct r2 cn de dt il im iq ir
abbrev yFo:Type:=(Int×Int×Int×Int×Int×Int×Int×Int×Int×Int×Int×Int×Int×Int)⊕yOm
abbrev qV3:Type:=Int→Int→List zK→EQ→AC→EQ→Int→Int→Int→Int→Int→Int→Int→Int→Int→Int→Int→Int→Int→Int→List zD→Option yFo
def GM (k:Nat)(rec:qV3):qV3:=fun cQ cN af ai aj ah aw aD aE aG aJ aK aL cE cF bD aX cp cq ct r2=>
 cond (decide (cN<cQ)) (cond (zB cN r2.length) ((Ma k k cQ cN (r2.length:Int) 0 af ai aj ah aw aD aE aG aJ aK aL cE cF bD aX cp cq ct r2 (r2.getD cN.toNat ama).1 (r2.getD cN.toNat ama).2.1 (r2.getD cN.toNat ama).2.2.1 (r2.getD cN.toNat ama).2.2.2.1 (r2.getD cN.toNat ama).2.2.2.2.1 (r2.getD cN.toNat ama).2.2.2.2.2.1 (r2.getD cN.toNat ama).2.2.2.2.2.2).bind fun z=>match z with
   |.inl z1=>rec z1.1 (zA (z1.2.1+1)) z1.2.2.1 z1.2.2.2.1 z1.2.2.2.2.1 z1.2.2.2.2.2.1 z1.2.2.2.2.2.2.1 z1.2.2.2.2.2.2.2.1 z1.2.2.2.2.2.2.2.2.1 z1.2.2.2.2.2.2.2.2.2.1 z1.2.2.2.2.2.2.2.2.2.2.1 z1.2.2.2.2.2.2.2.2.2.2.2.1 z1.2.2.2.2.2.2.2.2.2.2.2.2.1 z1.2.2.2.2.2.2.2.2.2.2.2.2.2.1 z1.2.2.2.2.2.2.2.2.2.2.2.2.2.2.1 z1.2.2.2.2.2.2.2.2.2.2.2.2.2.2.2.1 z1.2.2.2.2.2.2.2.2.2.2.2.2.2.2.2.2.1 z1.2.2.2.2.2.2.2.2.2.2.2.2.2.2.2.2.2.1 z1.2.2.2.2.2.2.2.2.2.2.2.2.2.2.2.2.2.2.1 z1.2.2.2.2.2.2.2.2.2.2.2.2.2.2.2.2.2.2.2.1 z1.2.2.2.2.2.2.2.2.2.2.2.2.2.2.2.2.2.2.2.2
   |.inr z2=>some (.inr (z2.1,z2.2.1,z2.2.2.1,z2.2.2.2.1,z2.2.2.2.2.1,z2.2.2.2.2.2.1,z2.2.2.2.2.2.2.1,z2.2.2.2.2.2.2.2.1,z2.2.2.2.2.2.2.2.2.1,z2.2.2.2.2.2.2.2.2.2.1,z2.2.2.2.2.2.2.2.2.2.2.1,z2.2.2.2.2.2.2.2.2.2.2.2.1,z2.2.2.2.2.2.2.2.2.2.2.2.2.1,z2.2.2.2.2.2.2.2.2.2.2.2.2.2.1,z2.2.2.2.2.2.2.2.2.2.2.2.2.2.2.1,z2.2.2.2.2.2.2.2.2.2.2.2.2.2.2.2.1,z2.2.2.2.2.2.2.2.2.2.2.2.2.2.2.2.2.1,z2.2.2.2.2.2.2.2.2.2.2.2.2.2.2.2.2.2.1,z2.2.2.2.2.2.2.2.2.2.2.2.2.2.2.2.2.2.2))) none)<|some (.inl (aw,aD,aE,aG,aJ,aK,aL,cE,cF,bD,aX,cp,cq,ct))
def Md (k:Nat):Nat→qV3
 |0,_,_,_,_,_,_,_,_,_,_,_,_,_,_,_,_,_,_,_,_,_=>none
 |n+1,cQ,cN,af,ai,aj,ah,aw,aD,aE,aG,aJ,aK,aL,cE,cF,bD,aX,cp,cq,ct,r2=>GM k (Md k n) cQ cN af ai aj ah aw aD aE aG aJ aK aL cE cF bD aX cp cq ct r2
def Rj (k:Nat)(au:List zK)(aB:EQ)(az:AC)(ax:EQ)(a1:List zD)(a2:Int):Option (Int×Int×Int×Int×Int×Int×Int×Int×Int×Int×Int×Int×Int×Int×(List zK)×EQ×AC×EQ×Bool):=
 (LO k a1 a2).bind fun x0=>(Md k k (x0.length:Int) 0 au aB az ax 0 0 0 0 0 0 0 0 0 0 0 0 0 0 x0).bind fun z3=>match z3 with
 |.inl z4=>some (0,0,0,0,0,0,0,0,0,0,0,0,0,0,[],[],[],[],false)
 |.inr z5=>some (qQx z5 z5.1)
abbrev qZ2:Type:=Int×(List zD)×(List zK)×EQ×AC×EQ×(List zD)
abbrev qXy:Type:=Int→List zD→Int→Int→List zK→EQ→AC→EQ→List zD→List zD→Option qZ2
def yl (k:Nat)(rec:qXy):qXy:=fun s2 s7 DC tJ af ai aj ah r1 r2=>
 cond (decide (tJ<DC)) (cond (zB tJ r2.length) ((qx k s7 (r2.getD tJ.toNat ama).1).bind fun x1=>cond (zL (r1.length+1) 56) (let y0:List zD:=(r1++[(r2.getD tJ.toNat ama)])
    rec s2 x1.1 DC (zA (tJ+1)) af ai aj ah y0 r2) none) none)<|some (s2,s7,af,ai,aj,ah,r1)
def yk (k:Nat):Nat→qXy
 |0,_,_,_,_,_,_,_,_,_,_=>none
 |n+1,s2,s7,DC,tJ,af,ai,aj,ah,r1,r2=>yl k (yk k n) s2 s7 DC tJ af ai aj ah r1 r2
def GN (k:Nat)(rec:yE2):yE2:=fun s2 s7 af ai aj ah r1=>
 (Rj k af ai aj ah s7 s2).bind fun x0=>cond (!x0.2.2.2.2.2.2.2.2.2.2.2.2.2.2.2.2.2.2) (some (s7,af,ai,aj,ah,r1))<|(yk k k s2 s7 2 0 x0.2.2.2.2.2.2.2.2.2.2.2.2.2.2.1 x0.2.2.2.2.2.2.2.2.2.2.2.2.2.2.2.1 x0.2.2.2.2.2.2.2.2.2.2.2.2.2.2.2.2.1 x0.2.2.2.2.2.2.2.2.2.2.2.2.2.2.2.2.2.1 r1 [(vV x0),(qNq x0)]).bind fun z=>rec z.1 z.2.1 z.2.2.1 z.2.2.2.1 z.2.2.2.2.1 z.2.2.2.2.2.1 z.2.2.2.2.2.2
def Me (k:Nat):Nat→yE2
 |0,_,_,_,_,_,_,_=>none
 |n+1,s2,s7,af,ai,aj,ah,r1=>GN k (Me k n) s2 s7 af ai aj ah r1
def Rk (k:Nat)(au:List zK)(aB:EQ)(az:AC)(ax:EQ)(a1:List zD)(a2:Int):Option tI:=
 (Me k k a2 a1 au aB az ax []).bind fun z1=>some (iN z1 (z1.1,z1.2.2.2.2.2))
def Rr (k:Nat)(rec:yE2):yE2:=fun s2 s7 af ai aj ah r1=>
 (Rh k af ai aj ah s7 s2).bind fun x0=>(Rk k x0.1 x0.2.1 x0.2.2.1 x0.2.2.2.1 x0.2.2.2.2.1 s2).bind fun x1=>cond (zL (r1.length+x0.2.2.2.2.2.length) 56) (cond (zL ((r1++x0.2.2.2.2.2).length+x1.2.2.2.2.2.length) 56) (let y0:List zD:=((r1++x0.2.2.2.2.2)++x1.2.2.2.2.2)
   cond (decide ((x1.2.2.2.2.2.length:Int)=0)) (some (x1.2.2.2.2.1,(vR x1 y0)))<|rec s2 x1.2.2.2.2.1 x1.1 x1.2.1 x1.2.2.1 x1.2.2.2.1 y0) none) none
def Mo (k:Nat):Nat→yE2
 |0,_,_,_,_,_,_,_=>none
 |n+1,s2,s7,af,ai,aj,ah,r1=>Rr k (Mo k n) s2 s7 af ai aj ah r1
def Mp (k:Nat)(au:List zK)(aB:EQ)(az:AC)(ax:EQ)(a1:List zD)(a2:Int):Option tI:=
 (Mo k k a2 a1 au aB az ax []).bind fun z=>some (iN z (z.1,z.2.2.2.2.2))
def qM4 (k:Nat)(a0:AC):Option AC:=
 cond (zL (0+a0.length) 8) (some a0) none
def qOh (k:Nat)(cj bj bB cy bN cd bP:Int)(a1:AC):Option (Bool×AC):=
 cond (decide (bj<0)) (some (false,a1))<|cond (decide (bj≥a1.length)) (some (false,a1))<|cond (zB bj a1.length) (cond (decide ((a1.getD bj.toNat 0)<1)) (some (false,a1))<|cond (zB bj a1.length) (cond (zB bj a1.length) (some (true,(a1.set bj.toNat (zA ((a1.getD bj.toNat 0)-1))))) none) none) none
abbrev qWc:Type:=AC×(List zD)
abbrev qXi:Type:=List zD→Int→Int→AC→List zD→Option qWc
def GR (k:Nat)(rec:qXi):qXi:=fun s8 s9 av r1 r2=>
 cond (decide (av<s9)) (cond (zB av s8.length) ((qOh k (s8.getD av.toNat ama).1 (s8.getD av.toNat ama).2.1 (s8.getD av.toNat ama).2.2.1 (s8.getD av.toNat ama).2.2.2.1 (s8.getD av.toNat ama).2.2.2.2.1 (s8.getD av.toNat ama).2.2.2.2.2.1 (s8.getD av.toNat ama).2.2.2.2.2.2 r1).bind fun x0=>cond x0.1 (cond (zL (r2.length+1) 56) (let y0:List zD:=(r2++[(s8.getD av.toNat ama)])
     rec s8 s9 (zA (av+1)) x0.2 y0) none)<|rec s8 s9 (zA (av+1)) x0.2 r2) none)<|some (r1,r2)
def GQ (k:Nat):Nat→qXi
 |0,_,_,_,_,_=>none
 |n+1,s8,s9,av,r1,r2=>GR k (GQ k n) s8 s9 av r1 r2
def qOf (k:Nat)(a0:List zD)(cX:AC):Option ((List zD)×AC):=
 (GQ k k a0 (a0.length:Int) 0 cX []).bind fun z=>some (z.2,z.1)
def GP (k:Nat)(a0:List zD)(a1:AC):Option (List zD):=
 (qM4 k a1).bind fun x0=>(qOf k a0 x0).bind fun x1=>some x1.1
abbrev qRw:Type:=Int×(List zK)×EQ×AC×EQ×AC×(List zD)
abbrev qY6:Type:=Int→Int→Int→List zK→EQ→AC→EQ→AC→List zD→Option qRw
def GU (k:Nat)(rec:qY6):qY6:=fun s7 gf cQ af ai aj ah r1 r2=>
 cond (decide (cQ<gf)) ((Mk k r2 cQ).bind fun x1=>cond (zL (r1.length+1) 8) (rec s7 gf (zA (cQ+1)) af ai aj ah (r1++[(x1.length:Int)]) r2) none)<|some (s7,af,ai,aj,ah,r1,r2)
def Ct (k:Nat):Nat→qY6
 |0,_,_,_,_,_,_,_,_,_=>none
 |n+1,s7,gf,cQ,af,ai,aj,ah,r1,r2=>GU k (Ct k n) s7 gf cQ af ai aj ah r1 r2
abbrev yA3:Type:=Int→Int→Int→List zK→EQ→AC→EQ→AC→List zD→AC→Option qRw
def GW (k:Nat)(rec:yA3):yA3:=fun s7 Ul oP af ai aj ah r1 r2 r3=>
 cond (decide (oP<Ul)) (cond (zB oP r3.length) (cond (zB (r3.getD oP.toNat 0) r1.length) (cond (zB (r3.getD oP.toNat 0) r1.length) (let y0:AC:=(r1.set (r3.getD oP.toNat 0).toNat (zA ((r1.getD (r3.getD oP.toNat 0).toNat 0)-1)))
     rec s7 Ul (zA (oP+1)) af ai aj ah y0 r2 r3) none) none) none)<|some (s7,af,ai,aj,ah,r1,r2)
def GV (k:Nat):Nat→yA3
 |0,_,_,_,_,_,_,_,_,_,_=>none
 |n+1,s7,Ul,oP,af,ai,aj,ah,r1,r2,r3=>GW k (GV k n) s7 Ul oP af ai aj ah r1 r2 r3
abbrev qTt:Type:=Int→List zK→EQ→AC→EQ→AC→List zD→Option (Int×AC)
def GX (k:Nat)(rec:qTt):qTt:=fun s7 af ai aj ah r1 r2=>
 (GP k r2 r1).bind fun x2=>(Cf k af ai aj ah x2).bind fun x3=>cond (decide ((x3.length:Int)=0)) (some ((zA (s7+1)),r1))<|(GV k k (zA (s7+1)) (x3.length:Int) 0 af ai aj ah r1 r2 x3).bind fun z1=>rec z1.1 z1.2.1 z1.2.2.1 z1.2.2.2.1 z1.2.2.2.2.1 z1.2.2.2.2.2.1 z1.2.2.2.2.2.2
def Mn (k:Nat):Nat→qTt
 |0,_,_,_,_,_,_,_=>none
 |n+1,s7,af,ai,aj,ah,r1,r2=>GX k (Mn k n) s7 af ai aj ah r1 r2
def Ro (k:Nat)(au:List zK)(aB:EQ)(az:AC)(ax:EQ)(a1:List zD)(a2:Int):Option (AC×Int):=
 (F2 k a1 a2).bind fun x0=>(Ct k k 0 (au.length:Int) 0 au aB az ax [] x0).bind fun z=>(Mn k k z.1 z.2.1 z.2.2.1 z.2.2.2.1 z.2.2.2.2.1 z.2.2.2.2.2.1 z.2.2.2.2.2.2).bind fun z2=>some (z2.2,z2.1)
abbrev yBw:Type:=List zD→Int→Int→List zK→EQ→AC→EQ→List zD→Option qRg
def GY (k:Nat)(rec:yBw):yBw:=fun s7 lX gP af ai aj ah r1=>
 cond (decide (gP<lX)) (cond (zB gP r1.length) ((qx k s7 (r1.getD gP.toNat ama).1).bind fun x4=>rec x4.1 lX (zA (gP+1)) af ai aj ah r1) none)<|some (s7,af,ai,aj,ah,r1)
def Cu (k:Nat):Nat→yBw
 |0,_,_,_,_,_,_,_,_=>none
 |n+1,s7,lX,gP,af,ai,aj,ah,r1=>GY k (Cu k n) s7 lX gP af ai aj ah r1
def Cv (k:Nat)(au:List zK)(aB:EQ)(az:AC)(ax:EQ)(a1:List zD)(a2:Int):Option tI:=
 (Ro k au aB az ax a1 a2).bind fun x0=>(F2 k a1 a2).bind fun x1=>(GP k x1 x0.1).bind fun x2=>(qu k au aB az ax x2).bind fun x3=>cond (!(decide (x3.2.2.2.2=0))) (some (au,aB,az,ax,a1,[]))<|(Cu k k a1 (x2.length:Int) 0 x3.1 x3.2.1 x3.2.2.1 x3.2.2.2.1 x2).bind fun z=>some (iN z (z.1,z.2.2.2.2.2))
def yp (k:Nat)(au:List zK)(aB:EQ)(az:AC)(ax:EQ)(a1:List zD)(a2:Int)(a3:Bool):Option tI:=
 (Mp k au aB az ax a1 a2).bind fun x0=>cond (!a3) (some (x0.1,x0.2.1,x0.2.2.1,x0.2.2.2.1,x0.2.2.2.2.1,x0.2.2.2.2.2))<|(Cv k x0.1 x0.2.1 x0.2.2.1 x0.2.2.2.1 x0.2.2.2.2.1 a2).bind fun x1=>cond (decide ((x1.2.2.2.2.2.length:Int)=0)) (some (fL x1 x0.2.2.2.2.2))<|(Mp k x1.1 x1.2.1 x1.2.2.1 x1.2.2.2.1 x1.2.2.2.2.1 a2).bind fun x2=>cond (zL (x0.2.2.2.2.2.length+x1.2.2.2.2.2.length) 56) (cond (zL ((x0.2.2.2.2.2++x1.2.2.2.2.2).length+x2.2.2.2.2.2.length) 56) (let y0:List zD:=((x0.2.2.2.2.2++x1.2.2.2.2.2)++x2.2.2.2.2.2)
   some (fL x2 y0)) none) none
abbrev qX9:Type:=(List zD)×Int×Int×(List zW)
abbrev yBi:Type:=List zD→Int→Int→Int→Int→List zW→Int→Int→Int→Int→Int→Int→Int→AC→Option qX9
def yt (k:Nat)(rec:yBi):yBi:=fun s8 s9 av cQ cN r0 aw aD aE aG aJ aK aL r2=>
 cond (decide (cN<cQ)) (cond (zB cN r2.length) ((rr k (r2.getD cN.toNat 0) 18 [aw,aD,aE,aG]).bind fun x0=>cond (zL (r0.length+1) 64) (rec s8 s9 av cQ (zA (cN+1)) (r0++[x0]) aw aD aE aG aJ aK aL r2) none) none)<|some (s8,s9,av,r0)
def yr (k:Nat):Nat→yBi
 |0,_,_,_,_,_,_,_,_,_,_,_,_,_,_=>none
 |n+1,s8,s9,av,cQ,cN,r0,aw,aD,aE,aG,aJ,aK,aL,r2=>yt k (yr k n) s8 s9 av cQ cN r0 aw aD aE aG aJ aK aL r2
abbrev qOq:Type:=List zW
abbrev qUz:Type:=List zD→Int→Int→List zW→Option qOq
def G1 (k:Nat)(rec:qUz):qUz:=fun s8 s9 av r0=>
 cond (decide (av<s9)) (cond (zB av s8.length) ((yr k k s8 s9 av 2 0 r0 (s8.getD av.toNat ama).1 (s8.getD av.toNat ama).2.1 (s8.getD av.toNat ama).2.2.1 (s8.getD av.toNat ama).2.2.2.1 (s8.getD av.toNat ama).2.2.2.2.1 (s8.getD av.toNat ama).2.2.2.2.2.1 (s8.getD av.toNat ama).2.2.2.2.2.2 [(s8.getD av.toNat ama).2.1,(s8.getD av.toNat ama).2.2.1]).bind fun z=>rec z.1 z.2.1 (zA (z.2.2.1+1)) z.2.2.2) none)<|some r0
def Mq (k:Nat):Nat→qUz
 |0,_,_,_,_=>none
 |n+1,s8,s9,av,r0=>G1 k (Mq k n) s8 s9 av r0
def Rs (k:Nat)(a0:List zD):Option (List zW):=
 (Mq k k a0 (a0.length:Int) 0 []).bind fun z1=>some z1
def u9 (k:Nat)(mO:Int)(rI:List zK)(rJ:EQ)(rK:AC)(rL:EQ)(rM:AC)(rN:EQ)(mP:List zD)(rO:AC)(rP:Int)(rQ a1:Bool):Option Uf:=
 (yp k rI rJ rK rL mP mO a1).bind fun x0=>(Rs k x0.2.2.2.2.2).bind fun x1=>some (mO,(vR x0 (rM,rN,x0.2.2.2.2.1,rO,rP,rQ,x1)))
abbrev yC3:Type:=Int×(List vW)×Int×Int×Int×Int×(List zK)×EQ×AC×EQ×AC×EQ×(List zD)×AC×Int×Bool×Int×Int×Bool×(List zW)×(List zD)
abbrev qO0:Type:=List zD→Int→Int→Int→List vW→Int→Int→Int→Int→List zK→EQ→AC→EQ→AC→EQ→List zD→AC→Int→Bool→Int→Int→Bool→List zW→List zD→Option yC3
def Ha (k:Nat)(rec:qO0):qO0:=fun fP lY fQ af ai aj ah bb aw aD aE aG aJ aK aL cE cF bD aX bd rU lC r3 r4=>
 cond (decide (fQ<lY)) (cond (zB fQ fP.length) ((yA8 k (fP.getD fQ.toNat ama).1 (fP.getD fQ.toNat ama).2.1 (fP.getD fQ.toNat ama).2.2.1 (fP.getD fQ.toNat ama).2.2.2.1 (fP.getD fQ.toNat ama).2.2.2.2.1 (fP.getD fQ.toNat ama).2.2.2.2.2.1 (fP.getD fQ.toNat ama).2.2.2.2.2.2 aw).bind fun x2=>cond x2 ((rr k (fP.getD fQ.toNat ama).2.1 21 [(fP.getD fQ.toNat ama).1]).bind fun x3=>cond (zL (r3.length+1) 64) (rec fP lY (zA (fQ+1)) af ai aj ah bb aw aD aE aG aJ aK aL cE cF bD aX bd rU lC (r3++[x3]) r4) none)<|cond (zL (r4.length+1) 56) (let y0:List zD:=(r4++[(fP.getD fQ.toNat ama)])
    rec fP lY (zA (fQ+1)) af ai aj ah bb aw aD aE aG aJ aK aL cE cF bD aX bd rU lC r3 y0) none) none)<|some (af,ai,aj,ah,bb,aw,aD,aE,aG,aJ,aK,aL,cE,cF,bD,aX,bd,rU,lC,r3,r4)
def G9 (k:Nat):Nat→qO0
 |0,_,_,_,_,_,_,_,_,_,_,_,_,_,_,_,_,_,_,_,_,_,_,_,_=>none
 |n+1,fP,lY,fQ,af,ai,aj,ah,bb,aw,aD,aE,aG,aJ,aK,aL,cE,cF,bD,aX,bd,rU,lC,r3,r4=>Ha k (G9 k n) fP lY fQ af ai aj ah bb aw aD aE aG aJ aK aL cE cF bD aX bd rU lC r3 r4
def yv (k:Nat)(di:Int)(dR:List vW)(dU dj cm j3:Int)(cG:List zK)(dD:EQ)(dE:AC)(dF:EQ)(gp:AC)(j4:EQ)(gq:List zD)(rV:AC)(j5:Int)(j6:Bool):Option Uf:=
 cond j6 (some (j3,cG,dD,dE,dF,gp,j4,gq,rV,j5,j6,[]))<|(Cy k di dR dU dj cm (zA (j3+1))).bind fun x0=>cond x0 ((Rv k (zA (j3+1)) cG dD dE dF gp j4 gq rV j5 j6).bind fun x1=>some (x1.1,x1.2.1,x1.2.2.1,x1.2.2.2.1,x1.2.2.2.2.1,x1.2.2.2.2.2.1,x1.2.2.2.2.2.2.1,x1.2.2.2.2.2.2.2.1,x1.2.2.2.2.2.2.2.2.1,x1.2.2.2.2.2.2.2.2.2.1,x1.2.2.2.2.2.2.2.2.2.2.1,x1.2.2.2.2.2.2.2.2.2.2.2))<|(G9 k k gq (gq.length:Int) 0 di dR dU dj cm (zA (j3+1)) cG dD dE dF gp j4 gq rV j5 j6 0 0 false [] []).bind fun z=>(Hb k z.1 z.2.1 z.2.2.1 z.2.2.2.1 z.2.2.2.2.1 z.2.2.2.2.2.1).bind fun x4=>(u9 k z.2.2.2.2.2.1 z.2.2.2.2.2.2.1 z.2.2.2.2.2.2.2.1 z.2.2.2.2.2.2.2.2.1 z.2.2.2.2.2.2.2.2.2.1 z.2.2.2.2.2.2.2.2.2.2.1 z.2.2.2.2.2.2.2.2.2.2.2.1 z.2.2.2.2.2.2.2.2.2.2.2.2.2.2.2.2.2.2.2.2 z.2.2.2.2.2.2.2.2.2.2.2.2.2.1 z.2.2.2.2.2.2.2.2.2.2.2.2.2.2.1 z.2.2.2.2.2.2.2.2.2.2.2.2.2.2.2.1 x4).bind fun x5=>cond (zL (z.2.2.2.2.2.2.2.2.2.2.2.2.2.2.2.2.2.2.2.1.length+x5.2.2.2.2.2.2.2.2.2.2.2.length) 64) (let y1:List zW:=(z.2.2.2.2.2.2.2.2.2.2.2.2.2.2.2.2.2.2.2.1++x5.2.2.2.2.2.2.2.2.2.2.2)
  some (AW x5 y1)) none
def vM4 (k:Nat)(a0:lV)(a1:Ow):Option (Int×jS):=
 (vK k a1.2.1 0 (zA (a0.1-1))).bind fun x0=>cond (!x0) (some (1,(vQ a0 [])))<|(vK k a1.2.2.2.1 1 3).bind fun x1=>cond (!x1) (some (1,(vQ a0 [])))<|(Hc k (yC a0) a0.2.2.2.2.2.1 (a1.1,a0.2.2.2.2.2.2.2.2.2.2.2.2.2.2.2.2,a1.2)).bind fun x2=>cond (!(decide (x2=0))) (some (x2,(vQ a0 [])))<|(Gu k a0.2.2.2.2.2.2.2.2.2.2.2.2.2.1 a1.1).bind fun x3=>cond (!(decide (x3.2=0))) (some (x3.2,(vQ a0 [])))<|(yh k a0.2.2.2.2.2.2.2.2.2.2.2.2.1 (a1.1,a0.2.2.2.2.2.2.2.2.2.2.2.2.2.2.2.2,a1.2)).bind fun x4=>cond (!(decide (x4.2=0))) (some (x4.2,(vQ a0 [])))<|some (0,(kA a0 (x4.1,x3.1,a0.2.2.2.2.2.2.2.2.2.2.2.2.2.2.1,a0.2.2.2.2.2.2.2.2.2.2.2.2.2.2.2.1,a0.2.2.2.2.2.2.2.2.2.2.2.2.2.2.2.2,[])))
def TH (k:Nat)(a0:lV)(a1:zD):Option (Int×jS):=
 (yG2 k (vQ a0 []) a1.2.1).bind fun x0=>cond (!(decide (x0.2=0))) (some (x0.2,(vQ a0 [])))<|cond (decide (a1.1=2)) ((qx k a0.2.2.2.2.2.2.2.2.2.2.2.2.1 a1.2.1).bind fun x1=>(Sh k (kA a0 (x1.1,a0.2.2.2.2.2.2.2.2.2.2.2.2.2)) 20 [a1.2.1]).bind fun x2=>some (x1.2.2.2.2.2.2.2.2,x2))<|cond (decide (a1.1=4)) ((vK k a1.2.2.1 1 3).bind fun x3=>cond (!x3) (some (1,(vQ a0 [])))<|(Cz k (yC a0) a0.2.2.2.2.2.1 a1.2.2.1).bind fun x4=>cond (!(decide (x4=0))) (some (x4,(vQ a0 [])))<|(Gp k a0.2.2.2.2.2.2.2.2.2.2.2.2.1 a1.2.1 a1.2.2.1).bind fun x5=>some (x5.2,(kA a0 (x5.1,(yGy a0 [])))))<|cond (decide (a1.2.2.1=0)) ((Gs k a0.2.2.2.2.2.2.2.2.2.2.2.2.1 a1.2.1).bind fun x6=>some (x6.2,(kA a0 (x6.1,(yGy a0 [])))))<|cond (decide (a1.2.2.1=1)) ((Gq k a0.2.2.2.2.2.2.2.2.2.2.2.2.1 a1.2.1).bind fun x7=>some (x7.2,(kA a0 (x7.1,(yGy a0 [])))))<|some (1,(vQ a0 []))
def TI (k:Nat)(a0:lV)(a1:zD):Option (Int×jS):=
 (gG k a0.2.2.2.2.2.2.1 a0.2.2.2.2.2.2.2.1 a0.2.2.2.2.2.2.2.2.1 a0.2.2.2.2.2.2.2.2.2.1).bind fun x0=>cond (decide (a1.1=5)) ((yAo k (vQ a0 []) a1.2.1).bind fun x1=>cond (!x1) (some (1,(vQ a0 [])))<|(vK k a1.2.2.1 (-1) 1152921504606846976).bind fun x2=>cond (!x2) (some (1,(vQ a0 [])))<|cond (zB a0.2.2.2.2.2.2.2.2.2.2.2.2.2.2.2.2 x0.2.1.length) (cond (zB a1.2.1 (x0.2.1.getD a0.2.2.2.2.2.2.2.2.2.2.2.2.2.2.2.2.toNat []).length) (let y0:EQ:=(x0.2.1.set a0.2.2.2.2.2.2.2.2.2.2.2.2.2.2.2.2.toNat ((x0.2.1.getD a0.2.2.2.2.2.2.2.2.2.2.2.2.2.2.2.2.toNat []).set a1.2.1.toNat a1.2.2.1))
    some (0,(jF a0 (x0.1,y0,x0.2.2.1,x0.2.2.2,(qSk a0 []))))) none) none)<|cond (decide (a1.1=6)) ((vK k a1.2.1 (-1) 1152921504606846976).bind fun x3=>cond (!x3) (some (1,(vQ a0 [])))<|cond (zB a0.2.2.2.2.2.2.2.2.2.2.2.2.2.2.2.2 x0.2.2.1.length) (let y1:AC:=(x0.2.2.1.set a0.2.2.2.2.2.2.2.2.2.2.2.2.2.2.2.2.toNat a1.2.1)
   some (0,(jF a0 (x0.1,x0.2.1,y1,x0.2.2.2,(qSk a0 []))))) none)<|(vK k a1.2.1 0 1152921504606846976).bind fun x4=>cond (!x4) (some (1,(vQ a0 [])))<|cond (zB a0.2.2.2.2.2.2.2.2.2.2.2.2.2.2.2.2 x0.1.length) (let y2:List zK:=(x0.1.set a0.2.2.2.2.2.2.2.2.2.2.2.2.2.2.2.2.toNat ((x0.1.getD a0.2.2.2.2.2.2.2.2.2.2.2.2.2.2.2.2.toNat ala).1,(x0.1.getD a0.2.2.2.2.2.2.2.2.2.2.2.2.2.2.2.2.toNat ala).2.1,a1.2.1))
  some (0,(jF a0 (y2,x0.2.1,x0.2.2.1,x0.2.2.2,(qSk a0 []))))) none
def yPr (k:Nat)(a0:lV)(a1 a2:Int):Option (Int×jS):=
 (Ob k (vQ a0 []) a1).bind fun x0=>cond (!x0) (some (1,(vQ a0 [])))<|(vK k a2 0 1099511627776).bind fun x1=>cond (!x1) (some (1,(vQ a0 [])))<|(He k a0.2.2.2.2.2.2.2.2.2.2.2.1).bind fun x2=>cond (zB a0.2.2.2.2.2.2.2.2.2.2.2.2.2.2.2.2 x2.length) ((rj k (x2.getD a0.2.2.2.2.2.2.2.2.2.2.2.2.2.2.2.2.toNat []) a1 a2).bind fun x3=>cond (zB a0.2.2.2.2.2.2.2.2.2.2.2.2.2.2.2.2 x2.length) (let y0:EQ:=(x2.set a0.2.2.2.2.2.2.2.2.2.2.2.2.2.2.2.2.toNat x3)
   cond (zB a0.2.2.2.2.2.2.2.2.2.2.2.2.2.2.2.2 y0.length) ((nv k a0.2.1 a0.2.2.2.2.2.2.2.2.2.2.1 (y0.getD a0.2.2.2.2.2.2.2.2.2.2.2.2.2.2.2.2.toNat [])).bind fun x4=>cond (zB a0.2.2.2.2.2.2.2.2.2.2.2.2.2.2.2.2 a0.2.2.2.2.2.2.1.length) (cond (!x4.2) (some (8,(vQ a0 [])))<|cond (decide (x4.1>1152921504606846976)) (some (8,(vQ a0 [])))<|cond (decide (x4.1<(a0.2.2.2.2.2.2.1.getD a0.2.2.2.2.2.2.2.2.2.2.2.2.2.2.2.2.toNat ala).2.1)) (cond (decide ((zA ((a0.2.2.2.2.2.2.1.getD a0.2.2.2.2.2.2.2.2.2.2.2.2.2.2.2.2.toNat ala).1+x4.1))<0)) (some (9,(vQ a0 [])))<|(gG k a0.2.2.2.2.2.2.1 a0.2.2.2.2.2.2.2.1 a0.2.2.2.2.2.2.2.2.1 a0.2.2.2.2.2.2.2.2.2.1).bind fun x5=>cond (zB a0.2.2.2.2.2.2.2.2.2.2.2.2.2.2.2.2 x5.1.length) (let y1:List zK:=(x5.1.set a0.2.2.2.2.2.2.2.2.2.2.2.2.2.2.2.2.toNat ((x5.1.getD a0.2.2.2.2.2.2.2.2.2.2.2.2.2.2.2.2.toNat ala).1,x4.1,(x5.1.getD a0.2.2.2.2.2.2.2.2.2.2.2.2.2.2.2.2.toNat ala).2.2))
       some (0,(jF a0 (y1,x5.2.1,x5.2.2.1,x5.2.2.2,a0.2.2.2.2.2.2.2.2.2.2.1,y0,(yRa a0 []))))) none)<|(gG k a0.2.2.2.2.2.2.1 a0.2.2.2.2.2.2.2.1 a0.2.2.2.2.2.2.2.2.1 a0.2.2.2.2.2.2.2.2.2.1).bind fun x6=>cond (zB a0.2.2.2.2.2.2.2.2.2.2.2.2.2.2.2.2 x6.1.length) (let y2:List zK:=(x6.1.set a0.2.2.2.2.2.2.2.2.2.2.2.2.2.2.2.2.toNat ((x6.1.getD a0.2.2.2.2.2.2.2.2.2.2.2.2.2.2.2.2.toNat ala).1,x4.1,(x6.1.getD a0.2.2.2.2.2.2.2.2.2.2.2.2.2.2.2.2.toNat ala).2.2))
      some (0,(jF a0 (y2,x6.2.1,x6.2.2.1,x6.2.2.2,a0.2.2.2.2.2.2.2.2.2.2.1,y0,(yRa a0 []))))) none) none) none) none) none
def HB (k:Nat)(a0:lV)(a1 a2 a3:Int):Option (Int×jS):=
 (vK k a2 0 (zA (a0.1-1))).bind fun x0=>cond (!x0) (some (1,(vQ a0 [])))<|(vK k a3 1 1099511627776).bind fun x1=>cond (!x1) (some (1,(vQ a0 [])))<|cond (zB a2 a0.2.2.2.2.2.2.1.length) ((HC k (a0.2.2.2.2.2.2.1.getD a2.toNat ala) a3).bind fun x2=>cond (decide (a1=11)) ((HD k (a0.2.2.2.2.2.2.1.getD a2.toNat ala) a3 3).bind fun x3=>(HE k (a0.2.2.2.2.2.2.1.getD a2.toNat ala) 3).bind fun x4=>cond (decide (x4<a3)) (some (9,(vQ a0 [])))<|cond (decide ((zA (a0.2.2.2.2.2.2.2.2.2.2.2.2.2.2.1-a3))<0)) (some (9,(vQ a0 [])))<|cond (!(decide (x3.2=0))) (some (x3.2,(vQ a0 [])))<|cond (decide ((zA (a0.2.2.2.2.2.2.2.2.2.2.2.2.2.2.1-a3))>1152921504606846976)) (some (8,(vQ a0 [])))<|(gG k a0.2.2.2.2.2.2.1 a0.2.2.2.2.2.2.2.1 a0.2.2.2.2.2.2.2.2.1 a0.2.2.2.2.2.2.2.2.2.1).bind fun x5=>cond (zB a2 x5.1.length) (some (0,(jF a0 ((x5.1.set a2.toNat x3.1),x5.2.1,x5.2.2.1,x5.2.2.2,(Jn a0 ((zA (a0.2.2.2.2.2.2.2.2.2.2.2.2.2.2.1-a3)),a0.2.2.2.2.2.2.2.2.2.2.2.2.2.2.2.1,a0.2.2.2.2.2.2.2.2.2.2.2.2.2.2.2.2,[])))))) none)<|cond (!(decide (x2.2=0))) (some (x2.2,(vQ a0 [])))<|cond (decide ((zA (a0.2.2.2.2.2.2.2.2.2.2.2.2.2.2.1+a3))>1152921504606846976)) (some (8,(vQ a0 [])))<|(gG k a0.2.2.2.2.2.2.1 a0.2.2.2.2.2.2.2.1 a0.2.2.2.2.2.2.2.2.1 a0.2.2.2.2.2.2.2.2.2.1).bind fun x6=>cond (zB a2 x6.1.length) (some (0,(jF a0 ((x6.1.set a2.toNat x2.1),x6.2.1,x6.2.2.1,x6.2.2.2,(Jn a0 ((zA (a0.2.2.2.2.2.2.2.2.2.2.2.2.2.2.1+a3)),a0.2.2.2.2.2.2.2.2.2.2.2.2.2.2.2.1,a0.2.2.2.2.2.2.2.2.2.2.2.2.2.2.2.2,[])))))) none) none
abbrev yCj:Type:=(lV×AC×(List zK)×EQ×AC×EQ)⊕(Int×lV)
abbrev qMt:Type:=EQ→Int→Int→lV→AC→List zK→EQ→AC→EQ→Option yCj
def HG (k:Nat)(rec:qMt):qMt:=fun gP ju lB b0 r1 r3 m4 r5 m6=>
 cond (decide (lB<ju)) (cond (zB lB gP.length) ((nv k b0.2.1 r1 (gP.getD lB.toNat [])).bind fun x4=>cond (!x4.2) (some (.inr (8,b0)))<|cond (decide (x4.1>1152921504606846976)) (some (.inr (8,b0)))<|cond (zB lB r3.length) (let y0:List zK:=(r3.set lB.toNat ((r3.getD lB.toNat ala).1,x4.1,(r3.getD lB.toNat ala).2.2))
    rec gP ju (zA (lB+1)) b0 r1 y0 m4 r5 m6) none) none)<|some (.inl (b0,r1,r3,m4,r5,m6))
def vq (k:Nat):Nat→qMt:=qY (fun _ _ _ _ _ _ _ _ _=>none) (HG k)
def RW (k:Nat)(a0:lV)(a1 a2:Int):Option (Int×jS):=
 (Ob k (vQ a0 []) a1).bind fun x0=>cond (!x0) (some (1,(vQ a0 [])))<|(vK k a2 0 1048576).bind fun x1=>cond (!x1) (some (1,(vQ a0 [])))<|(rj k a0.2.2.2.2.2.2.2.2.2.2.1 a1 a2).bind fun x2=>(gG k a0.2.2.2.2.2.2.1 a0.2.2.2.2.2.2.2.1 a0.2.2.2.2.2.2.2.2.1 a0.2.2.2.2.2.2.2.2.2.1).bind fun x3=>(vq k k a0.2.2.2.2.2.2.2.2.2.2.2.1 (a0.2.2.2.2.2.2.2.2.2.2.2.1.length:Int) 0 a0 x2 x3.1 x3.2.1 x3.2.2.1 x3.2.2.2).bind fun z=>match z with
 |.inl z1=>some (0,(jF z1.1 (CK z1 (z1.2.1,(yBa z1.1 [])))))
 |.inr z2=>some (jK z2 [])
def H6 (k:Nat)(a0:lV)(a1:zD):Option (Int×jS):=
 cond (decide (a1.1=1)) ((vM4 k a0 a1.2).bind fun x0=>some (x0.1,x0.2))<|cond (decide (a1.1=2)) ((TH k a0 a1).bind fun x1=>some (x1.1,x1.2))<|cond (decide (a1.1=3)) ((TH k a0 a1).bind fun x2=>some (x2.1,x2.2))<|cond (decide (a1.1=4)) ((TH k a0 a1).bind fun x3=>some (x3.1,x3.2))<|cond (decide (a1.1=5)) ((TI k a0 a1).bind fun x4=>some (x4.1,x4.2))<|cond (decide (a1.1=6)) ((TI k a0 a1).bind fun x5=>some (x5.1,x5.2))<|cond (decide (a1.1=7)) ((TI k a0 a1).bind fun x6=>some (x6.1,x6.2))<|cond (decide (a1.1=8)) ((yPr k a0 a1.2.1 a1.2.2.1).bind fun x7=>some (x7.1,x7.2))<|cond (decide (a1.1=10)) ((HB k a0 a1.1 a1.2.1 a1.2.2.1).bind fun x8=>some (x8.1,x8.2))<|cond (decide (a1.1=11)) ((HB k a0 a1.1 a1.2.1 a1.2.2.1).bind fun x9=>some (x9.1,x9.2))<|cond (decide (a1.1=12)) ((RW k a0 a1.2.1 a1.2.2.1).bind fun bV=>some (bV.1,bV.2))<|some (0,(vQ a0 []))
def H8 (k:Nat)(a0:qW)(a1:yA)(a2:zW):Option (yA×(List zW)×Int):=
 (yy k a0 a1 a2).bind fun x0=>cond (!(decide (x0=0))) (some (a1,[],x0))<|cond (decide (a2.2.1=9)) ((Sg k a1 a2.1).bind fun x1=>some (a1,x1,0))<|cond (!(decide (a2.1=(-1)))) ((Sh k (vI a0 (vD a1 a2.1)) 15 []).bind fun x2=>(Sc k x2 a2.2).bind fun x3=>cond (!(decide (x3.1=0))) (some (a1,[],x3.1))<|cond (decide (a2.2.1=14)) ((yv k a0.1 a0.2.1 a0.2.2.1 a0.2.2.2.1 a0.2.2.2.2 a1.1 a1.2.1 a1.2.2.1 a1.2.2.2.1 a1.2.2.2.2.1 a1.2.2.2.2.2.1 a1.2.2.2.2.2.2.1 a1.2.2.2.2.2.2.2.1 a1.2.2.2.2.2.2.2.2.1 a1.2.2.2.2.2.2.2.2.2.1 a1.2.2.2.2.2.2.2.2.2.2).bind fun x4=>some ((qO x4),x4.2.2.2.2.2.2.2.2.2.2.2,0))<|(u9 k x3.2.2.2.2.2.2.1 x3.2.2.2.2.2.2.2.1 x3.2.2.2.2.2.2.2.2.1 x3.2.2.2.2.2.2.2.2.2.1 x3.2.2.2.2.2.2.2.2.2.2.1 x3.2.2.2.2.2.2.2.2.2.2.2.1 x3.2.2.2.2.2.2.2.2.2.2.2.2.1 x3.2.2.2.2.2.2.2.2.2.2.2.2.2.1 x3.2.2.2.2.2.2.2.2.2.2.2.2.2.2.1 x3.2.2.2.2.2.2.2.2.2.2.2.2.2.2.2.1 x3.2.2.2.2.2.2.2.2.2.2.2.2.2.2.2.2.1 (decide (a2.2.1=13))).bind fun x5=>cond (zL (x3.2.2.2.2.2.2.2.2.2.2.2.2.2.2.2.2.2.2.length+x5.2.2.2.2.2.2.2.2.2.2.2.length) 64) (let y0:List zW:=(x3.2.2.2.2.2.2.2.2.2.2.2.2.2.2.2.2.2.2++x5.2.2.2.2.2.2.2.2.2.2.2)
   cond (decide (a2.2.1=1)) ((py k x5.2.2.2.2.2.2.2.1 a2.2.2.1).bind fun x6=>cond (decide (x6≥0)) ((yx k (Sf x3 y0) 19 [a2.2.2.1]).bind fun x7=>some ((qO x5),x7.2.2.2.2.2.2.2.2.2.2.2.2.2.2.2.2.2,0))<|some ((qO x5),y0,0))<|some ((qO x5),y0,0)) none)<|(H6 k (vI a0 (vD a1 a2.1)) a2.2).bind fun x8=>cond (!(decide (x8.1=0))) (some (a1,[],x8.1))<|cond (decide (a2.2.1=14)) ((yv k a0.1 a0.2.1 a0.2.2.1 a0.2.2.2.1 a0.2.2.2.2 a1.1 a1.2.1 a1.2.2.1 a1.2.2.2.1 a1.2.2.2.2.1 a1.2.2.2.2.2.1 a1.2.2.2.2.2.2.1 a1.2.2.2.2.2.2.2.1 a1.2.2.2.2.2.2.2.2.1 a1.2.2.2.2.2.2.2.2.2.1 a1.2.2.2.2.2.2.2.2.2.2).bind fun x9=>some ((qO x9),x9.2.2.2.2.2.2.2.2.2.2.2,0))<|(u9 k x8.2.2.2.2.2.2.1 x8.2.2.2.2.2.2.2.1 x8.2.2.2.2.2.2.2.2.1 x8.2.2.2.2.2.2.2.2.2.1 x8.2.2.2.2.2.2.2.2.2.2.1 x8.2.2.2.2.2.2.2.2.2.2.2.1 x8.2.2.2.2.2.2.2.2.2.2.2.2.1 x8.2.2.2.2.2.2.2.2.2.2.2.2.2.1 x8.2.2.2.2.2.2.2.2.2.2.2.2.2.2.1 x8.2.2.2.2.2.2.2.2.2.2.2.2.2.2.2.1 x8.2.2.2.2.2.2.2.2.2.2.2.2.2.2.2.2.1 (decide (a2.2.1=13))).bind fun bV=>cond (zL (x8.2.2.2.2.2.2.2.2.2.2.2.2.2.2.2.2.2.2.length+bV.2.2.2.2.2.2.2.2.2.2.2.length) 64) (let y1:List zW:=(x8.2.2.2.2.2.2.2.2.2.2.2.2.2.2.2.2.2.2++bV.2.2.2.2.2.2.2.2.2.2.2)
  cond (decide (a2.2.1=1)) ((py k bV.2.2.2.2.2.2.2.1 a2.2.2.1).bind fun cw=>cond (decide (cw≥0)) ((yx k (Sf x8 y1) 19 [a2.2.2.1]).bind fun fM=>some ((qO bV),fM.2.2.2.2.2.2.2.2.2.2.2.2.2.2.2.2.2,0))<|some ((qO bV),y1,0))<|some ((qO bV),y1,0)) none
def oE (k:Nat)(aC:wA)(bC:vS)(a1:AC):Option (Int×wA×vS):=
 (za k bC (zA (1-aC.1)) (zA (aC.2.1+1)) a1).bind fun x0=>cond (decide (x0.1=0)) (some (x0.1,((zA (1-aC.1)),(zA (aC.2.1+1)),0,false),x0.2))<|some (x0.1,aC,x0.2)
def qMv (k:Nat)(a0:Int):Option Bool:=
 (vK k a0 0 1048576).bind fun x0=>some (!x0)
def Is (k:Nat)(rec:qM8):qM8:=fun s0 s7 s8=>
 cond (decide (s8<s7)) (cond (zB s8 s0.length) ((qMv k (s0.getD s8.toNat 0)).bind fun x0=>cond x0 (some (.inr s8))<|rec s0 s7 (zA (s8+1))) none)<|some (.inl ())
def C9 (k:Nat):Nat→qM8
 |0,_,_,_=>none
 |n+1,s0,s7,s8=>Is k (C9 k n) s0 s7 s8
def qX1 (k:Nat)(a0:AC):Option Int:=
 (C9 k k a0 (a0.length:Int) 0).bind fun z=>match z with
 |.inl z1=>some (-1)
 |.inr z2=>some z2
def Ns (k:Nat)(a0:AC):Option Bool:=
 (qX1 k a0).bind fun x0=>some (decide (x0≥0))
def qQo (k:Nat)(a0:Int):Option Bool:=
 some (decide (a0>1099511627776))
def Iu (k:Nat)(rec:qM8):qM8:=fun s0 s7 s8=>
 cond (decide (s8<s7)) (cond (zB s8 s0.length) ((qQo k (s0.getD s8.toNat 0)).bind fun x0=>cond x0 (some (.inr s8))<|rec s0 s7 (zA (s8+1))) none)<|some (.inl ())
def Da (k:Nat):Nat→qM8
 |0,_,_,_=>none
 |n+1,s0,s7,s8=>Iu k (Da k n) s0 s7 s8
def qOp (k:Nat)(a0:AC):Option Int:=
 (Da k k a0 (a0.length:Int) 0).bind fun z=>match z with
 |.inl z1=>some (-1)
 |.inr z2=>some z2
def Sp (k:Nat)(a0:AC):Option Bool:=
 (qOp k a0).bind fun x0=>some (decide (x0≥0))
abbrev yD1:Type:=EQ→Int→Int→qW→yA→Option (Unit⊕Bool)
def Iv (k:Nat)(rec:yD1):yD1:=fun lY fQ mR b0 b1=>
 cond (decide (mR<fQ)) (cond (zB mR lY.length) ((nv k b0.2.1 b1.2.2.2.2.2.1 (lY.getD mR.toNat [])).bind fun x1=>cond (!x1.2) (some (.inr false))<|cond (decide (x1.1>1152921504606846976)) (some (.inr false))<|cond (zB mR b1.2.1.length) (cond (!(decide (x1.1=(b1.2.1.getD mR.toNat ala).2.1))) (some (.inr false))<|(Sp k (lY.getD mR.toNat [])).bind fun x2=>cond x2 (some (.inr false))<|rec lY fQ (zA (mR+1)) b0 b1) none) none)<|some (.inl ())
def Ax (k:Nat):Nat→yD1:=qY (fun _ _ _ _ _=>none) (Iv k)
def Nt (k:Nat)(a0:qW)(a1:yA):Option Bool:=
 cond (!(decide ((a1.2.2.2.2.2.1.length:Int)=(a0.2.1.length:Int)))) (some false)<|cond (!(decide ((a1.2.2.2.2.2.2.1.length:Int)=a0.1))) (some false)<|(Ns k a1.2.2.2.2.2.1).bind fun x0=>cond x0 (some false)<|(Ax k k a1.2.2.2.2.2.2.1 (a1.2.2.2.2.2.2.1.length:Int) 0 a0 a1).bind fun z=>match z with
 |.inl z1=>some true
 |.inr z2=>some z2
abbrev qR2:Type:=List zD→Int→Option (Unit⊕Bool)
def Sn (k:Nat)(rec:qR2):qR2:=fun s0 s5=>
 cond (decide (s5>0)) (cond (zB s5 s0.length) (cond (zB (zA (s5 - 1)) s0.length) ((Gk k (s0.getD s5.toNat ama).1 (s0.getD s5.toNat ama).2.1 (s0.getD s5.toNat ama).2.2.1 (s0.getD s5.toNat ama).2.2.2.1 (s0.getD s5.toNat ama).2.2.2.2.1 (s0.getD s5.toNat ama).2.2.2.2.2.1 (s0.getD s5.toNat ama).2.2.2.2.2.2 (s0.getD (zA (s5-1)).toNat ama).1 (s0.getD (zA (s5-1)).toNat ama).2.1 (s0.getD (zA (s5-1)).toNat ama).2.2.1 (s0.getD (zA (s5-1)).toNat ama).2.2.2.1 (s0.getD (zA (s5-1)).toNat ama).2.2.2.2.1 (s0.getD (zA (s5-1)).toNat ama).2.2.2.2.2.1 (s0.getD (zA (s5-1)).toNat ama).2.2.2.2.2.2).bind fun x0=>cond (decide (x0<0)) (some (.inr false))<|rec s0 (zA (s5-1))) none) none)<|some (.inl ())
def C6 (k:Nat):Nat→qR2:=qY (fun _ _=>none) (Sn k)
def Sm (k:Nat)(a0:List zD):Option Bool:=
 (C6 k k a0 (zA ((a0.length:Int)-1))).bind fun z=>match z with
 |.inl z1=>some true
 |.inr z2=>some z2
abbrev yAc:Type:=(List zD)⊕Bool
abbrev qOg:Type:=List zD→List zD→Int→Int→Option yAc
def Ip (k:Nat)(rec:qOg):qOg:=fun s0 s5 s6 s7=>
 cond (decide (s7<s6)) (cond (zB s7 s5.length) ((py k s0 (s5.getD s7.toNat ama).1).bind fun x0=>cond (!(decide (x0=s7))) (some (.inr false))<|rec s0 s5 s6 (zA (s7+1))) none)<|some (.inl s0)
def C5 (k:Nat):Nat→qOg
 |0,_,_,_,_=>none
 |n+1,s0,s5,s6,s7=>Ip k (C5 k n) s0 s5 s6 s7
def No (k:Nat)(a0:List zD):Option Bool:=
 (C5 k k a0 a0 (a0.length:Int) 0).bind fun z=>match z with
 | .inl z1=>cond (decide ((z1.length : Int)≤40)) ((Sm k z1).bind fun x1=>some x1)<|some false
 |.inr z2=>some z2
abbrev qNk:Type:=AC→Int→AC→Int→Int→Option (AC⊕Bool)
def Iq (k:Nat)(rec:qNk):qNk:=fun s0 s3 s6 s7 s8=>
 cond (decide (s8<s7)) (cond (zB s8 s6.length) (cond (decide ((s6.getD s8.toNat 0)≤s3)) (some (.inr false))<|rec s0 (s6.getD s8.toNat 0) s6 s7 (zA (s8+1))) none)<|some (.inl s0)
def C7 (k:Nat):Nat→qNk:=qY (fun _ _ _ _ _=>none) (Iq k)
def Np (k:Nat)(a0:AC):Option Bool:=
 (C7 k k a0 0 a0 (a0.length:Int) 0).bind fun z=>match z with
 |.inl z1=>some (decide ((z1.length:Int)≤200))
 |.inr z2=>some z2
def Q9 (k:Nat)(a0:AC)(a1:Int):Option Bool:=
 (Gt k a0 a1).bind fun x0=>some x0.2
def So (k:Nat)(a0:zD)(a1:yA):Option Bool:=
 (Fx k a1.2.1 a1.2.2.1 a1.2.2.2.1 a1.2.2.2.2.1 a0.1 a0.2.1 a0.2.2.1 a0.2.2.2.1 a0.2.2.2.2.1 a0.2.2.2.2.2.1 a0.2.2.2.2.2.2).bind fun x0=>cond (!x0) (some true)<|cond (decide (a0.2.2.2.2.2.1<0)) (some true)<|(vK k a0.2.2.2.2.2.2 a0.2.2.2.2.2.1 1048576).bind fun x1=>cond (!x1) (some true)<|(Q9 k a1.2.2.2.2.2.2.2.2.1 a0.1).bind fun x2=>some (!x2)
abbrev yGr:Type:=List zD→Int→Int→Int→List zK→EQ→AC→EQ→AC→EQ→List zD→AC→Int→Bool→Option (Unit⊕Int)
def Ir (k:Nat)(rec:yGr):yGr:=fun s0 s7 s8 af ai aj ah bb bp bq dV dW dX bY=>
 cond (decide (s8<s7)) (cond (zB s8 s0.length) ((So k (s0.getD s8.toNat ama) (af,ai,aj,ah,bb,bp,bq,dV,dW,dX,bY)).bind fun x0=>cond x0 (some (.inr s8))<|rec s0 s7 (zA (s8+1)) af ai aj ah bb bp bq dV dW dX bY) none)<|some (.inl ())
def C8 (k:Nat):Nat→yGr
 |0,_,_,_,_,_,_,_,_,_,_,_,_,_,_=>none
 |n+1,s0,s7,s8,af,ai,aj,ah,bb,bp,bq,dV,dW,dX,bY=>Ir k (C8 k n) s0 s7 s8 af ai aj ah bb bp bq dV dW dX bY
def qPj (k:Nat)(a0:List zD)(gu:Int)(bQ:List zK)(cH:EQ)(cI:AC)(cJ:EQ)(dG:AC)(eJ:EQ)(gv:List zD)(j7:AC)(eK:Int)(gw:Bool):Option Int:=
 (C8 k k a0 (a0.length:Int) 0 gu bQ cH cI cJ dG eJ gv j7 eK gw).bind fun z=>match z with
 |.inl z1=>some (-1)
 |.inr z2=>some z2
def Nr (k:Nat)(a0:List zD)(gu:Int)(bQ:List zK)(cH:EQ)(cI:AC)(cJ:EQ)(dG:AC)(eJ:EQ)(gv:List zD)(j7:AC)(eK:Int)(gw:Bool):Option Bool:=
 (qPj k a0 gu bQ cH cI cJ dG eJ gv j7 eK gw).bind fun x0=>some (decide (x0≥0))
def Nq (k:Nat)(a0:yA):Option Bool:=
 (No k a0.2.2.2.2.2.2.2.1).bind fun x0=>cond x0 ((Np k a0.2.2.2.2.2.2.2.2.1).bind fun x1=>cond x1 ((Nr k a0.2.2.2.2.2.2.2.1 a0.1 a0.2.1 a0.2.2.1 a0.2.2.2.1 a0.2.2.2.2.1 a0.2.2.2.2.2.1 a0.2.2.2.2.2.2.1 a0.2.2.2.2.2.2.2.1 a0.2.2.2.2.2.2.2.2.1 a0.2.2.2.2.2.2.2.2.2.1 a0.2.2.2.2.2.2.2.2.2.2).bind fun x2=>some (!x2))<|some false)<|some false
abbrev qOj:Type:=qW×yA×AC
abbrev qOb:Type:=List zK→Int→Int→qW→yA→AC→Option qOj
def Ix (k:Nat)(rec:qOb):qOb:=fun oP s45 Um b0 b1 r2=>
 cond (decide (Um<s45)) (cond (zB Um oP.length) (cond (zL (r2.length+1) 8) (rec oP s45 (zA (Um+1)) b0 b1 (r2++[(oP.getD Um.toNat ala).1])) none) none)<|some (b0,b1,r2)
def Iw (k:Nat):Nat→qOb:=qY (fun _ _ _ _ _ _=>none) (Ix k)
def Db (k:Nat)(a0:qW)(a1:yA):Option Bool:=
 (vK k a1.1 0 a0.2.2.2.1).bind fun x0=>cond (!x0) (some false)<|(Fp k a1.2.1 a1.2.2.1 a1.2.2.2.1 a1.2.2.2.2.1).bind fun x1=>cond (!x1) (some false)<|cond (!(decide ((a1.2.1.length:Int)=a0.1))) (some false)<|(Nt k a0 a1).bind fun x2=>cond (!x2) (some false)<|(Nq k a1).bind fun x3=>cond (!x3) (some false)<|(Iw k k a1.2.1 (a1.2.1.length:Int) 0 a0 a1 []).bind fun z=>(Gv k z.2.2).bind fun x4=>cond (!x4.2) (some false)<|cond (!(decide (x4.1=z.2.1.2.2.2.2.2.2.2.2.2.1))) (some false)<|(vK k x4.1 0 1152921504606846976).bind fun x5=>cond (!x5) (some false)<|(Cy k z.1.1 z.1.2.1 z.1.2.2.1 z.1.2.2.2.1 z.1.2.2.2.2 z.2.1.1).bind fun x6=>cond (iR z.2.1.2.2.2.2.2.2.2.2.2.2 x6) (cond (!z.2.1.2.2.2.2.2.2.2.2.2.2) (some true)<|some (decide ((z.2.1.2.2.2.2.2.2.2.1.length:Int)=0)))<|some false
abbrev qZq:Type:=Int×Bool×A2×AC×AC×qW×wA×yA
abbrev qZn:Type:=Int→Bool→EQ→Int→Int→A2→AC→AC→qW→wA→yA→Option qZq
def IQ (k:Nat)(rec:qZn):qZn:=fun s2 bM Un DE rW b0 r1 r2 b3 b4 b5=>
 cond (decide (rW<DE)) (cond (zB rW Un.length) ((ND k (Un.getD rW.toNat [])).bind fun x8=>cond (decide (x8.2=0)) ((H8 k b3 b5 x8.1).bind fun x9=>rec s2 bM Un DE (zA (rW+1)) b0 r1 r2 b3 b4 x9.1)<|rec s2 bM Un DE (zA (rW+1)) b0 r1 r2 b3 b4 b5) none)<|some (s2,bM,b0,r1,r2,b3,b4,b5)
def tB (k:Nat):Nat→qZn:=qY (fun _ _ _ _ _ _ _ _ _ _ _=>none) (IQ k)
def wi (k:Nat)(a0:qW)(a1:vS)(a2:Int):Option ((Int×vS×iO×wA)⊕(Int×vS)):=
 (IT k a0).bind fun x0=>cond (!x0) (some (.inr (1,a1)))<|cond (decide (a2<1)) (some (.inr (1,a1)))<|cond (decide (a2>1000)) (some (.inr (1,a1)))<|(Nz k a1).bind fun x1=>(rz k a0).bind fun x2=>(kl k x2).bind fun x3=>(qW9 k a1 x3).bind fun x4=>match x4 with
 |.inl x5=>cond (!(decide (x5.2.2.1=0))) (some (.inr (x5.2.2.1,x5.2.2.2.1)))<|(Dm k x5.1).bind fun x6=>cond (!x6.2) ((rz k a0).bind fun x7=>(tB k k a2 x1.2.2.2.2 x5.2.1 (x5.2.1.length:Int) 0 (x5.2.2.2.1.1,x5.2.2.2.1.2.2.1,x5.2.2.2.1.2.2.2.2) x5.2.2.2.1.2.1 x5.2.2.2.1.2.2.2.1 a0 x5.2.2.2.2 x7).bind fun z=>cond z.2.1 ((kl k z.2.2.2.2.2.2.2).bind fun bV=>(oE k z.2.2.2.2.2.2.1 (z.2.2.1.1,z.2.2.2.1,z.2.2.1.2.1,z.2.2.2.2.1,z.2.2.1.2.2) bV).bind fun cw=>cond (!(decide (cw.1=0))) (some (.inr (cw.1,cw.2.2)))<|some (.inl (0,cw.2.2,(vI z.2.2.2.2.2.1 (lO z (z.1,false))),cw.2.1)))<|some (.inl (0,(z.2.2.1.1,z.2.2.2.1,z.2.2.1.2.1,z.2.2.2.2.1,z.2.2.1.2.2),(vI z.2.2.2.2.2.1 (lO z (z.1,false))),z.2.2.2.2.2.2.1)))<|(Db k a0 x6.1).bind fun fM=>cond (!fM) ((rz k a0).bind fun gj=>(tB k k a2 x1.2.2.2.2 x5.2.1 (x5.2.1.length:Int) 0 (x5.2.2.2.1.1,x5.2.2.2.1.2.2.1,x5.2.2.2.1.2.2.2.2) x5.2.2.2.1.2.1 x5.2.2.2.1.2.2.2.1 a0 x5.2.2.2.2 gj).bind fun z1=>cond z1.2.1 ((kl k z1.2.2.2.2.2.2.2).bind fun kB=>(oE k z1.2.2.2.2.2.2.1 (z1.2.2.1.1,z1.2.2.2.1,z1.2.2.1.2.1,z1.2.2.2.2.1,z1.2.2.1.2.2) kB).bind fun bG=>cond (!(decide (bG.1=0))) (some (.inr (bG.1,bG.2.2)))<|some (.inl (0,bG.2.2,(vI z1.2.2.2.2.2.1 (lO z1 (z1.1,false))),bG.2.1)))<|some (.inl (0,(z1.2.2.1.1,z1.2.2.2.1,z1.2.2.1.2.1,z1.2.2.2.2.1,z1.2.2.1.2.2),(vI z1.2.2.2.2.2.1 (lO z1 (z1.1,false))),z1.2.2.2.2.2.2.1)))<|(tB k k a2 x1.2.2.2.2 x5.2.1 (x5.2.1.length:Int) 0 (x5.2.2.2.1.1,x5.2.2.2.1.2.2.1,x5.2.2.2.1.2.2.2.2) x5.2.2.2.1.2.1 x5.2.2.2.1.2.2.2.1 a0 x5.2.2.2.2 x6.1).bind fun z2=>cond z2.2.1 ((kl k z2.2.2.2.2.2.2.2).bind fun iK=>(oE k z2.2.2.2.2.2.2.1 (z2.2.2.1.1,z2.2.2.2.1,z2.2.2.1.2.1,z2.2.2.2.2.1,z2.2.2.1.2.2) iK).bind fun cc=>cond (!(decide (cc.1=0))) (some (.inr (cc.1,cc.2.2)))<|some (.inl (0,cc.2.2,(vI z2.2.2.2.2.2.1 (lO z2 (z2.1,false))),cc.2.1)))<|some (.inl (0,(z2.2.2.1.1,z2.2.2.2.1,z2.2.2.1.2.1,z2.2.2.2.2.1,z2.2.2.1.2.2),(vI z2.2.2.2.2.2.1 (lO z2 (z2.1,false))),z2.2.2.2.2.2.2.1))
 |.inr lz=>cond (!(decide (lz.2.2.1=0))) (some (.inr (lz.2.2.1,lz.2.2.2)))<|(Dm k lz.1).bind fun rS=>cond (!rS.2) ((rz k a0).bind fun ik=>none)<|(Db k a0 rS.1).bind fun lA=>cond (!lA) ((rz k a0).bind fun wv=>none) none
def xU (k:Nat)(aC:iO)(bC:wA)(dr:vS):Option (Bool×iO×wA×vS):=
 some (aC.2.2.2.2.2.2.2.2.2.2.2.2.2.2.2.2.2,aC,bC,dr)
def Oi (k:Nat)(a0 a1:Int):Option (List zW):=
 some [(a0,16,a1,0,0,0,0,0)]
def yA0 (k:Nat)(a0:zD):Option AC:=
 (lN k a0).bind fun x0=>cond (!x0) (some [])<|(uJ k a0.1).bind fun x1=>cond ((decide (0≤x1))&&(decide (x1≤6))) ((xW k (qS [a0.2.1,a0.2.2.1,a0.2.2.2.1,a0.2.2.2.2.1,a0.2.2.2.2.2.1,a0.2.2.2.2.2.2] 0 (x1.toNat-0))).bind fun x2=>cond (zL (1+x2.length) 1) (some ([(IntKind.wrap .u8 (a0.1))]++x2)) none) none
def SB (k:Nat)(a0:zW):Option AC:=
 (yA0 k a0.2).bind fun x0=>cond (decide ((x0.length:Int)=0)) (some [])<|(xW k [a0.1]).bind fun x1=>cond (zL (x1.length+x0.length) 1) (some (x1++x0)) none
def zc (k:Nat)(aC:wA)(bC:vS)(a1:AC):Option (Int×wA×vS):=
 (KT k a1).bind fun x0=>cond (!x0.2) (some (10,aC,bC))<|cond aC.2.2.2 (some (10,aC,bC))<|(vk k bC aC.1 x0.1).bind fun x1=>cond (decide (x1.1=3)) (some (10,aC,x1.2))<|cond (decide (x1.1=0)) ((tp k x1.2).bind fun x2=>cond (decide (x2.1=0)) (some (x2.1,(aC.1,aC.2.1,(zA (aC.2.2.1+1)),aC.2.2.2),x2.2))<|some (x2.1,aC,x2.2))<|cond (decide (x1.1=0)) (some (x1.1,(aC.1,aC.2.1,(zA (aC.2.2.1+1)),aC.2.2.2),x1.2))<|some (x1.1,aC,x1.2)
def SD (k:Nat)(aC:iO)(bC:wA)(dr:vS)(a1:AC):Option (Int×iO×wA×vS):=
 (zc k bC dr a1).bind fun x0=>cond (!(decide (x0.1=10))) (some (x0.1,aC,x0.2.1,x0.2.2))<|(kl k (iJ aC)).bind fun x1=>(oE k x0.2.1 x0.2.2 x1).bind fun x2=>cond (!(decide (x2.1=0))) (some (x2.1,aC,x2.2.1,x2.2.2))<|(zc k x2.2.1 x2.2.2 a1).bind fun x3=>some (x3.1,aC,x3.2.1,x3.2.2)
def qUf (k:Nat)(aC:wA)(bC:vS):Option (Int×wA×vS):=
 some (aC.2.2.1,aC,bC)
def xT (k:Nat)(aC:iO)(bC:wA)(dr:vS)(a1:Int)(a2:AC):Option ((List zW)×iO×wA×vS):=
 (xU k aC bC dr).bind fun x0=>cond x0.1 (some ([],x0.2.1,x0.2.2.1,x0.2.2.2))<|(qo k a2).bind fun x1=>cond (!(decide (x1.2=0))) ((Oi k a1 x1.2).bind fun x2=>some (x2,x0.2.1,x0.2.2.1,x0.2.2.2))<|(H8 k (yC x0.2.1) (iJ x0.2.1) (a1,x1.1)).bind fun x3=>cond (!(decide (x3.2.2=0))) ((Oi k a1 x3.2.2).bind fun x4=>some (x4,x0.2.1,x0.2.2.1,x0.2.2.2))<|cond (decide (x1.1.1=9)) (some (x3.2.1,x0.2.1,x0.2.2.1,x0.2.2.2))<|(SB k (a1,x1.1)).bind fun x5=>(SD k x0.2.1 x0.2.2.1 x0.2.2.2 x5).bind fun x6=>cond (decide (x6.1=0)) ((qUf k x6.2.2.1 x6.2.2.2).bind fun x7=>cond (decide (x7.1≥x6.2.1.2.2.2.2.2.2.2.2.2.2.2.2.2.2.2.2.1)) ((kl k x3.1).bind fun x8=>(oE k x7.2.1 x7.2.2 x8).bind fun x9=>cond (decide (x9.1=11)) (some (x3.2.1,(fL x6.2.1 (vD x3.1 (x6.2.1.2.2.2.2.2.2.2.2.2.2.2.2.2.2.2.2.1,true))),x9.2.1,x9.2.2))<|some (x3.2.1,(fL x6.2.1 (vD x3.1 x6.2.1.2.2.2.2.2.2.2.2.2.2.2.2.2.2.2.2)),x9.2.1,x9.2.2))<|some (x3.2.1,(fL x6.2.1 (vD x3.1 x6.2.1.2.2.2.2.2.2.2.2.2.2.2.2.2.2.2.2)),x7.2.1,x7.2.2))<|cond (decide (x6.1=10)) ((Oi k a1 10).bind fun bV=>some (bV,x6.2.1,x6.2.2.1,x6.2.2.2))<|some ([],(yL x6.2.1 true),x6.2.2.1,x6.2.2.2)
def qT2 (k:Nat)(a0:zW):Option Bool:=
 some (decide (a0.2.1=16))
abbrev qMw:Type:=List zW→Int→Int→Option (Unit⊕Int)
def IV (k:Nat)(rec:qMw):qMw:=fun s0 s7 s8=>
 cond (decide (s8<s7)) (cond (zB s8 s0.length) ((qT2 k (s0.getD s8.toNat ana)).bind fun x0=>cond x0 (some (.inr s8))<|rec s0 s7 (zA (s8+1))) none)<|some (.inl ())
def NL (k:Nat):Nat→qMw:=qY (fun _ _ _=>none) (IV k)
def qWz (k:Nat)(a0:List zW):Option Int:=
 (NL k k a0 (a0.length:Int) 0).bind fun z=>match z with
 |.inl z1=>some (-1)
 |.inr z2=>some z2
def qRe (k:Nat)(a0:List zW):Option Bool:=
 (qWz k a0).bind fun x0=>some (decide (x0≥0))
def NK (k:Nat)(a0:List zW):Option Bool:=
 (qRe k a0).bind fun x0=>some x0
def IU (k:Nat)(a0:vS)(a1:vW):Option vS:=
 some (fL a0 (a1.1,a1.2,true,a0.2.2.2.2.2.2.2.2))
def Dn (k:Nat)(a0:vS):Option vS:=
 cond ((decide (0≤a0.2.2.1))&&(decide (a0.2.2.1≤a0.2.1.length))) (cond ((decide (0≤a0.2.2.2.2.1))&&(decide (a0.2.2.2.2.1≤a0.2.2.2.1.length))) (some (a0.1,(List.take (a0.2.2.1.toNat-0) a0.2.1),a0.2.2.1,(List.take (a0.2.2.2.2.1.toNat-0) a0.2.2.2.1),a0.2.2.2.2.1,a0.2.2.2.2.2.1,a0.2.2.2.2.2.2.1,false,false,0)) none) none
def IX (k:Nat):Option Bool:=
 some true
def qYn (k:Nat)(a1:Int)(a2:AC):Option (List zW):=
 (IX k).bind fun x0=>cond x0 (some [])<|(qo k a2).bind fun x1=>cond (!(decide (x1.2=0))) ((Oi k a1 x1.2).bind fun x2=>some x2) none
def qVa (k:Nat):Option yA:=
 some (0,[],[],[],[],[],[],[],[],0,false)
def qZd (k:Nat)(aC:iO)(bC:wA)(dr:vS):Option (yA×iO×wA×vS):=
 some ((iJ aC),aC,bC,dr)
def vGx (k:Nat)(a1:Int):Option AC:=
 some []
def TN (k:Nat)(a1:Int):Option (Int×AC×EQ):=
 (vGx k a1).bind fun x0=>(Sy k x0).bind fun x1=>cond (decide ((x1.1.length:Int)=0)) (some (0,[],[]))<|cond (zB 0 x1.1.length) (cond (decide (((x1.1.getD 0 []).length:Int)<8)) (some (0,[],[]))<|cond (zB 0 x1.1.length) (cond (decide (8≤((x1.1.getD 0 []).length : Int))) ((qn k (List.take 8 (x1.1.getD 0 []))).bind fun x2=>cond (zB 0 x2.1.length) (cond (decide ((x2.1.getD 0 0)<1)) (some (0,[],[]))<|cond (zB 0 x2.1.length) (cond (decide ((x2.1.getD 0 0)>4611686018427387904)) (some (0,[],[]))<|cond (zB 0 x2.1.length) (cond (zB 0 x1.1.length) (cond (decide (8≤((x1.1.getD 0 []).length : Int))) (cond (decide (1≤(x1.1.length:Int))) (some ((x2.1.getD 0 0),(List.drop 8 (x1.1.getD 0 [])),(qS x1.1 1 (x1.1.length-1)))) none) none) none) none) none) none) none) none) none
def qOi (k:Nat):Option (Int×Int×AC×EQ×Bool):=
 (TN k 0).bind fun x0=>cond (decide (x0.1>0)) ((TN k 1).bind fun x1=>cond (decide (x1.1>x0.1)) (some (x1.1,1,x1.2.1,x1.2.2,true))<|some (x0.1,0,x0.2.1,x0.2.2,true))<|(TN k 1).bind fun x2=>cond (decide (x2.1>0)) (some (x2.1,1,x2.2.1,x2.2.2,true))<|some (0,0,[],[],false)
def yIw (k:Nat)(a1:AC):Option (AC×EQ×Int):=
 some ([],[],11)
def TO (k:Nat)(a1:AC):Option Int:=
 some 11
abbrev yF9:Type:=Int×Bool×qW×yA
abbrev yB4:Type:=Int→Bool→Int→Int→qW→yA→EQ→Option yF9
def yIy (k:Nat)(rec:yB4):yB4:=fun s2 bM DE rW b0 b1 r2=>
 cond (decide (rW<DE)) (cond (zB rW r2.length) ((ND k (r2.getD rW.toNat [])).bind fun x7=>cond (decide (x7.2=0)) ((H8 k b0 b1 x7.1).bind fun x8=>rec s2 bM DE (zA (rW+1)) b0 x8.1 r2)<|rec s2 bM DE (zA (rW+1)) b0 b1 r2) none)<|some (s2,bM,b0,b1)
def Oj (k:Nat):Nat→yB4:=qY (fun _ _ _ _ _ _ _=>none) (yIy k)
def NO (k:Nat)(a0:qW)(a2:Int):Option Int:=
 (IT k a0).bind fun x0=>cond (!x0) (some 1)<|cond (decide (a2<1)) (some 1)<|cond (decide (a2>1000)) (some 1)<|(qOi k).bind fun x1=>(rz k a0).bind fun x2=>(kl k x2).bind fun x3=>(yIw k x3).bind fun x4=>cond (!(decide (x4.2.2=0))) (some x4.2.2)<|(Dm k x4.1).bind fun x5=>cond (!x5.2) ((rz k a0).bind fun x6=>(Oj k k a2 x1.2.2.2.2 (x4.2.1.length:Int) 0 a0 x6 x4.2.1).bind fun z=>cond z.2.1 ((kl k z.2.2.2).bind fun x9=>(TO k x9).bind fun bV=>cond (!(decide (bV=0))) (some bV) none) none)<|(Db k a0 x5.1).bind fun cw=>cond (!cw) ((rz k a0).bind fun fM=>(Oj k k a2 x1.2.2.2.2 (x4.2.1.length:Int) 0 a0 fM x4.2.1).bind fun z1=>cond z1.2.1 ((kl k z1.2.2.2).bind fun gj=>(TO k gj).bind fun kB=>cond (!(decide (kB=0))) (some kB) none) none)<|(Oj k k a2 x1.2.2.2.2 (x4.2.1.length:Int) 0 a0 x5.1 x4.2.1).bind fun z2=>cond z2.2.1 ((kl k z2.2.2.2).bind fun bG=>(TO k bG).bind fun iK=>cond (!(decide (iK=0))) (some iK) none) none
abbrev TP:Type:=(fO×fO×(List (List zW))×(List zW))⊕(fO×iO×wA×A2×AC×AC×fO×(List (List zW))×(List zW))
abbrev qYq:Type:=(Int×(List mQ)×Int×Int×qW×fO×A2×AC×AC×iO×wA×fO×(List (List zW))×(List zW))⊕(Int×(List mQ)×Int×Int×qW×fO×A2×AC×AC×fO×(List (List zW))×(List zW))→Option TP
def mJ (k:Nat)(rec:qYq):qYq:=fun z=>match z with
 | .inl z=>cond (decide (z.2.2.2.1<z.2.2.1)) (cond (zB z.2.2.2.1 z.2.1.length) (cond (decide ((z.2.1.getD z.2.2.2.1.toNat aka).1=1)) ((xT k z.2.2.2.2.2.2.2.2.2.1 z.2.2.2.2.2.2.2.2.2.2.1 (z.2.2.2.2.2.2.1.1,z.2.2.2.2.2.2.2.1,z.2.2.2.2.2.2.1.2.1,z.2.2.2.2.2.2.2.2.1,z.2.2.2.2.2.2.1.2.2) (z.2.1.getD z.2.2.2.1.toNat aka).2.1 (z.2.1.getD z.2.2.2.1.toNat aka).2.2.1).bind fun x4=>(qo k (z.2.1.getD z.2.2.2.1.toNat aka).2.2.1).bind fun x5=>cond (decide (x5.2=0)) ((NK k x4.1).bind fun x6=>cond (!x6) (cond (decide ((x4.1.length : Int)>0)) (cond (zL (z.2.2.2.2.2.2.2.2.2.2.2.2.2.length+1) 64) (let y0:List zW:=(z.2.2.2.2.2.2.2.2.2.2.2.2.2++[((z.2.1.getD z.2.2.2.1.toNat aka).2.1,x5.1)])
         cond (zL (z.2.2.2.2.2.2.2.2.2.2.2.2.1.length+1) 24) (let y1:List (List zW):=(z.2.2.2.2.2.2.2.2.2.2.2.2.1++[x4.1])
          rec (.inl (z.1,z.2.1,z.2.2.1,(zA (z.2.2.2.1+1)),z.2.2.2.2.1,z.2.2.2.2.2.1,(x4.2.2.2.1,x4.2.2.2.2.2.1,x4.2.2.2.2.2.2.2),x4.2.2.2.2.1,x4.2.2.2.2.2.2.1,x4.2.1,x4.2.2.1,z.2.2.2.2.2.2.2.2.2.2.2.1,y1,y0))) none) none)<|(xU k x4.2.1 x4.2.2.1 x4.2.2.2).bind fun x7=>cond (!x7.1) (cond (zL (z.2.2.2.2.2.2.2.2.2.2.2.2.2.length+1) 64) (let y2:List zW:=(z.2.2.2.2.2.2.2.2.2.2.2.2.2++[((z.2.1.getD z.2.2.2.1.toNat aka).2.1,x5.1)])
         cond (zL (z.2.2.2.2.2.2.2.2.2.2.2.2.1.length+1) 24) (let y3:List (List zW):=(z.2.2.2.2.2.2.2.2.2.2.2.2.1++[x4.1])
          rec (.inl (z.1,z.2.1,z.2.2.1,(zA (z.2.2.2.1+1)),z.2.2.2.2.1,z.2.2.2.2.2.1,(x7.2.2.2.1,x7.2.2.2.2.2.1,x7.2.2.2.2.2.2.2),x7.2.2.2.2.1,x7.2.2.2.2.2.2.1,x7.2.1,x7.2.2.1,z.2.2.2.2.2.2.2.2.2.2.2.1,y3,y2))) none) none)<|cond (zL (z.2.2.2.2.2.2.2.2.2.2.2.2.1.length+1) 24) (let y4:List (List zW):=(z.2.2.2.2.2.2.2.2.2.2.2.2.1++[x4.1])
        rec (.inl (z.1,z.2.1,z.2.2.1,(zA (z.2.2.2.1+1)),z.2.2.2.2.1,z.2.2.2.2.2.1,(x7.2.2.2.1,x7.2.2.2.2.2.1,x7.2.2.2.2.2.2.2),x7.2.2.2.2.1,x7.2.2.2.2.2.2.1,x7.2.1,x7.2.2.1,z.2.2.2.2.2.2.2.2.2.2.2.1,y4,z.2.2.2.2.2.2.2.2.2.2.2.2.2))) none)<|cond (zL (z.2.2.2.2.2.2.2.2.2.2.2.2.1.length+1) 24) (let y5:List (List zW):=(z.2.2.2.2.2.2.2.2.2.2.2.2.1++[x4.1])
       rec (.inl (z.1,z.2.1,z.2.2.1,(zA (z.2.2.2.1+1)),z.2.2.2.2.1,z.2.2.2.2.2.1,(x4.2.2.2.1,x4.2.2.2.2.2.1,x4.2.2.2.2.2.2.2),x4.2.2.2.2.1,x4.2.2.2.2.2.2.1,x4.2.1,x4.2.2.1,z.2.2.2.2.2.2.2.2.2.2.2.1,y5,z.2.2.2.2.2.2.2.2.2.2.2.2.2))) none)<|cond (zL (z.2.2.2.2.2.2.2.2.2.2.2.2.1.length+1) 24) (let y6:List (List zW):=(z.2.2.2.2.2.2.2.2.2.2.2.2.1++[x4.1])
      rec (.inl (z.1,z.2.1,z.2.2.1,(zA (z.2.2.2.1+1)),z.2.2.2.2.1,z.2.2.2.2.2.1,(x4.2.2.2.1,x4.2.2.2.2.2.1,x4.2.2.2.2.2.2.2),x4.2.2.2.2.1,x4.2.2.2.2.2.2.1,x4.2.1,x4.2.2.1,z.2.2.2.2.2.2.2.2.2.2.2.1,y6,z.2.2.2.2.2.2.2.2.2.2.2.2.2))) none)<|cond (decide ((z.2.1.getD z.2.2.2.1.toNat aka).1=2)) ((IU k (z.2.2.2.2.2.2.1.1,z.2.2.2.2.2.2.2.1,z.2.2.2.2.2.2.1.2.1,z.2.2.2.2.2.2.2.2.1,z.2.2.2.2.2.2.1.2.2) (z.2.1.getD z.2.2.2.1.toNat aka).2.2.2).bind fun x8=>cond (zL (z.2.2.2.2.2.2.2.2.2.2.2.2.1.length+1) 24) (let y7:List (List zW):=(z.2.2.2.2.2.2.2.2.2.2.2.2.1++[[]])
      rec (.inl (z.1,z.2.1,z.2.2.1,(zA (z.2.2.2.1+1)),z.2.2.2.2.1,z.2.2.2.2.2.1,(x8.1,x8.2.2.1,x8.2.2.2.2),x8.2.1,x8.2.2.2.1,z.2.2.2.2.2.2.2.2.2.1,z.2.2.2.2.2.2.2.2.2.2.1,z.2.2.2.2.2.2.2.2.2.2.2.1,y7,z.2.2.2.2.2.2.2.2.2.2.2.2.2))) none)<|cond (decide ((z.2.1.getD z.2.2.2.1.toNat aka).1=3)) ((Dn k (z.2.2.2.2.2.2.1.1,z.2.2.2.2.2.2.2.1,z.2.2.2.2.2.2.1.2.1,z.2.2.2.2.2.2.2.2.1,z.2.2.2.2.2.2.1.2.2)).bind fun x9=>(wi k z.2.2.2.2.1 x9 z.1).bind fun bV=>match bV with
     | .inl cw=>cond (zL (z.2.2.2.2.2.2.2.2.2.2.2.2.1.length+1) 24) (let y8:List (List zW):=(z.2.2.2.2.2.2.2.2.2.2.2.2.1++[[]])
       rec (.inl (z.1,z.2.1,z.2.2.1,(zA (z.2.2.2.1+1)),z.2.2.2.2.1,z.2.2.2.2.2.1,(cw.2.1.1,cw.2.1.2.2.1,cw.2.1.2.2.2.2),cw.2.1.2.1,cw.2.1.2.2.2.1,cw.2.2.1,cw.2.2.2,z.2.2.2.2.2.2.2.2.2.2.2.1,y8,z.2.2.2.2.2.2.2.2.2.2.2.2.2)))<|none
     | .inr fM=>cond (zL (z.2.2.2.2.2.2.2.2.2.2.2.2.1.length+1) 24) (let y9:List (List zW):=(z.2.2.2.2.2.2.2.2.2.2.2.2.1++[[]])
       rec (.inr (z.1,z.2.1,z.2.2.1,(zA (z.2.2.2.1+1)),z.2.2.2.2.1,z.2.2.2.2.2.1,(fM.2.1,fM.2.2.2.1,fM.2.2.2.2.2),fM.2.2.1,fM.2.2.2.2.1,z.2.2.2.2.2.2.2.2.2.2.2.1,y9,z.2.2.2.2.2.2.2.2.2.2.2.2.2))) none)<|cond (zL (z.2.2.2.2.2.2.2.2.2.2.2.2.1.length+1) 24) (let y10:List (List zW):=(z.2.2.2.2.2.2.2.2.2.2.2.2.1++[[]])
     rec (.inl (z.1,z.2.1,z.2.2.1,(zA (z.2.2.2.1+1)),(vYw z (y10,z.2.2.2.2.2.2.2.2.2.2.2.2.2))))) none) none)<|some (.inr (z.2.2.2.2.2.1,z.2.2.2.2.2.2.2.2.2.1,z.2.2.2.2.2.2.2.2.2.2.1,z.2.2.2.2.2.2.1,z.2.2.2.2.2.2.2.1,z.2.2.2.2.2.2.2.2.1,z.2.2.2.2.2.2.2.2.2.2.2.1,z.2.2.2.2.2.2.2.2.2.2.2.2.1,z.2.2.2.2.2.2.2.2.2.2.2.2.2))
 | .inr z1=>cond (decide (z1.2.2.2.1<z1.2.2.1)) (cond (zB z1.2.2.2.1 z1.2.1.length) (cond (decide ((z1.2.1.getD z1.2.2.2.1.toNat aka).1=1)) ((qYn k (z1.2.1.getD z1.2.2.2.1.toNat aka).2.1 (z1.2.1.getD z1.2.2.2.1.toNat aka).2.2.1).bind fun gj=>(qo k (z1.2.1.getD z1.2.2.2.1.toNat aka).2.2.1).bind fun kB=>cond (decide (kB.2=0)) ((NK k gj).bind fun bG=>cond (!bG) (cond (decide ((gj.length : Int)>0)) (cond (zL (z1.2.2.2.2.2.2.2.2.2.2.2.length+1) 64) (let y11:List zW:=(z1.2.2.2.2.2.2.2.2.2.2.2++[((z1.2.1.getD z1.2.2.2.1.toNat aka).2.1,kB.1)])
         cond (zL (z1.2.2.2.2.2.2.2.2.2.2.1.length+1) 24) (let y12:List (List zW):=(z1.2.2.2.2.2.2.2.2.2.2.1++[gj])
          rec (.inr (z1.1,z1.2.1,z1.2.2.1,(zA (z1.2.2.2.1+1)),(Jp z1 (y12,y11))))) none) none)<|(IX k).bind fun iK=>cond (!iK) (cond (zL (z1.2.2.2.2.2.2.2.2.2.2.2.length+1) 64) (let y13:List zW:=(z1.2.2.2.2.2.2.2.2.2.2.2++[((z1.2.1.getD z1.2.2.2.1.toNat aka).2.1,kB.1)])
         cond (zL (z1.2.2.2.2.2.2.2.2.2.2.1.length+1) 24) (let y14:List (List zW):=(z1.2.2.2.2.2.2.2.2.2.2.1++[gj])
          rec (.inr (z1.1,z1.2.1,z1.2.2.1,(zA (z1.2.2.2.1+1)),(Jp z1 (y14,y13))))) none) none)<|cond (zL (z1.2.2.2.2.2.2.2.2.2.2.1.length+1) 24) (let y15:List (List zW):=(z1.2.2.2.2.2.2.2.2.2.2.1++[gj])
        rec (.inr (z1.1,z1.2.1,z1.2.2.1,(zA (z1.2.2.2.1+1)),(Jp z1 (y15,z1.2.2.2.2.2.2.2.2.2.2.2))))) none)<|cond (zL (z1.2.2.2.2.2.2.2.2.2.2.1.length+1) 24) (let y16:List (List zW):=(z1.2.2.2.2.2.2.2.2.2.2.1++[gj])
       rec (.inr (z1.1,z1.2.1,z1.2.2.1,(zA (z1.2.2.2.1+1)),(Jp z1 (y16,z1.2.2.2.2.2.2.2.2.2.2.2))))) none)<|cond (zL (z1.2.2.2.2.2.2.2.2.2.2.1.length+1) 24) (let y17:List (List zW):=(z1.2.2.2.2.2.2.2.2.2.2.1++[gj])
      rec (.inr (z1.1,z1.2.1,z1.2.2.1,(zA (z1.2.2.2.1+1)),(Jp z1 (y17,z1.2.2.2.2.2.2.2.2.2.2.2))))) none)<|cond (decide ((z1.2.1.getD z1.2.2.2.1.toNat aka).1=2)) ((IU k (z1.2.2.2.2.2.2.1.1,z1.2.2.2.2.2.2.2.1,z1.2.2.2.2.2.2.1.2.1,z1.2.2.2.2.2.2.2.2.1,z1.2.2.2.2.2.2.1.2.2) (z1.2.1.getD z1.2.2.2.1.toNat aka).2.2.2).bind fun cc=>cond (zL (z1.2.2.2.2.2.2.2.2.2.2.1.length+1) 24) (let y18:List (List zW):=(z1.2.2.2.2.2.2.2.2.2.2.1++[[]])
      rec (.inr (z1.1,z1.2.1,z1.2.2.1,(zA (z1.2.2.2.1+1)),z1.2.2.2.2.1,z1.2.2.2.2.2.1,(cc.1,cc.2.2.1,cc.2.2.2.2),cc.2.1,cc.2.2.2.1,z1.2.2.2.2.2.2.2.2.2.1,y18,z1.2.2.2.2.2.2.2.2.2.2.2))) none)<|cond (decide ((z1.2.1.getD z1.2.2.2.1.toNat aka).1=3)) ((Dn k (z1.2.2.2.2.2.2.1.1,z1.2.2.2.2.2.2.2.1,z1.2.2.2.2.2.2.1.2.1,z1.2.2.2.2.2.2.2.2.1,z1.2.2.2.2.2.2.1.2.2)).bind fun lz=>(wi k z1.2.2.2.2.1 lz z1.1).bind fun rS=>match rS with
     | .inl ik=>cond (zL (z1.2.2.2.2.2.2.2.2.2.2.1.length+1) 24) (let y19:List (List zW):=(z1.2.2.2.2.2.2.2.2.2.2.1++[[]])
       rec (.inl (z1.1,z1.2.1,z1.2.2.1,(zA (z1.2.2.2.1+1)),z1.2.2.2.2.1,z1.2.2.2.2.2.1,(ik.2.1.1,ik.2.1.2.2.1,ik.2.1.2.2.2.2),ik.2.1.2.1,ik.2.1.2.2.2.1,ik.2.2.1,ik.2.2.2,z1.2.2.2.2.2.2.2.2.2.1,y19,z1.2.2.2.2.2.2.2.2.2.2.2)))<|none
     | .inr lA=>cond (zL (z1.2.2.2.2.2.2.2.2.2.2.1.length+1) 24) (let y20:List (List zW):=(z1.2.2.2.2.2.2.2.2.2.2.1++[[]])
       rec (.inr (z1.1,z1.2.1,z1.2.2.1,(zA (z1.2.2.2.1+1)),z1.2.2.2.2.1,z1.2.2.2.2.2.1,(lA.2.1,lA.2.2.2.1,lA.2.2.2.2.2),lA.2.2.1,lA.2.2.2.2.1,z1.2.2.2.2.2.2.2.2.2.1,y20,z1.2.2.2.2.2.2.2.2.2.2.2))) none)<|cond (zL (z1.2.2.2.2.2.2.2.2.2.2.1.length+1) 24) (let y21:List (List zW):=(z1.2.2.2.2.2.2.2.2.2.2.1++[[]])
     rec (.inr (z1.1,z1.2.1,z1.2.2.1,(zA (z1.2.2.2.1+1)),(Jp z1 (y21,z1.2.2.2.2.2.2.2.2.2.2.2))))) none) none)<|some (.inl (z1.2.2.2.2.2.1,z1.2.2.2.2.2.2.2.2.2.1,z1.2.2.2.2.2.2.2.2.2.2.1,z1.2.2.2.2.2.2.2.2.2.2.2))
def rF (k:Nat):Nat→qYq:=qY (fun _=>none) (mJ k)
def IY (k:Nat)(a0:qW)(a1 a2:Int)(a3:List mQ):Option ((List (List zW))×(List zW)×Int×(List zK)×EQ×AC×EQ×AC×EQ×(List zD)×AC×Int×Bool×Bool):=
 (qZb k a1).bind fun x0=>match x0 with
 |.inl x1=>(wi k a0 x1 a2).bind fun x2=>match x2 with
  |.inl x3=>cond (!(decide (x3.1=0))) (some ([],[],0,[],[],[],[],[],[],[],[],0,false,false))<|(rF k k (.inl (a2,a3,(a3.length:Int),0,a0,(0,0,false,false),(x3.2.1.1,x3.2.1.2.2.1,x3.2.1.2.2.2.2),x3.2.1.2.1,x3.2.1.2.2.2.1,x3.2.2.1,x3.2.2.2,(0,0,false,false),[],[]))).bind fun z2=>match z2 with
   |.inl z3=>(qVa k).bind fun wv=>(IX k).bind fun Jo=>some (z3.2.2.1,z3.2.2.2,(vD wv (!Jo)))
   |.inr z4=>(qZd k z4.2.1 z4.2.2.1 (z4.2.2.2.1.1,z4.2.2.2.2.1,z4.2.2.2.1.2.1,z4.2.2.2.2.2.1,z4.2.2.2.1.2.2)).bind fun Ox=>(xU k Ox.2.1 Ox.2.2.1 Ox.2.2.2).bind fun x25=>some (z4.2.2.2.2.2.2.2.1,z4.2.2.2.2.2.2.2.2,(vD Ox.1 (!x25.1)))
  |.inr Jq=>cond (!(decide (Jq.1=0))) (some ([],[],0,[],[],[],[],[],[],[],[],0,false,false))<|(rF k k (.inr (a2,a3,(a3.length:Int),0,a0,(0,0,false,false),(Jq.2.1,Jq.2.2.2.1,Jq.2.2.2.2.2),Jq.2.2.1,Jq.2.2.2.2.1,(0,0,false,false),[],[]))).bind fun z5=>match z5 with
   |.inl z6=>(qVa k).bind fun x27=>(IX k).bind fun x28=>some (z6.2.2.1,z6.2.2.2,(vD x27 (!x28)))
   |.inr z7=>(qZd k z7.2.1 z7.2.2.1 (z7.2.2.2.1.1,z7.2.2.2.2.1,z7.2.2.2.1.2.1,z7.2.2.2.2.2.1,z7.2.2.2.1.2.2)).bind fun Uo=>(xU k Uo.2.1 Uo.2.2.1 Uo.2.2.2).bind fun x30=>some (z7.2.2.2.2.2.2.2.1,z7.2.2.2.2.2.2.2.2,(vD Uo.1 (!x30.1)))
 |.inr x31=>(NO k a0 a2).bind fun x32=>cond (!(decide (x32=0))) (some ([],[],0,[],[],[],[],[],[],[],[],0,false,false)) none
def qVy (k:Nat)(a0:Int):Option (wZ⊕Unit):=
 cond (decide (a0<0)) (some (.inr ()))<|cond (decide (a0>200000)) (some (.inr ()))<|some (.inl ([],[],0,0,a0,0,0,0,false,false))
def Jk (k:Nat)(a0 a1 a2:Int):Option Bool:=
 cond (decide (a0≥a1)) (some (decide (a0≤a2)))<|some false
abbrev qSj:Type:=qW⊕Bool
abbrev yA1:Type:=Int→qW→Option qSj
def ySe (k:Nat)(rec:yA1):yA1:=fun s3 b0=>
 cond (decide (s3<b0.2.1.length)) (cond (zB s3 b0.2.1.length) ((Jk k (b0.2.1.getD s3.toNat (0,0)).1 0 1048576).bind fun x0=>cond (!x0) (some (.inr false))<|cond (zB s3 b0.2.1.length) ((Jk k (b0.2.1.getD s3.toNat (0,0)).2 0 10000).bind fun x1=>cond (!x1) (some (.inr false))<|rec (zA (s3+1)) b0) none) none)<|some (.inl b0)
def qRq (k:Nat):Nat→yA1:=qY (fun _ _=>none) (ySe k)
def NI (k:Nat)(a0:qW):Option Bool:=
 cond (decide (a0.1<1)) (some false)<|cond (decide (a0.1>6)) (some false)<|cond (decide ((a0.2.1.length:Int)>3)) (some false)<|(qRq k k 0 a0).bind fun z=>match z with
 |.inl z1=>(Jk k z1.2.2.2.1 1 1048576).bind fun x2=>cond x2 ((Jk k z1.2.2.1 0 z1.2.2.2.1).bind fun x3=>cond x3 ((Jk k z1.2.2.2.2 1 1048576).bind fun x4=>some x4)<|some false)<|some false
 |.inr z2=>some z2
def qU2 (k:Nat)(a0:wZ)(a1:Int):Option AC:=
 cond (decide (a1<0)) (some [])<|cond (decide (a1>1)) (some [])<|cond (decide (a1=0)) (cond (zL (0+a0.1.length) 1) (some a0.1) none)<|cond (decide (a1=1)) (cond (zL (0+a0.2.1.length) 1) (some a0.2.1) none) none
def Sw (k:Nat)(rec:qM0):qM0:=fun s0 r0=>
 cond (decide ((s0.length : Int)≥2)) (cond (zB 0 s0.length) (cond (zB 1 s0.length) (cond (decide ((zA ((zA ((zA ((s0.getD 0 0)))*256))+(zA ((s0.getD 1 0)))))>60000)) (some (s0,r0))<|cond (decide ((zA ((zA ((zA ((s0.getD 0 0)))*256))+(zA ((s0.getD 1 0)))))>(zA ((s0.length:Int)-2)))) (some (s0,r0))<|cond ((decide (2≤(zA (2+(zA ((zA ((zA ((s0.getD 0 0))) * 256))+(zA ((s0.getD 1 0)))))))))&&(decide ((zA (2+(zA ((zA ((zA ((s0.getD 0 0))) * 256))+(zA ((s0.getD 1 0)))))))≤(s0.length : Int)))) (cond (zL (0+(qS s0 2 ((zA (2+(zA ((zA ((zA ((s0.getD 0 0))) * 256))+(zA ((s0.getD 1 0))))))).toNat - 2)).length) 1) (let y0:AC:=(qS s0 2 ((zA (2+(zA ((zA ((zA ((s0.getD 0 0)))*256))+(zA ((s0.getD 1 0))))))).toNat-2))
      cond (zL (r0.length+1) 24) (cond ((decide (0≤(zA (2+(zA ((zA ((zA ((s0.getD 0 0)))*256))+(zA ((s0.getD 1 0)))))))))&&(decide ((zA (2+(zA ((zA ((zA ((s0.getD 0 0)))*256))+(zA ((s0.getD 1 0)))))))≤(s0.length:Int)))) (rec (List.drop (zA (2+(zA ((zA ((zA ((s0.getD 0 0)))*256))+(zA ((s0.getD 1 0))))))).toNat s0) (r0++[y0])) none) none) none) none) none) none)<|some (s0,r0)
def Nx (k:Nat):Nat→qM0:=qY (fun _ _=>none) (Sw k)
def yGw (k:Nat)(a0:AC):Option (EQ×Int):=
 (Nx k k a0 []).bind fun z=>some (z.2,(z.1.length:Int))
def P7 (k:Nat)(rec:AC→Int→Int→Option Int)(s0:AC)(s3 s4:Int):Option Int:=
 cond (decide (s4<8)) (cond (zB s4 s0.length) (rec s0 (wV .u64 (shl .u64 s3 8) (IntKind.wrap .u64 ((s0.getD s4.toNat 0)))) (zA (s4+1))) none)<|some s3
def KQ (k:Nat):Nat→AC→Int→Int→Option Int:=qY (fun _ _ _=>none) (P7 k)
def KP (k:Nat)(a0:AC):Option Int:=
 (KQ k k a0 0 0).bind fun z=>some (zA (z))
abbrev yAk:Type:=AC→Int→AC→Option AC
def E0 (k:Nat)(rec:yAk):yAk:=fun s0 s5 r0=>
 cond (decide (s5<s0.length)) (cond (((decide (0≤s5))&&(decide (s5≤(zA (s5+8)))))&&(decide ((zA (s5+8))≤s0.length))) ((KP k (qS s0 s5.toNat ((zA (s5+8)).toNat-s5.toNat))).bind fun x0=>cond (zL (r0.length+1) 8) (rec s0 (zA (s5+8)) (r0++[x0])) none) none)<|some r0
def B3 (k:Nat):Nat→yAk:=qY (fun _ _ _=>none) (E0 k)
def xR (k:Nat)(a0:AC):Option (AC×Int):=
 cond (!(decide ((Int.tmod (a0.length:Int) 8)=0))) (some ([],2))<|(B3 k k a0 0 []).bind fun z=>some (z,0)
def Ny (k:Nat)(a0:wZ)(a1:Int):Option (Int×AC×EQ×Bool):=
 (qU2 k a0 a1).bind fun x0=>(yGw k x0).bind fun x1=>cond (decide ((x1.1.length:Int)=0)) (some (0,[],[],false))<|cond (zB 0 x1.1.length) (cond (decide (((x1.1.getD 0 []).length:Int)<8)) (some (0,[],[],false))<|cond (zB 0 x1.1.length) (cond (decide (8≤((x1.1.getD 0 []).length : Int))) ((xR k (List.take 8 (x1.1.getD 0 []))).bind fun x2=>cond (zB 0 x2.1.length) (cond (decide ((x2.1.getD 0 0)<1)) (some (0,[],[],false))<|cond (zB 0 x2.1.length) (cond (decide ((x2.1.getD 0 0)>4611686018427387904)) (some (0,[],[],false))<|cond (zB 0 x2.1.length) (cond (zB 0 x1.1.length) (cond (decide (8≤((x1.1.getD 0 []).length : Int))) (cond (decide (1≤(x1.1.length:Int))) (some ((x2.1.getD 0 0),(List.drop 8 (x1.1.getD 0 [])),(qS x1.1 1 (x1.1.length-1)),true)) none) none) none) none) none) none) none) none) none
def NA (k:Nat)(a0:wZ):Option (Int×Int×AC×EQ×Bool):=
 (Ny k a0 0).bind fun x0=>(Ny k a0 1).bind fun x1=>cond x1.2.2.2 (cond (!x0.2.2.2) (some (x1.1,1,x1.2.1,x1.2.2.1,true))<|cond (decide (x1.1>x0.1)) (some (x1.1,1,x1.2.1,x1.2.2.1,true))<|some (x0.1,0,x0.2.1,x0.2.2.1,x0.2.2.2))<|some (x0.1,0,x0.2.1,x0.2.2.1,x0.2.2.2)
def yS3 (k:Nat)(rec:qNi):qNi:=fun s0 s1 s6 r0=>
 cond (decide (s6<s0)) (cond (zB s6 r0.length) (rec s0 s1 (zA (s6+1)) (r0.set s6.toNat s1)) none)<|some r0
def TR (k:Nat):Nat→qNi
 |0,_,_,_,_=>none
 |n+1,s0,s1,s6,r0=>yS3 k (TR k n) s0 s1 s6 r0
def qS0 (k:Nat)(a0 a1:Int):Option AC:=
 cond (decide (a0<0)) (some [])<|cond (decide (a0>6)) (some [])<|cond (pg a0 a0 8) ((TR k k a0 a1 0 (List.replicate a0.toNat (0:Int))).bind fun z=>some z) none
abbrev qQ5:Type:=Int→Int→Int→EQ→Option EQ
def yYa (k:Nat)(rec:qQ5):qQ5:=fun s0 s1 s6 m0=>
 cond (decide (s6<s0)) ((qS0 k s0 s1).bind fun x0=>cond (zL (m0.length+1) 24) (rec s0 s1 (zA (s6+1)) (m0++[x0])) none)<|some m0
def TS (k:Nat):Nat→qQ5
 |0,_,_,_,_=>none
 |n+1,s0,s1,s6,m0=>yYa k (TS k n) s0 s1 s6 m0
def qTb (k:Nat)(a0 a1:Int):Option EQ:=
 cond (decide (a0<0)) (some [])<|cond (decide (a0>6)) (some [])<|(TS k k a0 a1 0 []).bind fun z=>some z
abbrev qXh:Type:=Int→Int→qW→yS→yS→List zK→EQ→AC→EQ→AC→Option qSz
def yRr (k:Nat)(rec:qXh):qXh:=fun s3 s5 b0 b1 b2 r3 m4 r5 m6 r7=>
 cond (decide (s5<b0.2.1.length)) (cond (zB s5 b0.2.1.length) (cond (zL (r7.length+1) 8) (rec s3 (zA (s5+1)) b0 b1 b2 r3 m4 r5 m6 (r7++[(b0.2.1.getD s5.toNat (0,0)).1])) none) none)<|some (s3,b0,b1,b2,r3,m4,r5,m6,r7)
def qPm (k:Nat):Nat→qXh:=qY (fun _ _ _ _ _ _ _ _ _ _=>none) (yRr k)
def yMd (k:Nat)(rec:qTk):qTk:=fun s3 s6 b0 b1 b2 r3 m4 r5 m6 r7 m8=>
 cond (decide (s6<s3)) (cond (pg (b0.2.1.length : Int) (b0.2.1.length : Int) 8) (cond (zL (m8.length+1) 24) (rec s3 (zA (s6+1)) b0 b1 b2 r3 m4 r5 m6 r7 (m8++[(List.replicate b0.2.1.length (0:Int))])) none) none)<|some (b1,b2,r3,m4,r5,m6,r7,m8)
def qN5 (k:Nat):Nat→qTk:=qY (fun _ _ _ _ _ _ _ _ _ _ _=>none) (yMd k)
def wh (k:Nat)(a0:qW):Option yA:=
 cond (pg a0.1 a0.1 24) ((qTb k a0.1 (-1)).bind fun x0=>(qS0 k a0.1 (-1)).bind fun x1=>(qTb k a0.1 0).bind fun x2=>(qPm k k a0.1 0 a0 (0,0,false) (0,0,false) (List.replicate a0.1.toNat ((0,0,0):Int×Int×Int)) x0 x1 x2 []).bind fun z=>(qN5 k k z.1 0 z.2.1 z.2.2.1 z.2.2.2.1 z.2.2.2.2.1 z.2.2.2.2.2.1 z.2.2.2.2.2.2.1 z.2.2.2.2.2.2.2.1 z.2.2.2.2.2.2.2.2 []).bind fun z1=>some (z1.2.1.1,(vG0 z1 ([],[],z1.2.1.2)))) none
abbrev yFh:Type:=AC→Int→Int→AC→Option yBh
def RB (k:Nat)(rec:yFh):yFh:=fun s0 s4 s5 r0=>
 cond (decide (s5≥0)) (cond (zB s4 s0.length) (cond (!(decide ((IntKind.wrap .u64 (s5))<0))) (cond (zL (r0.length+1) 1) (rec s0 s4 (zA (s5-8)) (r0++[(IntKind.wrap .u8 ((shr .u64 (IntKind.wrap .u64 ((s0.getD s4.toNat 0))) (IntKind.wrap .u64 (s5)))))])) none) none) none)<|some (s0,s4,r0)
def MA (k:Nat):Nat→yFh:=qY (fun _ _ _ _=>none) (RB k)
def Hf (k:Nat)(rec:yAk):yAk:=fun s0 s4 r0=>
 cond (decide (s4<s0.length)) ((MA k k s0 s4 56 r0).bind fun z=>rec z.1 (zA (z.2.1+1)) z.2.2)<|some r0
def CC (k:Nat):Nat→yAk:=qY (fun _ _ _=>none) (Hf k)
def yz (k:Nat)(a0:AC):Option AC:=
 (CC k k a0 0 []).bind fun z1=>some z1
def kt (k:Nat)(a0:AC):Option AC:=
 (yz k [(a0.length:Int)]).bind fun x0=>(yz k a0).bind fun x1=>cond (zL (x0.length+x1.length) 1) (some (x0++x1)) none
abbrev qO2:Type:=EQ→Int→AC→Option AC
def Hh (k:Nat)(rec:qO2):qO2:=fun s0 s4 r0=>
 cond (decide (s4<s0.length)) (cond (zB s4 s0.length) ((kt k (s0.getD s4.toNat [])).bind fun x0=>cond (zL (r0.length+x0.length) 1) (rec s0 (zA (s4+1)) (r0++x0)) none) none)<|some r0
def Hg (k:Nat):Nat→qO2:=qY (fun _ _ _=>none) (Hh k)
def pF (k:Nat)(a0:EQ):Option AC:=
 (Hg k k a0 0 []).bind fun z=>some z
abbrev yGo:Type:=yA×AY×AC
abbrev yEn:Type:=Int→yA→AY→AC→Option yGo
def Hi (k:Nat)(rec:yEn):yEn:=fun s6 b0 b1 r2=>
 cond (decide (s6<b1.1.length)) (cond (zB s6 b1.1.length) (cond (zB s6 b1.1.length) (cond (zB s6 b1.1.length) ((kt k [(b1.1.getD s6.toNat ala).1,(b1.1.getD s6.toNat ala).2.1,(b1.1.getD s6.toNat ala).2.2]).bind fun x1=>cond (zL (r2.length+x1.length) 1) (rec (zA (s6+1)) b0 b1 (r2++x1)) none) none) none) none)<|some (b0,b1,r2)
def vh (k:Nat):Nat→yEn:=qY (fun _ _ _ _=>none) (Hi k)
abbrev qW7:Type:=yA×AC
abbrev yG8:Type:=Int→yA→AC→Option qW7
def Hj (k:Nat)(rec:yG8):yG8:=fun s7 b0 r1=>
 cond (decide (s7<b0.2.2.2.2.2.2.2.1.length)) (cond (zB s7 b0.2.2.2.2.2.2.2.1.length) ((kt k [(b0.2.2.2.2.2.2.2.1.getD s7.toNat ama).1,(b0.2.2.2.2.2.2.2.1.getD s7.toNat ama).2.1,(b0.2.2.2.2.2.2.2.1.getD s7.toNat ama).2.2.1,(b0.2.2.2.2.2.2.2.1.getD s7.toNat ama).2.2.2.1,(b0.2.2.2.2.2.2.2.1.getD s7.toNat ama).2.2.2.2.1,(b0.2.2.2.2.2.2.2.1.getD s7.toNat ama).2.2.2.2.2.1,(b0.2.2.2.2.2.2.2.1.getD s7.toNat ama).2.2.2.2.2.2]).bind fun x7=>cond (zL (r1.length+x7.length) 1) (rec (zA (s7+1)) b0 (r1++x7)) none) none)<|some (b0,r1)
def vi (k:Nat):Nat→yG8:=qY (fun _ _ _=>none) (Hj k)
def oD (k:Nat)(a0:yA):Option AC:=
 cond a0.2.2.2.2.2.2.2.2.2.2 ((kt k [a0.1,a0.2.2.2.2.2.2.2.2.2.1,1,(a0.2.1.length:Int),(a0.2.2.1.length:Int),(a0.2.2.2.1.length:Int),(a0.2.2.2.2.1.length:Int),(a0.2.2.2.2.2.2.1.length:Int),(a0.2.2.2.2.2.2.2.1.length:Int)]).bind fun x0=>(vh k k 0 a0 (AM a0) x0).bind fun z=>(pF k z.2.1.2.1).bind fun x2=>cond (zL (z.2.2.length+x2.length) 1) ((kt k z.2.1.2.2.1).bind fun x3=>cond (zL ((z.2.2++x2).length+x3.length) 1) ((pF k z.2.1.2.2.2).bind fun x4=>cond (zL (((z.2.2++x2)++x3).length+x4.length) 1) ((kt k z.1.2.2.2.2.2.1).bind fun x5=>cond (zL ((((z.2.2++x2)++x3)++x4).length+x5.length) 1) ((pF k z.1.2.2.2.2.2.2.1).bind fun x6=>cond (zL (((((z.2.2++x2)++x3)++x4)++x5).length+x6.length) 1) ((vi k k 0 z.1 (((((z.2.2++x2)++x3)++x4)++x5)++x6)).bind fun z1=>(kt k z1.1.2.2.2.2.2.2.2.2.1).bind fun x8=>cond (zL (z1.2.length+x8.length) 1) (some (z1.2++x8)) none) none) none) none) none) none)<|(kt k [a0.1,a0.2.2.2.2.2.2.2.2.2.1,0,(a0.2.1.length:Int),(a0.2.2.1.length:Int),(a0.2.2.2.1.length:Int),(a0.2.2.2.2.1.length:Int),(a0.2.2.2.2.2.2.1.length:Int),(a0.2.2.2.2.2.2.2.1.length:Int)]).bind fun x9=>(vh k k 0 a0 (AM a0) x9).bind fun z2=>(pF k z2.2.1.2.1).bind fun bV=>cond (zL (z2.2.2.length+bV.length) 1) ((kt k z2.2.1.2.2.1).bind fun cw=>cond (zL ((z2.2.2++bV).length+cw.length) 1) ((pF k z2.2.1.2.2.2).bind fun fM=>cond (zL (((z2.2.2++bV)++cw).length+fM.length) 1) ((kt k z2.1.2.2.2.2.2.1).bind fun gj=>cond (zL ((((z2.2.2++bV)++cw)++fM).length+gj.length) 1) ((pF k z2.1.2.2.2.2.2.2.1).bind fun kB=>cond (zL (((((z2.2.2++bV)++cw)++fM)++gj).length+kB.length) 1) ((vi k k 0 z2.1 (((((z2.2.2++bV)++cw)++fM)++gj)++kB)).bind fun z3=>(kt k z3.1.2.2.2.2.2.2.2.2.1).bind fun bG=>cond (zL (z3.2.length+bG.length) 1) (some (z3.2++bG)) none) none) none) none) none) none
def MD (k:Nat)(a0:AC):Option jB:=
 cond (decide ((a0.length:Int)>60000)) (some ([],false))<|cond (zL (2+a0.length) 1) (let y0:AC:=([(IntKind.wrap .u8 ((zA (Int.tdiv (a0.length:Int) 256)))),(IntKind.wrap .u8 ((Int.tmod (a0.length:Int) 256)))]++a0)
  some (y0,true)) none
def qPb (k:Nat)(a0:wZ):Option Int:=
 some a0.2.2.2.2.1
end Go.Ab.Gi
