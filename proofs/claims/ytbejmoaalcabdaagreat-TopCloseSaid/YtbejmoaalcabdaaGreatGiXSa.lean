/- part 6 -/
import Derived.Test.YtbejmoaalcabdaaGreatGiAbD
set_option linter.unusedVariables false
set_option maxRecDepth 100000
namespace Go.Ab.Gi
abbrev jv:Type:=(List Int)×Bool
abbrev vQ:Go.Ab.Ty:=.pair (.int .i64) (.int .i64)
abbrev vD:Type:=Int×(List Int)×Int×(List Int)×Int×Int×Int×Bool×Bool×Int
abbrev mH:Type:=Int×Int×(List Int)×Int×Int
abbrev mI:Type:=Int×Int×Bool×Bool
abbrev jU:Type:=Int×Int×Bool
abbrev jT:Type:=Int×Int×Int×Bool
abbrev tY:Type:=Int×Int×Int×Int×Int×Bool×Bool×Int
abbrev qA:Type:=Int×Int×Int×Int×Int×Int×Int×Int
abbrev zF:Type:=Int×Int×Int×Int×Int×Int×Int
abbrev lk:Type:=Int×Int×Int×Int
abbrev zR:Type:=Int×Int×Int
abbrev yV:Type:=Int×Int
abbrev Gl:Type:=(List zR)×(List (List Int))×(List Int)×(List (List Int))×(List zF)×(List zF)
abbrev Gm:Type:=(List zR)×(List (List Int))×(List Int)×(List (List Int))
abbrev yD:Go.Ab.Ty:=.pair (.int .i64) vQ
abbrev vGj:Go.Ab.Ty:=.pair (.sl (.int .u8)) vQ
abbrev qUg:Type:=Bool×Int×Int×Int×Int×Int×Int×Int×Int×Int×Int×Int×Int×Int×Int×(List zR)×(List (List Int))×(List Int)×(List (List Int))
abbrev Wg:Type:=Int×(List zR)×(List (List Int))×(List Int)×(List (List Int))×(List Int)×(List (List Int))×(List zF)×(List Int)×Int×Bool×(List qA)
abbrev rL:Type:=Int×(List zR)×(List (List Int))×(List Int)×(List (List Int))×(List Int)×(List (List Int))×(List zF)×(List Int)×Int×Bool×Bool
abbrev wI:Type:=Int×(List zR)×(List (List Int))×(List Int)×(List (List Int))×(List Int)×(List (List Int))×(List zF)×(List Int)×Int×Bool
abbrev wP:Type:=Int×(List yV)×Int×Int×Int×Int×(List zR)×(List (List Int))×(List Int)×(List (List Int))×(List Int)×(List (List Int))×(List zF)×(List Int)×Int×Bool×Int×(List qA)
abbrev mJ:Type:=Int×(List yV)×Int×Int×Int×Int×(List zR)×(List (List Int))×(List Int)×(List (List Int))×(List Int)×(List (List Int))×(List zF)×(List Int)×Int×Bool×Int×Bool
abbrev jw:Type:=Int×(List yV)×Int×Int×Int×Int×(List zR)×(List (List Int))×(List Int)×(List (List Int))×(List Int)×(List (List Int))×(List zF)×(List Int)×Int×Bool×Int
abbrev vV:Type:=Int×(List yV)×Int×Int×Int
abbrev vDs:Go.Ab.Ty:=.pair (.int .i64) yD
abbrev vK0:Go.Ab.Ty:=.pair (.int .i64) vGj
abbrev vL7:Go.Ab.Ty:=.pair (.int .i64) vDs
abbrev tX:Go.Ab.Ty:=.pair (.int .i64) vK0
abbrev vFm:Go.Ab.Ty:=.pair (.int .i64) vL7
abbrev zO:Go.Ab.Ty:=.pair (.int .i64) vFm
abbrev qP:Go.Ab.Ty:=.pair (.int .i64) zO
abbrev TR:List Go.Ab.CS:=[.dat false (.int .i64),.dat false (.int .i64),.dat false (.sl (.int .i64))]
abbrev nR:List Go.Ab.CS:=[.dat false yD,.dat false (.sl (.int .i64)),.dat false (.int .i64),.dat false (.sl (.int .i64))]
abbrev Cm:List Go.Ab.CS:=[.dat true (.int .u8),.bool]
abbrev fT:List Go.Ab.CS:=[.dat true yD,.dat true (.sl (.int .i64)),.dat true (.int .i64),.dat true (.sl (.int .i64))]
abbrev LH:List Go.Ab.CS:=[.int .i64,.dat false yD,.dat false (.sl (.int .i64)),.dat false (.int .i64),.dat false (.sl (.int .i64)),.dat false (.int .i64),.dat false (.sl (.int .i64)),.dat false zO,.dat false (.int .i64),.int .i64,.bool]
abbrev tL:List Go.Ab.CS:=[.int .i64,.dat false vQ,.int .i64,.int .i64,.int .i64]
abbrev lh:List Go.Ab.CS:=[.int .i64,.dat true yD,.dat true (.sl (.int .i64)),.dat true (.int .i64),.dat true (.sl (.int .i64)),.dat true (.int .i64),.dat true (.sl (.int .i64)),.dat true zO,.dat true (.int .i64),.int .i64,.bool]
abbrev Cw:List Go.Ab.CS:=[.int .i64,.dat true vQ,.int .i64,.int .i64,.int .i64]
abbrev Tm:List Go.Ab.CS:=[.int .i64,.dat true vQ,.int .i64,.int .i64,.int .i64,.int .i64,.dat true yD,.dat true (.sl (.int .i64)),.dat true (.int .i64),.dat true (.sl (.int .i64)),.dat true (.int .i64),.dat true (.sl (.int .i64)),.dat true zO,.dat true (.int .i64),.int .i64,.bool,.int .i64,.lit (.osl 1001001 none)]
abbrev U5:List Go.Ab.CS:=[.int .i64,.dat true vQ,.int .i64,.int .i64,.int .i64,.int .i64,.dat true yD,.dat true (.sl (.int .i64)),.dat true (.int .i64),.dat true (.sl (.int .i64)),.dat true (.int .i64),.dat true (.sl (.int .i64)),.dat true zO,.dat true (.int .i64),.int .i64,.bool,.int .i64,.lit .nsl]
abbrev ku:List Go.Ab.CS:=[.int .i64,.int .i64,.int .i64,.int .i64,.int .i64,.int .i64,.int .i64]
abbrev yAn:List Go.Ab.CS:=[.int .i64,.int .i64,.int .i64,.int .i64,.int .i64,.int .i64,.int .i64,.int .i64,.int .i64,.int .i64,.int .i64,.int .i64,.int .i64,.int .i64,.dat true yD,.dat true (.sl (.int .i64)),.dat true (.int .i64),.dat true (.sl (.int .i64))]
abbrev Lc:List Go.Ab.CS:=[.int .i64,.int .i64,.int .i64,.int .i64,.int .i64,.int .i64,.int .i64,.int .i64,.int .i64,.int .i64,.int .i64,.int .i64,.int .i64,.int .i64,.lit .nsl,.lit .nsl,.lit .nsl,.lit .nsl]
abbrev rK:List Go.Ab.CS:=[.int .i64,.lit (.osl 1001001 none),.int .i64,.int .i64,.int .i64]
abbrev yB9:List Go.Ab.CS:=[.int .i64,.lit (.osl 1001001 none),.int .i64,.lit (.osl 1001002 none),.int .i64,.int .i64,.int .i64,.bool,.bool,.int .i64]
abbrev qXr:List Go.Ab.CS:=[.int .i64,.lit (.osl 1001003 none),.int .i64,.lit (.osl 1001004 none),.int .i64,.int .i64,.int .i64,.bool,.bool,.int .i64]
abbrev qUd:List Go.Ab.CS:=[.int .i64,.lit (.osl 1001003 none),.lit (.osl 1001004 none),.lit (.osl 1001005 none),.lit (.osl 1001006 none),.lit (.osl 1001007 none),.lit (.osl 1001008 none),.lit (.osl 1001009 none),.lit .nsl,.int .i64,.bool]
abbrev yR9:List Go.Ab.CS:=[.int .i64,.lit (.osl 1001003 none),.lit (.osl 1001004 none),.lit (.osl 1001005 none),.lit (.osl 1001006 none),.lit (.osl 1001007 none),.lit .nsl,.lit .nsl,.lit .nsl,.int .i64,.bool]
abbrev qWx:List Go.Ab.CS:=[.int .i64,.lit (.osl 1001004 none),.lit .nsl,.lit .nsl,.lit .nsl,.lit .nsl,.lit .nsl,.lit .nsl,.lit .nsl,.int .i64,.bool]
abbrev lg:List Go.Ab.CS:=[.int .i64,.lit .nsl,.lit .nsl,.lit .nsl,.lit .nsl,.lit .nsl,.lit .nsl,.lit .nsl,.lit .nsl,.int .i64,.bool]
abbrev TK:List Go.Ab.CS:=[.lit (.osl 1001002 none),.lit (.osl 1001003 none),.lit (.osl 1001004 none)]
abbrev Gk:List Go.Ab.CS:=[.lit (.osl 1001003 none),.lit (.osl 1001004 none),.int .i64,.dat true yD,.dat true (.sl (.int .i64)),.dat true (.int .i64),.dat true (.sl (.int .i64)),.dat true (.int .i64),.dat true (.sl (.int .i64)),.dat true zO,.dat true (.int .i64),.int .i64,.bool,.bool]
abbrev K7:List Go.Ab.CS:=[.lit (.osl 1001003 none),.lit (.osl 1001004 none),.lit (.osl 1001005 none),.lit (.osl 1001006 none)]
abbrev yHu:List Go.Ab.CS:=[.lit (.osl 1001004 none),.lit (.osl 1001005 none),.lit (.osl 1001006 none),.lit (.osl 1001007 none)]
abbrev LW:List Go.Ab.CS:=[.lit .nsl,.lit .nsl,.int .i64,.lit .nsl,.lit .nsl,.lit .nsl,.lit .nsl,.lit .nsl,.lit .nsl,.lit .nsl,.lit .nsl,.int .i64,.bool,.bool]
abbrev K6:List Go.Ab.CS:=[.lit .nsl,.lit .nsl,.lit .nsl,.lit .nsl]
abbrev K3:List Go.Ab.PC:=[.dat false (.int .i64),.dat false (.int .i64),.dat false (.sl (.int .i64))]
abbrev ju:List Go.Ab.PC:=[.dat false yD,.dat false (.sl (.int .i64)),.dat false (.int .i64),.dat false (.sl (.int .i64))]
abbrev tT:List Go.Ab.PC:=[.dat true yD,.dat true (.sl (.int .i64)),.dat true (.int .i64),.dat true (.sl (.int .i64))]
abbrev FZ:List Go.Ab.PC:=[.int .i64,.dat false (.int .u8),.int .i64,.dat false (.int .u8),.int .i64,.int .i64,.int .i64,.bool,.bool,.int .i64]
abbrev tM:List Go.Ab.PC:=[.int .i64,.dat false yD,.dat false (.sl (.int .i64)),.dat false (.int .i64),.dat false (.sl (.int .i64)),.dat false (.int .i64),.dat false (.sl (.int .i64)),.dat false zO,.dat false (.int .i64),.int .i64,.bool]
abbrev mD:List Go.Ab.PC:=[.int .i64,.dat false vQ,.int .i64,.int .i64,.int .i64]
abbrev SJ:List Go.Ab.PC:=[.int .i64,.dat false vQ,.int .i64,.int .i64,.int .i64,.int .i64,.dat false yD,.dat false (.sl (.int .i64)),.dat false (.int .i64),.dat false (.sl (.int .i64)),.dat false (.int .i64),.dat false (.sl (.int .i64)),.dat false zO,.dat false (.int .i64),.int .i64,.bool,.int .i64,.dat false qP]
abbrev F2:List Go.Ab.PC:=[.int .i64,.dat true yD,.dat true (.sl (.int .i64)),.dat true (.int .i64),.dat true (.sl (.int .i64)),.dat true (.int .i64),.dat true (.sl (.int .i64)),.dat true zO,.dat true (.int .i64),.int .i64,.bool]
abbrev LA:List Go.Ab.PC:=[.int .i64,.dat true vQ,.int .i64,.int .i64,.int .i64]
abbrev pq:List Go.Ab.PC:=[.int .i64,.int .i64,.int .i64]
abbrev wE:List Go.Ab.PC:=[.int .i64,.int .i64,.int .i64,.int .i64,.int .i64,.int .i64,.int .i64]
abbrev F6:List Go.Ab.PC:=[.int .i64,.int .i64,.int .i64,.int .i64,.int .i64,.int .i64,.int .i64,.int .i64]
abbrev mE:List Go.Ab.RC:=[.fro (.int .u8)]
abbrev ph:List Go.Ab.RC:=[.fro (.sl (.int .u8))]
abbrev lj:List Go.Ab.RC:=[.fro yD,.fro (.sl (.int .i64)),.fro (.int .i64),.fro (.sl (.int .i64))]
abbrev qW:List Go.Ab.RC:=[.int .i64]
abbrev pj:List Go.Ab.RC:=[.int .i64,.fro yD,.fro (.sl (.int .i64)),.fro (.int .i64),.fro (.sl (.int .i64)),.fro (.int .i64),.fro (.sl (.int .i64)),.fro zO,.fro (.int .i64),.int .i64,.bool]
abbrev yDv:List Go.Ab.RC:=[.int .i64,.fro yD,.fro (.sl (.int .i64)),.fro (.int .i64),.fro (.sl (.int .i64)),.fro (.int .i64),.fro (.sl (.int .i64)),.own zO,.fro (.int .i64),.int .i64,.bool]
abbrev wG:List Go.Ab.RC:=[.int .i64,.fro vQ,.int .i64,.int .i64,.int .i64,.int .i64,.fro yD,.fro (.sl (.int .i64)),.fro (.int .i64),.fro (.sl (.int .i64)),.fro (.int .i64),.fro (.sl (.int .i64)),.fro zO,.fro (.int .i64),.int .i64,.bool,.int .i64,.own qP]
abbrev Ct:List Go.Ab.RC:=[.int .i64,.int .i64,.int .i64]
abbrev mF:List Go.Ab.RC:=[.int .i64,.int .i64,.int .i64,.int .i64,.int .i64,.int .i64,.int .i64]
abbrev Cn:List Go.Ab.RC:=[.int .i64,.int .i64,.int .i64,.int .i64,.int .i64,.int .i64,.int .i64,.int .i64]
abbrev qVt:List Go.Ab.RC:=[.int .i64,.int .i64,.int .i64,.int .i64,.int .i64,.int .i64,.int .i64,.int .i64,.int .i64,.int .i64,.int .i64,.int .i64,.int .i64,.int .i64,.fro yD,.fro (.sl (.int .i64)),.fro (.int .i64),.fro (.sl (.int .i64))]
abbrev vH:List Go.Ab.RC:=[.int .i64,.own (.int .u8),.int .i64,.own (.int .u8),.int .i64,.int .i64,.int .i64,.bool,.bool,.int .i64]
abbrev Kg:List Go.Ab.RC:=[.int .i64,.own yD,.mat,.own (.int .i64),.mat,.own (.int .i64),.mat,.own zO,.own (.int .i64),.int .i64,.bool]
abbrev yPc:List Go.Ab.RC:=[.int .i64,.own vQ,.int .i64,.int .i64,.int .i64,.int .i64,.own yD,.mat,.own (.int .i64),.mat,.own (.int .i64),.mat,.own zO,.own (.int .i64),.int .i64,.bool,.int .i64,.own qP]
abbrev Kq:List Go.Ab.RC:=[.link 0,.int .i64,.int .i64,.int .i64,.bool]
abbrev tV:List Go.Ab.RC:=[.link 1,.int .i64,.fro vQ,.int .i64,.int .i64,.int .i64,.int .i64,.fro yD,.fro (.sl (.int .i64)),.fro (.int .i64),.fro (.sl (.int .i64)),.fro (.int .i64),.fro (.sl (.int .i64)),.fro zO,.fro (.int .i64),.int .i64,.bool,.int .i64,.bool]
abbrev Cv:List Go.Ab.RC:=[.link 1,.int .i64,.int .i64,.int .i64,.bool]
abbrev yKk:List Go.Ab.RC:=[.link 2,.int .i64,.fro vQ,.int .i64,.int .i64,.int .i64,.int .i64,.fro yD,.fro (.sl (.int .i64)),.fro (.int .i64),.fro (.sl (.int .i64)),.fro (.int .i64),.fro (.sl (.int .i64)),.fro zO,.fro (.int .i64),.int .i64,.bool,.int .i64,.bool]
abbrev tW:List Go.Ab.RC:=[.link 2,.int .i64,.int .i64,.int .i64,.bool]
abbrev pg:List Go.Ab.RC:=[.own (.int .i64)]
abbrev qX7:List Go.Ab.RC:=[.own (.sl qP),.own qP,.int .i64,.fro yD,.fro (.sl (.int .i64)),.fro (.int .i64),.fro (.sl (.int .i64)),.fro (.int .i64),.fro (.sl (.int .i64)),.fro zO,.fro (.int .i64),.int .i64,.bool,.bool]
abbrev LO:List Go.Ab.XC:=[.link 1,.p (.int .i64),.p (.dat true vQ),.p (.int .i64),.p (.int .i64),.p (.int .i64),.p (.int .i64),.p (.dat true yD),.p (.dat true (.sl (.int .i64))),.p (.dat true (.int .i64)),.p (.dat true (.sl (.int .i64))),.p (.dat true (.int .i64)),.p (.dat true (.sl (.int .i64))),.p (.dat true zO),.p (.dat true (.int .i64)),.p (.int .i64),.p (.bool),.p (.int .i64),.p (.bool)]
abbrev U9:List Go.Ab.XC:=[.link 1,.p (.int .i64),.p (.int .i64),.p (.int .i64),.p (.bool)]
abbrev LP:List Go.Ab.XC:=[.link 2,.p (.int .i64),.p (.int .i64),.p (.int .i64),.p (.bool)]
abbrev jq:List Go.Ab.XC:=[.p (.int .i64),.own (.int .u8),.p (.int .i64),.own (.int .u8),.p (.int .i64),.p (.int .i64),.p (.int .i64),.p (.bool),.p (.bool),.p (.int .i64)]
abbrev tO:List Go.Ab.XC:=[.p (.int .i64),.p (.dat true vQ),.p (.int .i64),.p (.int .i64),.p (.int .i64),.p (.int .i64),.p (.dat true yD),.p (.dat true (.sl (.int .i64))),.p (.dat true (.int .i64)),.p (.dat true (.sl (.int .i64))),.p (.dat true (.int .i64)),.p (.dat true (.sl (.int .i64))),.p (.dat true zO),.p (.dat true (.int .i64)),.p (.int .i64),.p (.bool),.p (.int .i64),.own qP]
abbrev tN:List Go.Ab.XC:=[.p (.int .i64),.p (.dat true vQ),.p (.int .i64),.p (.int .i64),.p (.int .i64),.p (.int .i64),.p (.dat true yD),.p (.dat true (.sl (.int .i64))),.p (.dat true (.int .i64)),.p (.dat true (.sl (.int .i64))),.p (.dat true (.int .i64)),.p (.dat true (.sl (.int .i64))),.p (.dat true zO),.p (.dat true (.int .i64)),.p (.int .i64),.p (.bool),.p (.int .i64),.p (.nil)]
section
variable {A B C D E F G H I J K L M N O P Q R S U V W X Z a b Aa Ab Ac Ad Ae Af Ag Ah Ai Aj Ak Al Am An Ao Ap Aq Ar As At T Y:Type}
abbrev wT (x:A×B×C×D)(t:T):=(x.1,x.2.1,x.2.2.1,x.2.2.2,t)
abbrev ft (x:A×B×C×D×E)(t:T):=(x.1,wT x.2 t)
abbrev tU (x:A×B×C×D×E×F)(t:T):=(x.1,ft x.2 t)
abbrev kU (x:A×B×C×D×E×F×G)(t:T):=(x.1,tU x.2 t)
abbrev Co (x:A×B×C×D×E×F×G×H)(t:T):=(x.1,kU x.2 t)
abbrev SN (x:A×B×C×D×E×F×G×H×I)(t:T):=(x.1,Co x.2 t)
abbrev fS (x:A×B×C×D×E×F×G×H×I×J)(t:T):=(x.1,SN x.2 t)
abbrev jJ (x:A×B×C×D×E×F×G×H×I×J×K)(t:T):=(x.1,fS x.2 t)
abbrev tR (x:A×B×C×D×E×F×G×H×I×J×K×L)(t:T):=(x.1,jJ x.2 t)
abbrev vDj (x:A×B×C×D×E×F×G×H×I×J×K×L×M)(t:T):=(x.1,tR x.2 t)
abbrev Uz (x:A×B×C×D×E×F×G×H×I×J×K×L×M×N)(t:T):=(x.1,vDj x.2 t)
abbrev vGn (x:A×B×C×D×E×F×G×H×I×J×K×L×M×N×O)(t:T):=(x.1,Uz x.2 t)
abbrev vB1 (x:A×B×C×D×E×F×G×H×I×J×K×L×M×N×O×P)(t:T):=(x.1,vGn x.2 t)
abbrev vF (x:A×B×C×D×E×F×G×H×I×J×K×L×M×N×O×P×Q)(t:T):=(x.1,vB1 x.2 t)
abbrev wV (x:A×B×C×D×E×F×G×H×I×J×K×L×M×N×O×P×Q×R)(t:T):=(x.1,vF x.2 t)
abbrev vJo (x:A×B×C×D×E×F×G×H×I×J×K×L×M×N×O×P×Q×R×S)(t:T):=(x.1,wV x.2 t)
abbrev vM (x:A×B×C×D×E):=(x.1,x.2.1,x.2.2.1,x.2.2.2.1)
abbrev vO (x:A×B×C×D×E×F):=(x.1,vM x.2)
abbrev xk (x:A×B×C×D×E×F×G):=(x.1,vO x.2)
abbrev jX (x:A×B×C×D×E×F×G×H):=(x.1,xk x.2)
abbrev lZ (x:A×B×C×D×E×F×G×H×I):=(x.1,jX x.2)
abbrev SO (x:A×B×C×D×E×F×G×H×I×J):=(x.1,lZ x.2)
abbrev jF (x:A×B×C×D×E×F×G×H×I×J×K):=(x.1,SO x.2)
abbrev vT (x:A×B×C×D×E×F×G×H×I×J×K×L):=(x.1,jF x.2)
abbrev nQ (x:A×B×C×D×E×F×G×H×I×J×K×L×M):=(x.1,vT x.2)
abbrev vAo (x:A×B×C×D×E×F×G×H×I×J×K×L×M×N):=(x.1,nQ x.2)
abbrev UD (x:A×B×C×D×E×F×G×H×I×J×K×L×M×N×O):=(x.1,vAo x.2)
abbrev vA6 (x:A×B×C×D×E×F×G×H×I×J×K×L×M×N×O×P):=(x.1,UD x.2)
abbrev vC5 (x:A×B×C×D×E×F×G×H×I×J×K×L×M×N×O×P×Q):=(x.1,vA6 x.2)
abbrev jt (x:A×B×C×D×E×F×G×H×I×J×K×L×M×N×O×P×Q×R):=(x.1,vC5 x.2)
abbrev jQ (x:A×B×C×D×E×F×G×H×I×J×K×L×M×N×O×P×Q×R×S):=(x.1,jt x.2)
abbrev yU4 (x:A×B×C×D×E×F×G×H×I×J×K×L×M×N×O×P×Q×R×S×U):=(x.1,jQ x.2)
abbrev jM (x:A×B×C×D×E)(t:T):=(x.1,x.2.1,x.2.2.1,x.2.2.2.1,t)
abbrev rJ (x:A×B×C×D×E×F)(t:T):=(x.1,jM x.2 t)
abbrev gq (x:A×B×C×D×E×F×G)(t:T):=(x.1,rJ x.2 t)
abbrev Cu (x:A×B×C×D×E×F×G×H)(t:T):=(x.1,gq x.2 t)
abbrev yHa (x:A×B×C×D×E×F×G×H×I)(t:T):=(x.1,Cu x.2 t)
abbrev Wh (x:A×B×C×D×E×F×G×H×I×J)(t:T):=(x.1,yHa x.2 t)
abbrev yZ5 (x:A×B×C×D×E×F×G×H×I×J×K)(t:T):=(x.1,Wh x.2 t)
abbrev tQ (x:A×B×C×D×E×F×G×H×I×J×K×L)(t:T):=(x.1,yZ5 x.2 t)
abbrev nT (x:A×B×C×D×E×F×G×H×I×J×K×L×M)(t:T):=(x.1,tQ x.2 t)
abbrev yUn (x:A×B×C×D×E×F×G×H×I×J×K×L×M×N)(t:T):=(x.1,nT x.2 t)
abbrev UC (x:A×B×C×D×E×F×G×H×I×J×K×L×M×N×O)(t:T):=(x.1,yUn x.2 t)
abbrev yZo (x:A×B×C×D×E×F×G×H×I×J×K×L×M×N×O×P)(t:T):=(x.1,UC x.2 t)
abbrev yYb (x:A×B×C×D×E×F×G×H×I×J×K×L×M×N×O×P×Q)(t:T):=(x.1,yZo x.2 t)
abbrev Wi (x:A×B×C×D×E×F×G×H×I×J×K×L×M×N×O×P×Q×R)(t:T):=(x.1,yYb x.2 t)
abbrev fw (f:A→B→C→D→Y)(x:A×B×C×D×E):Y:=f x.1 x.2.1 x.2.2.1 x.2.2.2.1
abbrev pv (f:A→B→C→D→E→Y)(x:A×B×C×D×E×F):Y:=fw (f x.1) x.2
abbrev pt (f:A→B→C→D→E→F→Y)(x:A×B×C×D×E×F×G):Y:=pv (f x.1) x.2
abbrev tS (f:A→B→C→D→E→F→G→Y)(x:A×B×C×D×E×F×G×H):Y:=pt (f x.1) x.2
abbrev pn (f:A→B→C→D→E→F→G→H→Y)(x:A×B×C×D×E×F×G×H×I):Y:=tS (f x.1) x.2
abbrev TD (f:A→B→C→D→E→F→G→H→I→Y)(x:A×B×C×D×E×F×G×H×I×J):Y:=pn (f x.1) x.2
abbrev vCd (f:A→B→C→D→E→F→G→H→I→J→Y)(x:A×B×C×D×E×F×G×H×I×J×K):Y:=TD (f x.1) x.2
abbrev rI (f:A→B→C→D→E→F→G→H→I→J→K→Y)(x:A×B×C×D×E×F×G×H×I×J×K×L):Y:=vCd (f x.1) x.2
abbrev Lt (f:A→B→C→D→E→F→G→H→I→J→K→L→Y)(x:A×B×C×D×E×F×G×H×I×J×K×L×M):Y:=rI (f x.1) x.2
abbrev TU (f:A→B→C→D→E→F→G→H→I→J→K→L→M→Y)(x:A×B×C×D×E×F×G×H×I×J×K×L×M×N):Y:=Lt (f x.1) x.2
abbrev F8 (f:A→B→C→D→E→F→G→H→I→J→K→L→M→N→Y)(x:A×B×C×D×E×F×G×H×I×J×K×L×M×N×O):Y:=TU (f x.1) x.2
abbrev yWi (f:A→B→C→D→E→F→G→H→I→J→K→L→M→N→O→Y)(x:A×B×C×D×E×F×G×H×I×J×K×L×M×N×O×P):Y:=F8 (f x.1) x.2
abbrev yDz (f:A→B→C→D→E→F→G→H→I→J→K→L→M→N→O→P→Y)(x:A×B×C×D×E×F×G×H×I×J×K×L×M×N×O×P×Q):Y:=yWi (f x.1) x.2
abbrev vMv (f:A→B→C→D→E→F→G→H→I→J→K→L→M→N→O→P→Q→Y)(x:A×B×C×D×E×F×G×H×I×J×K×L×M×N×O×P×Q×R):Y:=yDz (f x.1) x.2
abbrev yUe (f:A→B→C→D→E→F→G→H→I→J→K→L→M→N→O→P→Q→R→Y)(x:A×B×C×D×E×F×G×H×I×J×K×L×M×N×O×P×Q×R×S):Y:=vMv (f x.1) x.2
abbrev yTu (f:A→B→C→D→E→F→G→H→I→J→K→L→M→N→O→P→Q→R→S→Y)(x:A×B×C×D×E×F×G×H×I×J×K×L×M×N×O×P×Q×R×S×U):Y:=yUe (f x.1) x.2
abbrev Wj (x:A×B×C×D×E×F×G×H×I×J×K×L×M×N×O×P×Q)(t:T):=wT x.2.2.2.2.2.2.2.2.2.2.2.2.2 t
abbrev qWw (x:A×B×C×D×E×F)(t:T):=wT x.2.2 t
abbrev yVg (x:A×B×C×D×E×F×G)(t:T):=wT x.2.2.2 t
abbrev qU6 (x:A×B×C×D×E×F×G×H)(t:T):=wT x.2.2.2.2 t
abbrev yS1 (x:A×B×C×D×E×F×G×H×I×J×K×L)(t:T):=wT x.2.2.2.2.2.2.2.2 t
abbrev qW9 (x:A×B×C×D×E×F×G×H×I×J×K×L×M×N×O×P×Q)(t:T):=ft x.2.2.2.2.2.2.2.2.2.2.2.2 t
abbrev QB (x:A×B×C×D×E×F×G×H×I×J×K×L×M×N×O×P×Q)(t:T):=tU x.2.2.2.2.2.2.2.2.2.2.2 t
abbrev yWv (x:A×B×C×D×E×F×G×H)(t:T):=tU x.2.2 t
abbrev Wk (x:A×B×C×D×E×F×G×H×I×J×K×L×M×N×O×P×Q)(t:T):=kU x.2.2.2.2.2.2.2.2.2.2 t
abbrev Ur (x:A×B×C×D×E×F×G×H×I×J×K)(t:T):=kU x.2.2.2.2 t
abbrev vAt (x:A×B×C×D×E×F×G×H×I×J×K×L×M×N)(t:T):=kU x.2.2.2.2.2.2.2 t
abbrev vKe (x:A×B×C×D×E×F×G×H×I×J×K×L)(t:T):=jJ x.2 t
abbrev Cy (x:A×B×C×D×E×F×G×H×I×J×K×L×M×N×O×P×Q×R)(t:T):=jJ x.2.2.2.2.2.2.2 t
abbrev Uw (x:A×B×C×D×E×F×G×H×I×J×K×L×M×N×O×P×Q×R×S)(t:T):=wV x.2 t
abbrev yU3 (x:A×B×C×D×E×F×G×H×I×J×K×L×M×N×O×P×Q×R×S×U):=vM x.2.2.2.2.2.2.2.2.2.2.2.2.2.2.2
abbrev LC (x:A×B×C×D×E×F):=vM x.2
abbrev LQ (x:A×B×C×D×E×F×G×H×I×J×K×L×M×N×O×P×Q×R×S×U×V×W×X×Z×a):=vM x.2.2.2.2.2.2.2.2.2.2.2.2.2.2.2.2.2.2.2.2
abbrev VC (x:A×B×C×D×E×F×G×H×I×J×K×L×M×N×O×P×Q×R×S×U×V×W×X×Z×a×b):=vM x.2.2.2.2.2.2.2.2.2.2.2.2.2.2.2.2.2.2.2.2.2
abbrev Vb (x:A×B×C×D×E×F×G):=vM x.2.2
abbrev yUk (x:A×B×C×D×E×F×G×H×I×J×K×L×M×N×O×P×Q×R×S×U×V×W×X×Z×a×b×Aa×Ab×Ac×Ad×Ae×Af×Ag×Ah×Ai×Aj):=vM x.2.2.2.2.2.2.2.2.2.2.2.2.2.2.2.2.2.2.2.2.2.2.2.2.2.2.2.2.2.2.2
abbrev yVf (x:A×B×C×D×E×F×G×H×I×J×K×L×M×N×O×P×Q×R×S×U×V×W×X×Z×a×b×Aa×Ab×Ac×Ad×Ae×Af×Ag×Ah×Ai×Aj×Ak):=vM x.2.2.2.2.2.2.2.2.2.2.2.2.2.2.2.2.2.2.2.2.2.2.2.2.2.2.2.2.2.2.2.2
abbrev yAq (x:A×B×C×D×E×F×G×H×I×J×K×L×M×N×O×P×Q×R×S×U×V×W×X×Z×a):=xk x.2.2.2.2.2.2.2.2.2.2.2.2.2.2.2.2.2.2
abbrev Cq (x:A×B×C×D×E×F×G×H×I×J×K×L×M×N×O×P×Q×R×S×U×V×W×X×Z×a×b):=jX x.2.2.2.2.2.2.2.2.2.2.2.2.2.2.2.2.2.2
abbrev E5 (x:A×B×C×D×E×F×G×H×I):=jX x.2
abbrev yBg (x:A×B×C×D×E×F×G×H×I×J×K×L×M×N):=jX x.2.2.2.2.2.2
abbrev yYg (x:A×B×C×D×E×F×G×H×I×J×K×L×M×N×O):=jX x.2.2.2.2.2.2.2
abbrev yRe (x:A×B×C×D×E×F×G×H×I×J×K×L×M×N×O×P×Q×R×S×U×V×W×X×Z×a):=lZ x.2.2.2.2.2.2.2.2.2.2.2.2.2.2.2.2
abbrev Cg (x:A×B×C×D×E×F×G×H×I×J×K×L):=jF x.2
abbrev LR (x:A×B×C×D×E×F×G×H×I×J×K×L×M×N×O×P×Q×R×S×U×V×W×X×Z×a×b×Aa×Ab×Ac×Ad×Ae×Af×Ag×Ah×Ai):=jF x.2.2.2.2.2.2.2.2.2.2.2.2.2.2.2.2.2.2.2.2.2.2.2.2
abbrev VD (x:A×B×C×D×E×F×G×H×I×J×K×L×M×N×O×P×Q×R×S×U×V×W×X×Z×a×b×Aa×Ab×Ac×Ad×Ae×Af×Ag×Ah×Ai×Aj):=jF x.2.2.2.2.2.2.2.2.2.2.2.2.2.2.2.2.2.2.2.2.2.2.2.2.2
abbrev yGv (x:A×B×C×D×E×F×G×H×I×J×K×L×M):=jF x.2.2
abbrev vCh (x:A×B×C×D×E×F×G×H×I×J×K×L×M×N×O×P×Q×R×S×U×V×W×X×Z×a×b×Aa×Ab×Ac×Ad×Ae×Af×Ag×Ah×Ai×Aj×Ak×Al×Am×An×Ao×Ap×Aq×Ar×As×At):=jF x.2.2.2.2.2.2.2.2.2.2.2.2.2.2.2.2.2.2.2.2.2.2.2.2.2.2.2.2.2.2.2.2.2.2.2
abbrev yC5 (x:A×B×C×D×E×F×G×H×I×J×K×L×M×N×O):=jF x.2.2.2.2
abbrev LD (x:A×B×C×D×E×F×G×H×I×J×K×L×M×N×O×P):=jF x.2.2.2.2.2
abbrev Vc (x:A×B×C×D×E×F×G×H×I×J×K×L×M×N×O×P×Q):=jF x.2.2.2.2.2.2
abbrev tH (x:A×B×C×D×E×F×G×H×I×J×K×L×M×N×O×P×Q):=vT x.2.2.2.2.2
abbrev yTx (x:A×B×C×D×E×F×G×H×I×J×K×L×M×N×O×P×Q×R×S):=vT x.2.2.2.2.2.2.2
abbrev vFg (x:A×B×C×D×E×F×G×H×I×J×K×L×M×N×O×P×Q×R×S×U×V×W×X×Z×a×b×Aa×Ab×Ac×Ad×Ae):=jQ x.2.2.2.2.2.2.2.2.2.2.2.2
abbrev vB4 (x:A×B×C×D×E×F×G×H×I×J×K×L×M×N×O×P×Q×R×S×U×V×W×X×Z×a×b×Aa×Ab×Ac×Ad×Ae×Af):=jQ x.2.2.2.2.2.2.2.2.2.2.2.2.2
abbrev ic (x:A×B×C×D×E×F×G×H×I×J×K×L×M×N×O×P×Q×R×S×U):=jQ x.2
abbrev VB (x:A×B×C×D×E×F×G×H×I×J×K×L×M×N×O×P×Q×R×S×U×V):=jQ x.2.2
abbrev L9 (x:A×B×C×D×E×F×G×H×I×J×K×L×M×N×O)(t:T):=jM x.2.2.2.2.2.2.2.2.2.2 t
abbrev mG (x:A×B×C×D×E×F)(t:T):=jM x.2 t
abbrev Sl (x:A×B×C×D×E×F×G)(t:T):=jM x.2.2 t
abbrev yVj (x:A×B×C×D×E×F×G×H×I×J)(t:T):=jM x.2.2.2.2.2 t
abbrev Cz (x:A×B×C×D×E×F×G×H×I×J×K)(t:T):=gq x.2.2.2.2 t
abbrev vI5 (x:A×B×C×D×E×F×G×H×I)(t:T):=Cu x.2 t
abbrev yZb (x:A×B×C×D×E×F×G×H×I×J×K×L×M)(t:T):=yHa x.2.2.2.2 t
abbrev vEx (x:A×B×C×D×E×F×G×H×I×J×K×L×M×N×O×P×Q)(t:T):=tQ x.2.2.2.2.2 t
abbrev yU1 (x:A×B×C×D×E×F×G×H×I×J×K×L×M×N×O×P×Q×R×S×U×V)(t:T):=UC x.2.2.2.2.2.2 t
abbrev JE (x:A×B×C×D×E×F×G×H×I×J×K×L×M×N×O×P×Q×R×S)(t:T):=Wi x.2 t
end
def FW (k:Nat)(a0:Int):Option vV:=
 bif decide ((gl .i64 a0 3)=1) then some (4,[(100,1000),(7,0)],12,20,100)
 else bif decide ((gl .i64 a0 3)=2) then some (3,[],20,20,4)
 else bif decide ((gl .i64 a0 3)=3) then some (3,[(100,1000),(7,0)],0,6,1)
 else some (3,[(100,1000),(7,0)],12,20,4)
def QY (k:Nat)(a0:Int):Option (vD⊕Unit):=
 bif decide (a0<0) then some (.inr ())
 else bif decide (a0>200000) then some (.inr ())
 else some (.inl (a0,[],0,[],0,0,0,false,false,0))
def pf (k:Nat)(a0 a1 a2:Int):Option Bool:=
 bif decide (a0≥a1) then some (decide (a0≤a2))
 else some false
def yEo (k:Nat)(a0:yV):Option Bool:=
 (pf k a0.1 0 1048576).bind fun x0=>
 bif !x0 then some true
 else(pf k a0.2 0 10000).bind fun x1=>
 some (!x1)
abbrev Ra:Type:=List yV→Int→Int→Option (Unit⊕Int)
def yEg (k:Nat)(rec:Ra)(s0:List yV)(s7 s8:Int):Option (Unit⊕Int):=
 bif decide (s8 < s7) then (bif zE s8 s0.length then ((yEo k (s0.getD s8.toNat (0,0))).bind fun x0=>
   bif x0 then some (.inr s8)
   else rec s0 s7 (zA (s8+1)))
  else none)
 else some (.inl ())
def Rc (k:Nat):Nat→Ra:=vC (fun _ _ _=>none) (yEg k)
def yJi (k:Nat)(a0:List yV):Option Int:=
 (Rc k k a0 (a0.length:Int) 0).bind fun z=>
 match z with
 |.inl z1=>some (-1)
 |.inr z2=>some z2
def yI3 (k:Nat)(a0:List yV):Option Bool:=
 (yJi k a0).bind fun x0=>
 some (decide (x0≥0))
def xg (k:Nat)(a0:vV):Option Bool:=
 (pf k a0.1 1 6).bind fun x0=>
 bif x0 then ((pf k a0.2.2.2.1 1 1048576).bind fun x1=>
  bif x1 then ((pf k a0.2.2.1 0 a0.2.2.2.1).bind fun x2=>
   bif x2 then ((pf k a0.2.2.2.2 1 1048576).bind fun x3=>
    bif decide ((a0.2.1.length : Int) ≤ 3) then (bif x3 then ((yI3 k a0.2.1).bind fun x4=>
      some (!x4))
     else some false)
    else some false)
   else bif decide ((a0.2.1.length:Int)≤3) then some false
   else some false)
  else bif decide ((a0.2.1.length:Int)≤3) then some false
  else some false)
 else(pf k a0.2.2.2.1 1 1048576).bind fun x5=>
 bif x5 then ((pf k a0.2.2.1 0 a0.2.2.2.1).bind fun x6=>
  bif x6 then ((pf k a0.2.2.2.2 1 1048576).bind fun x7=>
   some false)
  else some false)
 else some false
def J6 (k:Nat)(a0:Int):Option Bool:=
 bif decide (a0≥0) then some (decide (a0<2))
 else some false
def Rg (k:Nat)(a0:List Int):Option (List Int):=
 bif zX (0+a0.length) 1 then some a0
 else none
def yL6 (k:Nat)(a0:vD)(a1:Int):Option (List Int):=
 (J6 k a1).bind fun x0=>
 bif !x0 then some []
 else bif decide (a1 = 0) then ((Rg k a0.2.1).bind fun x1=>
  some x1)
 else bif decide (a1 = 1) then ((Rg k a0.2.2.2.1).bind fun x2=>
  some x2)
 else none
abbrev J7:Type:=(List Int)×(List (List Int))
abbrev Rh:Type:=List Int→List (List Int)→Option J7
def yMo (k:Nat)(rec:Rh)(s0:List Int)(r0:List (List Int)):Option J7:=
 bif decide ((s0.length : Int) ≥ 2) then (bif zE 0 s0.length then (bif zE 1 s0.length then (bif decide ((ke .i64 (shl .i64 (zA ((s0.getD 0 0))) 8) (zA ((s0.getD 1 0))))>60000) then some (s0,r0)
    else bif decide ((ke .i64 (shl .i64 (zA ((s0.getD 0 0))) 8) (zA ((s0.getD 1 0))))>(zA ((s0.length:Int)-2))) then some (s0,r0)
    else bif (decide (2 ≤ (zA (2 + (ke .i64 (shl .i64 (zA ((s0.getD 0 0))) 8) (zA ((s0.getD 1 0)))))))) && (decide ((zA (2 + (ke .i64 (shl .i64 (zA ((s0.getD 0 0))) 8) (zA ((s0.getD 1 0)))))) ≤ (s0.length : Int))) then (bif zX (0 + (yB s0 2 ((zA (2 + (ke .i64 (shl .i64 (zA ((s0.getD 0 0))) 8) (zA ((s0.getD 1 0)))))).toNat - 2)).length) 1 then (let y0:List Int:=(yB s0 2 ((zA (2+(ke .i64 (shl .i64 (zA ((s0.getD 0 0))) 8) (zA ((s0.getD 1 0)))))).toNat-2))
      bif zX (r0.length + 1) 24 then (bif (decide (0≤(zA (2+(ke .i64 (shl .i64 (zA ((s0.getD 0 0))) 8) (zA ((s0.getD 1 0))))))))&&(decide ((zA (2+(ke .i64 (shl .i64 (zA ((s0.getD 0 0))) 8) (zA ((s0.getD 1 0))))))≤(s0.length:Int))) then(rec (List.drop (zA (2+(ke .i64 (shl .i64 (zA ((s0.getD 0 0))) 8) (zA ((s0.getD 1 0)))))).toNat s0) (r0++[y0]))
       else none)
      else none)
     else none)
    else none)
   else none)
  else none)
 else some (s0,r0)
def Rj (k:Nat):Nat→Rh:=vC (fun _ _=>none) (yMo k)
def Rl (k:Nat)(a0:List Int):Option ((List (List Int))×Int):=
 (Rj k k a0 []).bind fun z=>
 some (z.2,(z.1.length:Int))
abbrev J8:Type:=(List Int)×Int×(List Int)
abbrev Rm:Type:=List Int→Int→List Int→Int→Int→List Int→Option J8
def Ip (k:Nat)(rec:Rm)(s0:List Int)(s5:Int)(bX:List Int)(aQ dG:Int)(r0:List Int):Option J8:=
 bif decide (dG < aQ) then (bif zE dG bX.length then(rec s0 (ke .u64 (shl .u64 s5 8) (IntKind.wrap .u64 ((bX.getD dG.toNat 0)))) bX aQ (zA (dG+1)) r0)
  else none)
 else some (s0,s5,r0)
def zu (k:Nat):Nat→Rm:=vC (fun _ _ _ _ _ _=>none) (Ip k)
def zw (k:Nat)(rec:List Int→List Int→Option (List Int))(s0 r0:List Int):Option (List Int):=
 bif decide ((s0.length : Int) > 0) then (bif decide (8 ≤ (s0.length : Int)) then ((zu k k s0 0 (List.take 8 s0) ((List.take 8 s0).length:Int) 0 r0).bind fun z=>
   bif zX (z.2.2.length + 1) 8 then (bif decide (8≤(z.1.length:Int)) then(rec (List.drop 8 z.1) (z.2.2++[(zA (z.2.1))]))
    else none)
   else none)
  else none)
 else some r0
def zv (k:Nat):Nat→List Int→List Int→Option (List Int):=vC (fun _ _=>none) (zw k)
def qw (k:Nat)(a0:List Int):Option ((List Int)×Int):=
 bif !(decide ((Int.tmod (a0.length:Int) 8)=0)) then some ([],2)
 else(zv k k a0 []).bind fun z1=>
 some (z1,0)
def J9 (k:Nat)(a0:vD)(a1:Int):Option (Int×(List Int)×(List (List Int))):=
 (yL6 k a0 a1).bind fun x0=>
 (Rl k x0).bind fun x1=>
 bif decide ((x1.1.length:Int)=0) then some (0,[],[])
 else bif zE 0 x1.1.length then (bif decide (((x1.1.getD 0 []).length:Int)<8) then some (0,[],[])
  else bif zE 0 x1.1.length then (bif decide (8 ≤ ((x1.1.getD 0 []).length : Int)) then ((qw k (List.take 8 (x1.1.getD 0 []))).bind fun x2=>
    bif zE 0 x2.1.length then (bif decide ((x2.1.getD 0 0)<1) then some (0,[],[])
     else bif zE 0 x2.1.length then (bif decide ((x2.1.getD 0 0)>4611686018427387904) then some (0,[],[])
      else bif zE 0 x2.1.length then (bif zE 0 x1.1.length then (bif decide (8 ≤ ((x1.1.getD 0 []).length : Int)) then (bif decide (1≤(x1.1.length:Int)) then some ((x2.1.getD 0 0),(List.drop 8 (x1.1.getD 0 [])),(yB x1.1 1 (x1.1.length-1)))
         else none)
        else none)
       else none)
      else none)
     else none)
    else none)
   else none)
  else none)
 else none
def Rs (k:Nat)(a0:vD):Option (Int×Int×(List Int)×(List (List Int))×Bool):=
 (J9 k a0 0).bind fun x0=>
 bif decide (x0.1 > 0) then ((J9 k a0 1).bind fun x1=>
  bif decide (x1.1>x0.1) then some (x1.1,1,x1.2.1,x1.2.2,true)
  else some (x0.1,0,x0.2.1,x0.2.2,true))
 else(J9 k a0 1).bind fun x2=>
 bif decide (x2.1>0) then some (x2.1,1,x2.2.1,x2.2.2,true)
 else some (0,0,[],[],false)
def EL (k:Nat)(a0:Int):Option Bool:=
 bif decide (a0≥0) then some (decide (a0≤6))
 else some false
abbrev Ru:Type:=Int→Int→Int→List Int→Option (List Int)
def Av (k:Nat)(rec:Ru)(s1 aP bI:Int)(r0:List Int):Option (List Int):=
 bif decide (bI < aP) then (bif zE bI r0.length then(rec s1 aP (zA (bI+1)) (r0.set bI.toNat s1))
  else none)
 else some r0
def EM (k:Nat):Nat→Ru
 |0,_,_,_,_=>none
 |n+1,s1,aP,bI,r0=>Av k (EM k n) s1 aP bI r0
def vq (k:Nat)(a0 a1:Int):Option (List Int):=
 (EL k a0).bind fun x0=>
 bif !x0 then some []
 else bif lL a0 a0 8 then ((EM k k a1 ((List.replicate a0.toNat (0:Int)).length:Int) 0 (List.replicate a0.toNat (0:Int))).bind fun z=>
  some z)
 else none
abbrev Rx:Type:=Int→Int→Int→Int→List (List Int)→Option (List (List Int))
def Ax (k:Nat)(rec:Rx)(s0 s1 aP bI:Int)(m0:List (List Int)):Option (List (List Int)):=
 bif decide (bI < aP) then ((vq k s0 s1).bind fun x1=>
  bif zE bI m0.length then(rec s0 s1 aP (zA (bI+1)) (m0.set bI.toNat x1))
  else none)
 else some m0
def EN (k:Nat):Nat→Rx
 |0,_,_,_,_,_=>none
 |n+1,s0,s1,aP,bI,m0=>Ax k (EN k n) s0 s1 aP bI m0
def Aw (k:Nat)(a0 a1:Int):Option (List (List Int)):=
 (EL k a0).bind fun x0=>
 bif !x0 then some []
 else bif lL a0 a0 24 then ((EN k k a0 a1 ((List.replicate a0.toNat ([]:List Int)).length:Int) 0 (List.replicate a0.toNat ([]:List Int))).bind fun z=>
  some z)
 else none
abbrev Kb:Type:=Int×vV×jU×jU×(List zR)×(List (List Int))×(List Int)×(List (List Int))×(List Int)
abbrev RA:Type:=Int→List yV→Int→Int→vV→jU→jU→List zR→List (List Int)→List Int→List (List Int)→List Int→Option Kb
def yBj (k:Nat)(rec:RA)(s3:Int)(cL:List yV)(s21 Ma:Int)(b0:vV)(b1 b2:jU)(r3:List zR)(m4:List (List Int))(r5:List Int)(m6:List (List Int))(r7:List Int):Option Kb:=
 bif decide (Ma < s21) then (bif zE Ma cL.length then (bif zX (r7.length+1) 8 then(rec s3 cL s21 (zA (Ma+1)) b0 b1 b2 r3 m4 r5 m6 (r7++[(cL.getD Ma.toNat (0,0)).1]))
   else none)
  else none)
 else some (s3,b0,b1,b2,r3,m4,r5,m6,r7)
def RB (k:Nat):Nat→RA:=vC (fun _ _ _ _ _ _ _ _ _ _ _ _=>none) (yBj k)
abbrev Ke:Type:=jU×jU×(List zR)×(List (List Int))×(List Int)×(List (List Int))×(List Int)×(List (List Int))
abbrev RD:Type:=Int→Int→vV→jU→jU→List zR→List (List Int)→List Int→List (List Int)→List Int→List (List Int)→Option Ke
def yHw (k:Nat)(rec:RD)(xl pw:Int)(b0:vV)(b1 b2:jU)(r3:List zR)(m4:List (List Int))(r5:List Int)(m6:List (List Int))(r7:List Int)(m8:List (List Int)):Option Ke:=
 bif decide (pw < xl) then (bif lL (b0.2.1.length : Int) (b0.2.1.length : Int) 8 then (bif zX (m8.length+1) 24 then(rec xl (zA (pw+1)) b0 b1 b2 r3 m4 r5 m6 r7 (m8++[(List.replicate b0.2.1.length (0:Int))]))
   else none)
  else none)
 else some (b1,b2,r3,m4,r5,m6,r7,m8)
def RE (k:Nat):Nat→RD:=vC (fun _ _ _ _ _ _ _ _ _ _ _=>none) (yHw k)
def nL (k:Nat)(a0:vV):Option wI:=
 bif lL a0.1 a0.1 24 then ((Aw k a0.1 (-1)).bind fun x0=>
  (vq k a0.1 (-1)).bind fun x1=>
  (Aw k a0.1 0).bind fun x2=>
  (RB k k a0.1 a0.2.1 (a0.2.1.length:Int) 0 a0 (0,0,false) (0,0,false) (List.replicate a0.1.toNat ((0,0,0):Int×Int×Int)) x0 x1 x2 []).bind fun z=>
  (RE k k z.1 0 z.2.1 z.2.2.1 z.2.2.2.1 z.2.2.2.2.1 z.2.2.2.2.2.1 z.2.2.2.2.2.2.1 z.2.2.2.2.2.2.2.1 z.2.2.2.2.2.2.2.2 []).bind fun z1=>
  some (z1.2.1.1,(yWv z1 ([],[],z1.2.1.2))))
 else none
def JP (k:Nat)(a0:Bool):Option Int:=
 bif a0 then some 1
 else some 0
abbrev Kh:Type:=(List Int)×Int×Int×(List Int)
abbrev RI:Type:=Int→Int→List Int→Int→Int→List Int→Option Kh
def JN (k:Nat)(rec:RI)(s5 s6:Int)(bC:List Int)(bx aP:Int)(r0:List Int):Option Kh:=
 bif decide (s6 ≥ 0) then (bif !(decide ((zA (8 * s6)) < 0)) then (bif zX (r0.length+1) 1 then(rec s5 (zA (s6-1)) bC bx aP (r0++[(IntKind.wrap .u8 ((shr .i64 s5 (zA (8*s6)))))]))
   else none)
  else none)
 else some (bC,bx,aP,r0)
def tD (k:Nat):Nat→RI:=vC (fun _ _ _ _ _ _=>none) (JN k)
abbrev RK:Type:=List Int→Int→Int→List Int→Option (List Int)
def BY (k:Nat)(rec:RK)(bC:List Int)(bx aP:Int)(r0:List Int):Option (List Int):=
 bif decide (aP < bx) then (bif zE aP bC.length then ((tD k k (bC.getD aP.toNat 0) 7 bC bx aP r0).bind fun z=>
   rec z.1 z.2.1 (zA (z.2.2.1+1)) z.2.2.2)
  else none)
 else some r0
def w5 (k:Nat):Nat→RK:=vC (fun _ _ _ _=>none) (BY k)
def tE (k:Nat)(a0:List Int):Option (List Int):=
 bif lL 0 (zA (8 * (a0.length : Int))) 1 then ((w5 k k a0 (a0.length:Int) 0 []).bind fun z1=>
  some z1)
 else none
def JO (k:Nat)(a0:List Int):Option (List Int):=
 (tE k [(a0.length:Int)]).bind fun x0=>
 (tE k a0).bind fun x1=>
 bif zX (x0.length+x1.length) 1 then some (x0++x1)
 else none
abbrev RP:Type:=List (List Int)→Int→Int→List Int→Option (List Int)
def B1 (k:Nat)(rec:RP)(s6:List (List Int))(s7 s8:Int)(r0:List Int):Option (List Int):=
 bif decide (s8 < s7) then (bif zE s8 s6.length then ((JO k (s6.getD s8.toNat [])).bind fun x0=>
   bif zX (r0.length+x0.length) 1 then(rec s6 s7 (zA (s8+1)) (r0++x0))
   else none)
  else none)
 else some r0
def BZ (k:Nat):Nat→RP:=vC (fun _ _ _ _=>none) (B1 k)
def FN (k:Nat)(a0:List (List Int)):Option (List Int):=
 (BZ k k a0 (a0.length:Int) 0 []).bind fun z=>
 some z
abbrev Kj:Type:=wI×Gm×(List (List Int))
abbrev RR:Type:=List zR→Int→Int→wI→Gm→List (List Int)→Option Kj
def B4 (k:Nat)(rec:RR)(jx:List zR)(fa gu:Int)(b0:wI)(b1:Gm)(r2:List (List Int)):Option Kj:=
 bif decide (gu < fa) then (bif zE gu jx.length then (bif zX (r2.length + 1) 24 then (let y0:List (List Int):=(r2++[[(jx.getD gu.toNat (0,0,0)).1,(jx.getD gu.toNat (0,0,0)).2.1,(jx.getD gu.toNat (0,0,0)).2.2]])
    rec jx fa (zA (gu+1)) b0 b1 y0)
   else none)
  else none)
 else some (b0,b1,r2)
def w7 (k:Nat):Nat→RR:=vC (fun _ _ _ _ _ _=>none) (B4 k)
abbrev Kl:Type:=wI×(List (List Int))
abbrev RT:Type:=List zF→Int→Int→wI→List (List Int)→Option Kl
def B5 (k:Nat)(rec:RT)(rM:List zF)(s80 px:Int)(b0:wI)(r1:List (List Int)):Option Kl:=
 bif decide (px < s80) then (bif zE px rM.length then (bif zX (r1.length + 1) 24 then (let y3:List (List Int):=(r1++[[(rM.getD px.toNat (0,0,0,0,0,0,0)).1,(rM.getD px.toNat (0,0,0,0,0,0,0)).2.1,(rM.getD px.toNat (0,0,0,0,0,0,0)).2.2.1,(rM.getD px.toNat (0,0,0,0,0,0,0)).2.2.2.1,(rM.getD px.toNat (0,0,0,0,0,0,0)).2.2.2.2.1,(rM.getD px.toNat (0,0,0,0,0,0,0)).2.2.2.2.2.1,(rM.getD px.toNat (0,0,0,0,0,0,0)).2.2.2.2.2.2]])
    rec rM s80 (zA (px+1)) b0 y3)
   else none)
  else none)
 else some (b0,r1)
def w8 (k:Nat):Nat→RT:=vC (fun _ _ _ _ _=>none) (B5 k)
def jo (k:Nat)(a0:wI):Option (List Int):=
 (JP k a0.2.2.2.2.2.2.2.2.2.2).bind fun x0=>
 (w7 k k a0.2.1 (a0.2.1.length:Int) 0 a0 (LC a0) [[a0.1,a0.2.2.2.2.2.2.2.2.2.1,x0,(a0.2.1.length:Int),(a0.2.2.1.length:Int),(a0.2.2.2.1.length:Int),(a0.2.2.2.2.1.length:Int),(a0.2.2.2.2.2.2.1.length:Int),(a0.2.2.2.2.2.2.2.1.length:Int)]]).bind fun z=>
 bif zX (z.2.2.length + z.2.1.2.1.length) 24 then (bif zX ((z.2.2 ++ z.2.1.2.1).length + 1) 24 then (let y1:List (List Int):=((z.2.2++z.2.1.2.1)++[z.2.1.2.2.1])
   bif zX (y1.length + z.2.1.2.2.2.length) 24 then (bif zX ((y1 ++ z.2.1.2.2.2).length + 1) 24 then (let y2:List (List Int):=((y1++z.2.1.2.2.2)++[z.1.2.2.2.2.2.1])
     bif zX (y2.length + z.1.2.2.2.2.2.2.1.length) 24 then ((w8 k k z.1.2.2.2.2.2.2.2.1 (z.1.2.2.2.2.2.2.2.1.length:Int) 0 z.1 (y2++z.1.2.2.2.2.2.2.1)).bind fun z1=>
      bif zX (z1.2.length + 1) 24 then (let y4:List (List Int):=(z1.2++[z1.1.2.2.2.2.2.2.2.2.1])
       (FN k y4).bind fun x1=>
       some x1)
      else none)
     else none)
    else none)
   else none)
  else none)
 else none
def FL (k:Nat)(a0:List Int):Option jv:=
 bif decide ((a0.length:Int)>60000) then some ([],false)
 else bif zX (2+a0.length) 1 then some (([(IntKind.wrap .u8 ((shr .i64 (a0.length:Int) 8))),(IntKind.wrap .u8 ((a0.length:Int)))]++a0),true)
 else none
def QR (k:Nat)(a0:vD):Option Int:=
 some a0.1
def Ko (k:Nat)(a0:vD):Option Bool:=
 some a0.2.2.2.2.2.2.2.2.1
def F4 (k:Nat)(a0:vD):Option (Bool×vD):=
 bif !a0.2.2.2.2.2.2.2.1 then some (false,(Wh a0 (zA (a0.2.2.2.2.2.2.2.2.2+1))))
 else bif decide (a0.2.2.2.2.2.2.2.2.2<a0.2.2.2.2.2.1) then some (false,(Wh a0 (zA (a0.2.2.2.2.2.2.2.2.2+1))))
 else bif (decide (0 ≤ (zA (a0.2.2.1 + (wC true (wC false a0.2.2.2.2.2.2.1 0) (zA ((a0.2.1.length : Int) - a0.2.2.1))))))) && (decide ((zA (a0.2.2.1 + (wC true (wC false a0.2.2.2.2.2.2.1 0) (zA ((a0.2.1.length : Int) - a0.2.2.1))))) ≤ (a0.2.1.length : Int))) then (bif (decide (0≤(zA (a0.2.2.2.2.1+(wC true (zA ((wC false a0.2.2.2.2.2.2.1 0)-(wC true (wC false a0.2.2.2.2.2.2.1 0) (zA ((a0.2.1.length:Int)-a0.2.2.1))))) (zA ((a0.2.2.2.1.length:Int)-a0.2.2.2.2.1)))))))&&(decide ((zA (a0.2.2.2.2.1+(wC true (zA ((wC false a0.2.2.2.2.2.2.1 0)-(wC true (wC false a0.2.2.2.2.2.2.1 0) (zA ((a0.2.1.length:Int)-a0.2.2.1))))) (zA ((a0.2.2.2.1.length:Int)-a0.2.2.2.2.1)))))≤(a0.2.2.2.1.length:Int))) then some (true,a0.1,(List.take ((zA (a0.2.2.1+(wC true (wC false a0.2.2.2.2.2.2.1 0) (zA ((a0.2.1.length:Int)-a0.2.2.1))))).toNat-0) a0.2.1),(zA (a0.2.2.1+(wC true (wC false a0.2.2.2.2.2.2.1 0) (zA ((a0.2.1.length:Int)-a0.2.2.1))))),(List.take ((zA (a0.2.2.2.2.1+(wC true (zA ((wC false a0.2.2.2.2.2.2.1 0)-(wC true (wC false a0.2.2.2.2.2.2.1 0) (zA ((a0.2.1.length:Int)-a0.2.2.1))))) (zA ((a0.2.2.2.1.length:Int)-a0.2.2.2.2.1))))).toNat-0) a0.2.2.2.1),(zA (a0.2.2.2.2.1+(wC true (zA ((wC false a0.2.2.2.2.2.2.1 0)-(wC true (wC false a0.2.2.2.2.2.2.1 0) (zA ((a0.2.1.length:Int)-a0.2.2.1))))) (zA ((a0.2.2.2.1.length:Int)-a0.2.2.2.2.1))))),a0.2.2.2.2.2.1,a0.2.2.2.2.2.2.1,a0.2.2.2.2.2.2.2.1,true,a0.2.2.2.2.2.2.2.2.2)
  else none)
 else none
def JL (k:Nat)(a0:vD)(a1:Int):Option (Int×vD):=
 (Ko k a0).bind fun x0=>
 bif x0 then some (11,a0)
 else(J6 k a1).bind fun x1=>
 bif !x1 then some (1,a0)
 else(F4 k a0).bind fun x2=>
 bif x2.1 then some (11,x2.2)
 else bif decide (a1 = 0) then (bif decide (a1=0) then some (0,x2.2.1,[],0,x2.2.2.2.2)
  else bif decide (a1=1) then some (0,x2.2.1,[],x2.2.2.2.1,x2.2.2.2.2.1,0,x2.2.2.2.2.2.2)
  else none)
 else bif decide (a1 = 1) then (bif decide (a1=0) then some (0,x2.2.1,x2.2.2.1,0,[],x2.2.2.2.2.2)
  else bif decide (a1=1) then some (0,x2.2.1,x2.2.2.1,x2.2.2.2.1,[],0,x2.2.2.2.2.2.2)
  else none)
 else none
def rE (k:Nat)(a0:vD)(a1:Int)(a2:List Int):Option (Int×vD):=
 (Ko k a0).bind fun x0=>
 bif x0 then some (11,a0)
 else(J6 k a1).bind fun x1=>
 bif !x1 then some (1,a0)
 else bif decide (a1 = 0) then (bif decide ((a2.length:Int)>(zA (a0.1-(a0.2.1.length:Int)))) then some (3,a0)
  else(F4 k a0).bind fun x2=>
  bif x2.1 then some (11,x2.2)
  else bif decide (a1 = 0) then (bif zX (x2.2.2.1.length+a2.length) 1 then some (0,x2.2.1,(x2.2.2.1++a2),x2.2.2.2)
   else none)
  else bif decide (a1 = 1) then (bif zX (x2.2.2.2.2.1.length+a2.length) 1 then some (0,x2.2.1,x2.2.2.1,x2.2.2.2.1,(x2.2.2.2.2.1++a2),x2.2.2.2.2.2)
   else none)
  else none)
 else bif decide (a1 = 1) then (bif decide ((a2.length:Int)>(zA (a0.1-(a0.2.2.2.1.length:Int)))) then some (3,a0)
  else(F4 k a0).bind fun x3=>
  bif x3.1 then some (11,x3.2)
  else bif decide (a1 = 0) then (bif zX (x3.2.2.1.length+a2.length) 1 then some (0,x3.2.1,(x3.2.2.1++a2),x3.2.2.2)
   else none)
  else bif decide (a1 = 1) then (bif zX (x3.2.2.2.2.1.length+a2.length) 1 then some (0,x3.2.1,x3.2.2.1,x3.2.2.2.1,(x3.2.2.2.2.1++a2),x3.2.2.2.2.2)
   else none)
  else none)
 else none
def BX (k:Nat)(a0:vD):Option (Int×vD):=
 (Ko k a0).bind fun x0=>
 bif x0 then some (11,a0)
 else(F4 k a0).bind fun x1=>
 bif x1.1 then some (11,x1.2)
 else some (0,x1.2.1,x1.2.2.1,(x1.2.2.1.length:Int),x1.2.2.2.2.1,(x1.2.2.2.2.1.length:Int),x1.2.2.2.2.2.2)
def JR (k:Nat)(a0:vD)(a1 a2:Int)(a3:List Int):Option (Int×vD):=
 (tE k [a2]).bind fun x0=>
 bif zX (x0.length + a3.length) 1 then ((FL k (x0++a3)).bind fun x1=>
  bif !x1.2 then some (10,a0)
  else bif decide (a2>4611686018427387904) then some (10,a0)
  else(QR k a0).bind fun x2=>
  bif decide ((x1.1.length:Int)>x2) then some (10,a0)
  else(JL k a0 a1).bind fun x3=>
  bif !(decide (x3.1=0)) then some (x3.1,x3.2)
  else(rE k x3.2 a1 x1.1).bind fun x4=>
  bif !(decide (x4.1=0)) then some (x4.1,x4.2)
  else(BX k x4.2).bind fun x5=>
  some (x5.1,x5.2))
 else none
def qSm (k:Nat)(a0:vD)(a1:List Int):Option (((List Int)×(List (List Int))×Int×vD×jT)⊕((List Int)×(List (List Int))×Int×vD)):=
 (Rs k a0).bind fun x0=>
 bif x0.2.2.2.2 then some (.inl (x0.2.2.1,x0.2.2.2.1,0,a0,x0.2.1,x0.1,(x0.2.2.2.1.length:Int),true))
 else(JR k a0 0 1 a1).bind fun x1=>
 bif !(decide (x1.1=0)) then some (.inr ([],[],x1.1,x1.2))
 else bif zX (0+a1.length) 1 then some (.inl (a1,[],0,x1.2,0,1,0,false))
 else none
def yEe (k:Nat)(a0:List Int):Option ((List Int)×(List Int)×Bool):=
 bif decide ((a0.length:Int)<8) then some ([],[],false)
 else bif decide (8 ≤ (a0.length : Int)) then ((qw k (List.take 8 a0)).bind fun x0=>
  bif decide (8 ≤ (a0.length : Int)) then (bif zE 0 x0.1.length then (bif decide ((x0.1.getD 0 0)<0) then some ([],[],false)
    else bif zE 0 x0.1.length then (bif decide ((x0.1.getD 0 0)>(zA (Int.tdiv ((List.drop 8 a0).length:Int) 8))) then some ([],[],false)
     else bif zE 0 x0.1.length then (bif (decide (0 ≤ (zA (8 * (x0.1.getD 0 0))))) && (decide ((zA (8 * (x0.1.getD 0 0))) ≤ ((List.drop 8 a0).length : Int))) then ((qw k (List.take (zA (8*(x0.1.getD 0 0))).toNat (List.drop 8 a0))).bind fun x1=>
       bif (decide (0≤(zA (8*(x0.1.getD 0 0)))))&&(decide ((zA (8*(x0.1.getD 0 0)))≤((List.drop 8 a0).length:Int))) then some (x1.1,(List.drop (zA (8*(x0.1.getD 0 0))).toNat (List.drop 8 a0)),true)
       else none)
      else none)
     else none)
    else none)
   else none)
  else none)
 else none
def Cl (k:Nat)(a0:jv):Option ((List Int)×jv):=
 (yEe k a0.1).bind fun x0=>
 bif a0.2 then some (x0.1,x0.2.1,true)
 else some (x0.1,x0.2.1,(!x0.2.2))
def Ks (k:Nat)(a0:jv)(a1:Int):Option ((List Int)×jv):=
 (Cl k a0).bind fun x0=>
 bif !(decide ((x0.1.length : Int) = a1)) then (bif lL a1 a1 8 then some ((List.replicate a1.toNat (0:Int)),x0.2.1,true)
  else none)
 else some (x0.1,x0.2)
abbrev Kt:Type:=jv×(List (List Int))
abbrev R2:Type:=Int→jv→List (List Int)→Option Kt
def yM9 (k:Nat)(rec:R2)(s1:Int)(b0:jv)(r1:List (List Int)):Option Kt:=
 bif decide (s1 > 0) then (bif !b0.2 then ((Cl k b0).bind fun x0=>
   bif zX (r1.length+1) 24 then(rec (zA (s1-1)) x0.2 (r1++[x0.1]))
   else none)
  else some (b0,r1))
 else some (b0,r1)
def R4 (k:Nat):Nat→R2:=vC (fun _ _ _=>none) (yM9 k)
def Ku (k:Nat)(a0:jv)(a1:Int):Option ((List (List Int))×jv):=
 (R4 k k a1 a0 []).bind fun z=>
 some (z.2,z.1)
def qUz (k:Nat)(a0 a1:List Int):Option Bool:=
 some (CG a0 a1)
abbrev Kv:Type:=(List Int)×jU×jv×(List Int)×jU×(List zR)
abbrev R5:Type:=List Int→Int→jU→jv→List Int→jU→List zR→Option Kv
def yAr (k:Nat)(rec:R5)(s0:List Int)(s7:Int)(b0:jU)(b1:jv)(r2:List Int)(b3:jU)(r4:List zR):Option Kv:=
 bif decide (s7 > 0) then (bif !b1.2 then ((Ks k b1 3).bind fun x1=>
   bif zE 0 x1.1.length then (bif zE 1 x1.1.length then (bif zE 2 x1.1.length then (bif zX (r4.length + 1) 24 then (let y0:List zR:=(r4++[((x1.1.getD 0 0),(x1.1.getD 1 0),(x1.1.getD 2 0))])
       rec s0 (zA (s7-1)) b0 x1.2 r2 b3 y0)
      else none)
     else none)
    else none)
   else none)
  else some (s0,b0,b1,r2,b3,r4))
 else some (s0,b0,b1,r2,b3,r4)
def R6 (k:Nat):Nat→R5:=vC (fun _ _ _ _ _ _ _=>none) (yAr k)
abbrev Kx:Type:=(List Int)×jU×jv×jU×(List zR)×(List (List Int))×(List Int)×(List (List Int))×(List Int)×(List (List Int))×(List zF)
abbrev R7:Type:=List Int→Int→jU→jv→jU→List zR→List (List Int)→List Int→List (List Int)→List Int→List (List Int)→List zF→Option Kx
def yOd (k:Nat)(rec:R7)(s0:List Int)(s9:Int)(b0:jU)(b1:jv)(b2:jU)(r3:List zR)(r4:List (List Int))(r5:List Int)(r6:List (List Int))(r7:List Int)(r8:List (List Int))(r9:List zF):Option Kx:=
 bif decide (s9 > 0) then (bif !b1.2 then ((Ks k b1 7).bind fun x7=>
   bif zE 0 x7.1.length then (bif zE 1 x7.1.length then (bif zE 2 x7.1.length then (bif zE 3 x7.1.length then (bif zE 4 x7.1.length then (bif zE 5 x7.1.length then (bif zE 6 x7.1.length then (bif zX (r9.length + 1) 56 then (let y1:List zF:=(r9++[((x7.1.getD 0 0),(x7.1.getD 1 0),(x7.1.getD 2 0),(x7.1.getD 3 0),(x7.1.getD 4 0),(x7.1.getD 5 0),(x7.1.getD 6 0))])
           rec s0 (zA (s9-1)) b0 x7.2 b2 r3 r4 r5 r6 r7 r8 y1)
          else none)
         else none)
        else none)
       else none)
      else none)
     else none)
    else none)
   else none)
  else some (s0,b0,b1,b2,r3,r4,r5,r6,r7,r8,r9))
 else some (s0,b0,b1,b2,r3,r4,r5,r6,r7,r8,r9)
def R8 (k:Nat):Nat→R7:=vC (fun _ _ _ _ _ _ _ _ _ _ _ _=>none) (yOd k)
def Kz (k:Nat)(a0:List Int):Option (wI×Bool):=
 (Ks k (a0,false) 9).bind fun x0=>
 bif zE 0 x0.1.length then (bif zE 1 x0.1.length then (bif zE 2 x0.1.length then (bif zE 3 x0.1.length then ((R6 k k a0 (x0.1.getD 3 0) (0,0,false) x0.2 x0.1 ((x0.1.getD 0 0),(x0.1.getD 1 0),(decide ((x0.1.getD 2 0)=1))) []).bind fun z=>
     bif zE 4 z.2.2.2.1.length then ((Ku k z.2.2.1 (z.2.2.2.1.getD 4 0)).bind fun x2=>
      (Cl k x2.2).bind fun x3=>
      bif zE 6 z.2.2.2.1.length then ((Ku k x3.2 (z.2.2.2.1.getD 6 0)).bind fun x4=>
       (Cl k x4.2).bind fun x5=>
       bif zE 7 z.2.2.2.1.length then ((Ku k x5.2 (z.2.2.2.1.getD 7 0)).bind fun x6=>
        bif zE 8 z.2.2.2.1.length then ((R8 k k z.1 (z.2.2.2.1.getD 8 0) z.2.1 x6.2 z.2.2.2.2.1 z.2.2.2.2.2 x2.1 x3.1 x4.1 x5.1 x6.1 []).bind fun z1=>
         (Cl k z1.2.2.1).bind fun x8=>
         bif x8.2.2 then some ((0,[],[],[],[],[],[],[],[],0,false),false)
         else(jo k (z1.2.2.2.1.1,(Ur z1 (x8.1,z1.2.2.2.1.2)))).bind fun x9=>
         (qUz k x9 z1.1).bind fun eK=>
         bif !eK then some ((0,[],[],[],[],[],[],[],[],0,false),false)
         else some ((z1.2.2.2.1.1,(Ur z1 (x8.1,z1.2.2.2.1.2))),true))
        else none)
       else none)
      else none)
     else none)
    else none)
   else none)
  else none)
 else none
def qx (k:Nat)(a0:Int):Option Int:=
 bif decide (a0=9) then some 0
 else bif decide (a0=13) then some 0
 else bif decide (a0=14) then some 0
 else bif decide (a0=15) then some 0
 else bif decide (a0=2) then some 1
 else bif decide (a0=6) then some 1
 else bif decide (a0=7) then some 1
 else bif decide (a0=16) then some 1
 else bif decide (a0=19) then some 1
 else bif decide (a0=20) then some 1
 else bif decide (a0=21) then some 1
 else bif decide (a0=22) then some 1
 else bif decide (a0=23) then some 1
 else bif decide (a0=3) then some 2
 else bif decide (a0=4) then some 2
 else bif decide (a0=5) then some 2
 else bif decide (a0=8) then some 2
 else bif decide (a0=10) then some 2
 else bif decide (a0=11) then some 2
 else bif decide (a0=12) then some 2
 else bif decide (a0=18) then some 4
 else bif decide (a0=17) then some 5
 else bif decide (a0=1) then some 6
 else some (-1)
def lQ (k:Nat)(a0:List Int):Option (zF×Int):=
 bif decide ((a0.length:Int)=0) then some ((0,0,0,0,0,0,0),2)
 else bif decide (1 ≤ (a0.length : Int)) then ((qw k (List.drop 1 a0)).bind fun x0=>
  bif !(decide (x0.2=0)) then some ((0,0,0,0,0,0,0),2)
  else bif zE 0 a0.length then ((qx k (zA ((a0.getD 0 0)))).bind fun x1=>
   bif !(decide ((x0.1.length:Int)=x1)) then some ((0,0,0,0,0,0,0),2)
   else bif zE 0 a0.length then some (((zA ((a0.getD 0 0))),(bif (Nat.blt 0 x0.1.length) then(x0.1.getD 0 0) else 0),(bif (Nat.blt 1 x0.1.length) then(x0.1.getD 1 0) else 0),(bif (Nat.blt 2 x0.1.length) then(x0.1.getD 2 0) else 0),(bif (Nat.blt 3 x0.1.length) then(x0.1.getD 3 0) else 0),(bif (Nat.blt 4 x0.1.length) then(x0.1.getD 4 0) else 0),(bif (Nat.blt 5 x0.1.length) then(x0.1.getD 5 0) else 0)),0)
   else none)
  else none)
 else none
def Se (k:Nat)(a0:List Int):Option (qA×Int):=
 bif decide ((a0.length:Int)<8) then some ((0,0,0,0,0,0,0,0),2)
 else bif decide (8 ≤ (a0.length : Int)) then ((qw k (List.take 8 a0)).bind fun x0=>
  bif decide (8 ≤ (a0.length : Int)) then ((lQ k (List.drop 8 a0)).bind fun x1=>
   bif !(decide (x1.2=0)) then some ((0,0,0,0,0,0,0,0),2)
   else bif zE 0 x0.1.length then some (((x0.1.getD 0 0),x1.1),0)
   else none)
  else none)
 else none
def JB (k:Nat)(a0:Int):Option Bool:=
 bif decide (a0≥10) then some (decide (a0≤14))
 else some false
def FF (k:Nat)(a0:Int):Option Bool:=
 bif decide (a0≥1) then some (decide (a0≤14))
 else some false
abbrev Sf:Type:=List Int→Int→Int→Option (Unit⊕Bool)
def JA (k:Nat)(rec:Sf)(aP:List Int)(bI aY:Int):Option (Unit⊕Bool):=
 bif decide (aY < bI) then (bif zE aY aP.length then (bif !(decide ((aP.getD aY.toNat 0)=0)) then some (.inr false)
   else rec aP bI (zA (aY+1)))
  else none)
 else some (.inl ())
def FE (k:Nat):Nat→Sf:=vC (fun _ _ _=>none) (JA k)
def nK (k:Nat)(a0:zF):Option Bool:=
 (qx k a0.1).bind fun x0=>
 bif decide (x0<0) then some false
 else bif (decide (0 ≤ x0)) && (decide (x0 ≤ 6)) then ((FE k k (yB [a0.2.1,a0.2.2.1,a0.2.2.2.1,a0.2.2.2.2.1,a0.2.2.2.2.2.1,a0.2.2.2.2.2.2] x0.toNat (6-x0.toNat)) ((yB [a0.2.1,a0.2.2.1,a0.2.2.2.1,a0.2.2.2.2.1,a0.2.2.2.2.2.1,a0.2.2.2.2.2.2] x0.toNat (6-x0.toNat)).length:Int) 0).bind fun z=>
  match z with
  |.inl z1=>some true
  |.inr z2=>some z2)
 else none
def tC (k:Nat)(a0:vV)(a1:wI)(a2:qA):Option Int:=
 (JB k a2.2.1).bind fun x0=>
 bif decide (a2.1 ≥ 0) then ((FF k a2.2.1).bind fun x1=>
  bif !x1 then some 5
  else(nK k a2.2).bind fun x2=>
  bif !x2 then some 5
  else bif x0 then (bif !(decide (a2.1=(-1))) then some 5
   else bif !x0 then (bif !(decide (a2.1<a0.1)) then some 5
    else bif a1.2.2.2.2.2.2.2.2.2.2 then (bif !(decide (a2.2.1=9)) then some 7
     else some 0)
    else some 0)
   else bif a1.2.2.2.2.2.2.2.2.2.2 then (bif !(decide (a2.2.1=9)) then some 7
    else some 0)
   else some 0)
  else bif !x0 then (bif !(decide (a2.1<a0.1)) then some 5
   else bif a1.2.2.2.2.2.2.2.2.2.2 then (bif !(decide (a2.2.1=9)) then some 7
    else some 0)
   else some 0)
  else bif a1.2.2.2.2.2.2.2.2.2.2 then (bif !(decide (a2.2.1=9)) then some 7
   else some 0)
  else some 0)
 else(FF k a2.2.1).bind fun x3=>
 bif !x3 then some 5
 else(nK k a2.2).bind fun x4=>
 bif !x4 then some 5
 else bif x0 then (bif !(decide (a2.1=(-1))) then some 5
  else bif !x0 then some 5
  else bif a1.2.2.2.2.2.2.2.2.2.2 then (bif !(decide (a2.2.1=9)) then some 7
   else some 0)
  else some 0)
 else bif !x0 then some 5
 else bif a1.2.2.2.2.2.2.2.2.2.2 then (bif !(decide (a2.2.1=9)) then some 7
  else some 0)
 else some 0
def Qt (k:Nat)(cS ay bF aH aG aT bg a1:Int):Option Bool:=
 some (decide (ay=a1))
abbrev KC:Type:=List zF
abbrev Si:Type:=List zF→Int→Int→Int→List zF→Option KC
def Bp (k:Nat)(rec:Si)(s8:List zF)(s9 aC ab:Int)(r1:List zF):Option KC:=
 bif decide (aC < s9) then (bif zE aC s8.length then ((Qt k (s8.getD aC.toNat (0,0,0,0,0,0,0)).1 (s8.getD aC.toNat (0,0,0,0,0,0,0)).2.1 (s8.getD aC.toNat (0,0,0,0,0,0,0)).2.2.1 (s8.getD aC.toNat (0,0,0,0,0,0,0)).2.2.2.1 (s8.getD aC.toNat (0,0,0,0,0,0,0)).2.2.2.2.1 (s8.getD aC.toNat (0,0,0,0,0,0,0)).2.2.2.2.2.1 (s8.getD aC.toNat (0,0,0,0,0,0,0)).2.2.2.2.2.2 ab).bind fun x0=>
   bif x0 then (bif zX (r1.length + 1) 56 then (let y0:List zF:=(r1++[(s8.getD aC.toNat (0,0,0,0,0,0,0))])
     rec s8 s9 (zA (aC+1)) ab y0)
    else none)
   else rec s8 s9 (zA (aC+1)) ab r1)
  else none)
 else some r1
def Fk (k:Nat):Nat→Si
 |0,_,_,_,_,_=>none
 |n+1,s8,s9,aC,ab,r1=>Bp k (Fk k n) s8 s9 aC ab r1
def Qs (k:Nat)(a0:List zF)(cT:Int):Option (List zF):=
 (Fk k k a0 (a0.length:Int) 0 cT []).bind fun z=>
 some z
def Fj (k:Nat)(a0:List zF)(a1:Int):Option (List zF):=
 (Qs k a0 a1).bind fun x0=>
 some x0
def qTq (k:Nat)(a0:(Int×Int×Int×Int×Int×Int×Bool×Int))(a1:Int)(a2:List Int):Option wP:=
 some (a0.1,[],(mG a0 ([],[],[],[],[],[],[],[],a0.2.2.2.2.2.1,a0.2.2.2.2.2.2.1,a0.2.2.2.2.2.2.2,[(a0.2.2.2.2.2.2.2,a1,(bif (Nat.blt 0 a2.length) then(a2.getD 0 0) else 0),(bif (Nat.blt 1 a2.length) then(a2.getD 1 0) else 0),(bif (Nat.blt 2 a2.length) then(a2.getD 2 0) else 0),(bif (Nat.blt 3 a2.length) then(a2.getD 3 0) else 0),(bif (Nat.blt 4 a2.length) then(a2.getD 4 0) else 0),(bif (Nat.blt 5 a2.length) then(a2.getD 5 0) else 0))])))
def FG (k:Nat)(a0:wI)(a1:Int):Option (List qA):=
 bif zE a1 a0.2.1.length then ((Fj k a0.2.2.2.2.2.2.2.1 a1).bind fun x0=>
  (qTq k (0,0,0,0,0,0,false,a1) 17 [(a0.2.1.getD a1.toNat (0,0,0)).1,(a0.2.1.getD a1.toNat (0,0,0)).2.1,(a0.2.1.getD a1.toNat (0,0,0)).2.2,(x0.length:Int),a0.1]).bind fun x1=>
  some x1.2.2.2.2.2.2.2.2.2.2.2.2.2.2.2.2.2)
 else none
def JG (k:Nat)(a0:jw)(a1:Int)(a2:List Int):Option wP:=
 some (vF a0 [(a0.2.2.2.2.2.2.2.2.2.2.2.2.2.2.2.2,a1,(bif (Nat.blt 0 a2.length) then(a2.getD 0 0) else 0),(bif (Nat.blt 1 a2.length) then(a2.getD 1 0) else 0),(bif (Nat.blt 2 a2.length) then(a2.getD 2 0) else 0),(bif (Nat.blt 3 a2.length) then(a2.getD 3 0) else 0),(bif (Nat.blt 4 a2.length) then(a2.getD 4 0) else 0),(bif (Nat.blt 5 a2.length) then(a2.getD 5 0) else 0))])
def yY (k:Nat)(a0 a1 a2:Int):Option Bool:=
 bif decide (a0≥a1) then some (decide (a0≤a2))
 else some false
def Ft (k:Nat)(a0:vV)(a1:Int):Option Bool:=
 bif decide (a1≥0) then some (decide (a1<a0.1))
 else some false
def Jl (k:Nat)(a0:vV)(a1:Int)(a2:zF):Option Bool:=
 (Ft k a0 a2.2.1).bind fun x0=>
 bif x0 then ((Ft k a0 a2.2.2.1).bind fun x1=>
  bif x1 then (bif decide (a2.1 ≥ 1) then (bif decide (a2.2.2.2.1 ≥ 1) then (bif decide (a2.2.2.2.1 ≤ 1099511627776) then (bif decide (a2.2.2.2.2.1 ≥ 1) then (bif !(decide (a2.2.1 = a2.2.2.1)) then (bif decide (a2.2.2.2.2.1 ≤ 3) then (bif decide (a2.2.2.2.2.2.1 ≥ 0) then (bif decide (a2.2.2.2.2.2.1 ≤ a2.2.2.2.2.2.2) then (bif decide (a2.2.2.2.2.2.2≥a1) then some (decide (a2.2.2.2.2.2.2≤1048576))
           else some false)
          else some false)
         else some false)
        else some false)
       else some false)
      else bif !(decide (a2.2.1=a2.2.2.1)) then some false
      else some false)
     else bif !(decide (a2.2.1=a2.2.2.1)) then some false
     else some false)
    else bif !(decide (a2.2.1=a2.2.2.1)) then some false
    else some false)
   else bif !(decide (a2.2.1=a2.2.2.1)) then some false
   else some false)
  else bif decide (a2.1 ≥ 1) then (bif decide (a2.2.2.2.1 ≥ 1) then (bif decide (a2.2.2.2.1 ≤ 1099511627776) then (bif decide (a2.2.2.2.2.1≥1) then some false
     else some false)
    else some false)
   else some false)
  else some false)
 else bif decide (a2.1 ≥ 1) then (bif decide (a2.2.2.2.1 ≥ 1) then (bif decide (a2.2.2.2.1 ≤ 1099511627776) then (bif decide (a2.2.2.2.2.1≥1) then some false
    else some false)
   else some false)
  else some false)
 else some false
def wo (k:Nat)(a0:vV)(a1 a2:Int):Option Int:=
 bif decide (a1≥a0.2.2.2.1) then some 7
 else bif decide (a2 = 3) then (bif decide (a1≥a0.2.2.1) then some 7
  else some 0)
 else some 0
def BH (k:Nat)(a0:vV)(a1:Int)(a2:zF):Option Int:=
 (Jl k a0 a1 a2).bind fun x0=>
 bif !x0 then some 1
 else(wo k a0 a1 a2.2.2.2.2.1).bind fun x1=>
 some x1
def IM (k:Nat)(a0:Int):Option Bool:=
 some (!(decide (a0=a0)))
def IL (k:Nat)(a0 a1:Int):Option Bool:=
 (IM k a0).bind fun x0=>
 bif x0 then ((IM k a1).bind fun x1=>
  bif !x1 then some true
  else some (decide (a0<a1)))
 else some (decide (a0<a1))
def IP (k:Nat)(a0:Int):Option Bool:=
 some (!(decide (a0=a0)))
abbrev KE:Type:=(List Int)×Int×Int×Int
abbrev Sp:Type:=List Int→Int→Int→Int→Int→Option KE
def IN (k:Nat)(rec:Sp)(s0:List Int)(s1 s6 s7 s8:Int):Option KE:=
 bif decide (s7 < s8) then (bif zE (zA ((shr .u64 (IntKind.wrap .u64 ((zA (s7 + s8)))) 1))) s0.length then ((IL k (s0.getD (zA ((shr .u64 (IntKind.wrap .u64 ((zA (s7+s8)))) 1))).toNat 0) s1).bind fun x0=>
   bif x0 then(rec s0 s1 s6 (zA ((zA ((shr .u64 (IntKind.wrap .u64 ((zA (s7+s8)))) 1)))+1)) s8)
   else rec s0 s1 s6 s7 (zA ((shr .u64 (IntKind.wrap .u64 ((zA (s7+s8)))) 1))))
  else none)
 else some (s0,s1,s6,s7)
def E6 (k:Nat):Nat→Sp:=vC (fun _ _ _ _ _=>none) (IN k)
def A4 (k:Nat)(a0:List Int)(a1:Int):Option (Int×Bool):=
 (E6 k k a0 a1 (a0.length:Int) 0 (a0.length:Int)).bind fun z=>
 bif decide (z.2.2.2 < z.2.2.1) then (bif zE z.2.2.2 z.1.length then (bif decide ((z.1.getD z.2.2.2.toNat 0)=z.2.1) then some (z.2.2.2,true)
   else bif zE z.2.2.2 z.1.length then ((IP k (z.1.getD z.2.2.2.toNat 0)).bind fun x1=>
    bif x1 then ((IP k z.2.1).bind fun x2=>
     some (z.2.2.2,x2))
    else some (z.2.2.2,false))
   else none)
  else none)
 else some (z.2.2.2,false)
def np (k:Nat)(a0:List Int):Option (List Int):=
 bif zX (0+a0.length) 8 then some a0
 else none
abbrev yEf (k:Nat)(a0:List Int)(a1:Int)(a2:List Int):Option (List Int):=ins 8 a0 a1 a2
def A5 (k:Nat)(a0:List Int)(a1:Int):Option ((List Int)×Int):=
 (A4 k a0 a1).bind fun x0=>
 bif x0.2 then some (a0,6)
 else bif decide ((a0.length:Int)≥200) then some (a0,3)
 else(np k a0).bind fun x1=>
 (yEf k x1 x0.1 [a1]).bind fun x2=>
 some (x2,0)
def P0 (k:Nat)(cS ay bF aH aG aT bg a1:Int):Option Bool:=
 some (decide (cS=a1))
abbrev Sz:Type:=List zF→Int→Int→Int→Option (Unit⊕Int)
def AR (k:Nat)(rec:Sz)(s0:List zF)(s7 s8 ab:Int):Option (Unit⊕Int):=
 bif decide (s8 < s7) then (bif zE s8 s0.length then ((P0 k (s0.getD s8.toNat (0,0,0,0,0,0,0)).1 (s0.getD s8.toNat (0,0,0,0,0,0,0)).2.1 (s0.getD s8.toNat (0,0,0,0,0,0,0)).2.2.1 (s0.getD s8.toNat (0,0,0,0,0,0,0)).2.2.2.1 (s0.getD s8.toNat (0,0,0,0,0,0,0)).2.2.2.2.1 (s0.getD s8.toNat (0,0,0,0,0,0,0)).2.2.2.2.2.1 (s0.getD s8.toNat (0,0,0,0,0,0,0)).2.2.2.2.2.2 ab).bind fun x0=>
   bif x0 then some (.inr s8)
   else rec s0 s7 (zA (s8+1)) ab)
  else none)
 else some (.inl ())
def AQ (k:Nat):Nat→Sz
 |0,_,_,_,_=>none
 |n+1,s0,s7,s8,ab=>AR k (AQ k n) s0 s7 s8 ab
def P1 (k:Nat)(a0:List zF)(cT:Int):Option Int:=
 (AQ k k a0 (a0.length:Int) 0 cT).bind fun z=>
 match z with
 |.inl z1=>some (-1)
 |.inr z2=>some z2
def my (k:Nat)(a0:List zF)(a1:Int):Option Int:=
 (P1 k a0 a1).bind fun x0=>
 some x0
def IH (k:Nat)(a0:Int):Option Bool:=
 some (!(decide (a0=a0)))
def E1 (k:Nat)(a0 a1:Int):Option Int:=
 (IH k a0).bind fun x0=>
 (IH k a1).bind fun x1=>
 bif x0 then (bif x1 then some 0
  else some (-1))
 else bif x1 then some 1
 else bif decide (a0<a1) then some (-1)
 else bif decide (a0>a1) then some 1
 else some 0
abbrev SB:Type:=Int→List Int→Int→Int→Option (Int⊕Int)
def qUa (k:Nat)(rec:SB)(s3:Int)(s6:List Int)(s7 s8:Int):Option (Int⊕Int):=
 bif decide (s8 < s7) then (bif zE s8 s6.length then (bif !(decide ((s6.getD s8.toNat 0)=s3)) then some (.inr (s6.getD s8.toNat 0))
   else rec s3 s6 s7 (zA (s8+1)))
  else none)
 else some (.inl s3)
def AT (k:Nat):Nat→SB
 |0,_,_,_,_=>none
 |n+1,s3,s6,s7,s8=>qUa k (AT k n) s3 s6 s7 s8
def IG (k:Nat)(a0:List Int):Option Int:=
 (AT k k 0 a0 (a0.length:Int) 0).bind fun z=>
 match z with
 |.inl z1=>some z1
 |.inr z2=>some z2
def AU (k:Nat)(cS ay bF aH aG aT bg xm bP gv bQ bY gw kx:Int):Option Int:=
 (E1 k ay bP).bind fun x0=>
 (E1 k aG bY).bind fun x1=>
 (IG k [x0,x1]).bind fun x2=>
 some x2
def tj (k:Nat)(a0:List zF):Option (List zF):=
 bif zX (0+a0.length) 56 then some a0
 else none
abbrev IK (k:Nat)(a0:List zF)(a1:Int)(a2:List zF):Option (List zF):=ins 56 a0 a1 a2
abbrev KI:Type:=(List zF)×Int×zF
abbrev SG:Type:=List zF→Int→zF→Option KI
def AW (k:Nat)(rec:SG)(s0:List zF)(s6:Int)(b0:zF):Option KI:=
 bif decide (s6 < (s0.length : Int)) then (bif zE s6 s0.length then ((AU k (s0.getD s6.toNat (0,0,0,0,0,0,0)).1 (s0.getD s6.toNat (0,0,0,0,0,0,0)).2.1 (s0.getD s6.toNat (0,0,0,0,0,0,0)).2.2.1 (s0.getD s6.toNat (0,0,0,0,0,0,0)).2.2.2.1 (s0.getD s6.toNat (0,0,0,0,0,0,0)).2.2.2.2.1 (s0.getD s6.toNat (0,0,0,0,0,0,0)).2.2.2.2.2.1 (s0.getD s6.toNat (0,0,0,0,0,0,0)).2.2.2.2.2.2 b0.1 b0.2.1 b0.2.2.1 b0.2.2.2.1 b0.2.2.2.2.1 b0.2.2.2.2.2.1 b0.2.2.2.2.2.2).bind fun x1=>
   bif decide (x1≤0) then(rec s0 (zA (s6+1)) b0)
   else some (s0,s6,b0))
  else none)
 else some (s0,s6,b0)
def AV (k:Nat):Nat→SG:=vC (fun _ _ _=>none) (AW k)
def tl (k:Nat)(a0:List zF)(a1:zF):Option ((List zF)×Int):=
 (my k a0 a1.1).bind fun x0=>
 bif decide (x0≥0) then some (a0,6)
 else bif decide ((a0.length:Int)≥40) then some (a0,3)
 else(AV k k a0 0 a1).bind fun z=>
 (tj k z.1).bind fun x2=>
 (IK k x2 z.2.1 [z.2.2]).bind fun x3=>
 some (x3,0)
def Jm (k:Nat)(a0:wP)(a1:(Int×Int×Int×Int×Int×Int)):Option (Int×wP):=
 (yY k a1.2.1 0 (zA (a0.1-1))).bind fun x0=>
 bif !x0 then some (1,a0)
 else(yY k a1.2.2.2.1 1 3).bind fun x1=>
 bif !x1 then some (1,a0)
 else(BH k (vO a0) a0.2.2.2.2.2.1 (a1.1,a0.2.2.2.2.2.2.2.2.2.2.2.2.2.2.2.2.1,a1.2)).bind fun x2=>
 bif !(decide (x2=0)) then some (x2,a0)
 else(A5 k a0.2.2.2.2.2.2.2.2.2.2.2.2.2.1 a1.1).bind fun x3=>
 bif !(decide (x3.2=0)) then some (x3.2,a0)
 else(tl k a0.2.2.2.2.2.2.2.2.2.2.2.2.1 (a1.1,a0.2.2.2.2.2.2.2.2.2.2.2.2.2.2.2.2.1,a1.2)).bind fun x4=>
 bif !(decide (x4.2=0)) then some (x4.2,a0)
 else some (0,(nT a0 (x4.1,x3.1,a0.2.2.2.2.2.2.2.2.2.2.2.2.2.2)))
def SK (k:Nat)(a0:wP)(a1:Int):Option (zF×Int):=
 (my k a0.2.2.2.2.2.2.2.2.2.2.2.2.1 a1).bind fun x0=>
 bif decide (x0<0) then some ((0,0,0,0,0,0,0),4)
 else bif zE x0 a0.2.2.2.2.2.2.2.2.2.2.2.2.1.length then (bif !(decide ((a0.2.2.2.2.2.2.2.2.2.2.2.2.1.getD x0.toNat (0,0,0,0,0,0,0)).2.1=a0.2.2.2.2.2.2.2.2.2.2.2.2.2.2.2.2.1)) then some ((0,0,0,0,0,0,0),4)
  else bif zE x0 a0.2.2.2.2.2.2.2.2.2.2.2.2.1.length then some ((a0.2.2.2.2.2.2.2.2.2.2.2.2.1.getD x0.toNat (0,0,0,0,0,0,0)),0)
  else none)
 else none
def E0 (k:Nat)(a0:List zF)(a1 a2:Int):Option (List zF):=
 bif ((((decide (0 ≤ a1)) && (decide (a1 ≤ a2))) && (decide (a2 ≤ (a0.length : Int)))) && (decide (((a2.toNat : Nat) : Int) ≤ (a0.length : Int)))) && (decide ((a0.length : Int) ≤ (a0.length : Int))) then (bif decide (a1=a2) then some a0
  else bif (decide (0 ≤ a1)) && (decide (a1 ≤ (a0.length : Int))) then (bif (decide (0 ≤ a2)) && (decide (a2 ≤ (a0.length : Int))) then (bif Nat.ble (a1.toNat - 0) (0 + a2.toNat) then (let y0:List zF:=(((List.take (a1.toNat-0) a0)++(yB a0 (0+a2.toNat) (a0.length-a2.toNat)))++(List.drop ((a1.toNat-0)+(a0.length-a2.toNat)) a0))
     bif ((decide (0 ≤ ((yB y0 0 ((a1.toNat - 0) + (a0.length - a2.toNat))).length : Int))) && (decide (((yB y0 0 ((a1.toNat - 0) + (a0.length - a2.toNat))).length : Int) ≤ (a0.length : Int)))) && (decide ((a0.length : Int) ≤ (((y0.length - 0) : Nat) : Int))) then (let y1:List zF:=(((List.take (0+(yB y0 0 ((a1.toNat-0)+(a0.length-a2.toNat))).length) y0)++(List.replicate (a0.length-(yB y0 0 ((a1.toNat-0)+(a0.length-a2.toNat))).length) ((0,0,0,0,0,0,0):Int×Int×Int×Int×Int×Int×Int)))++(List.drop ((0+(yB y0 0 ((a1.toNat-0)+(a0.length-a2.toNat))).length)+(a0.length-(yB y0 0 ((a1.toNat-0)+(a0.length-a2.toNat))).length)) y0))
      some (List.take ((a1.toNat-0)+(a0.length-a2.toNat)) y1))
     else none)
    else none)
   else none)
  else none)
 else none
def ny (k:Nat)(a0:List zF)(a1:Int):Option ((List zF)×Int×Int×Int×Int×Int×Int×Int×Int):=
 (my k a0 a1).bind fun x0=>
 bif decide (x0<0) then some (a0,0,0,0,0,0,0,0,4)
 else(tj k a0).bind fun x1=>
 (E0 k x1 x0 (zA (x0+1))).bind fun x2=>
 bif zE x0 a0.length then some (x2,(kU (a0.getD x0.toNat (0,0,0,0,0,0,0)) 0))
 else none
def tA (k:Nat)(a0:wP)(a1:Int)(a2:List Int):Option wP:=
 bif zX (a0.2.2.2.2.2.2.2.2.2.2.2.2.2.2.2.2.2.length + 1) 64 then (let y0:List qA:=(a0.2.2.2.2.2.2.2.2.2.2.2.2.2.2.2.2.2++[(a0.2.2.2.2.2.2.2.2.2.2.2.2.2.2.2.2.1,a1,(bif (Nat.blt 0 a2.length) then(a2.getD 0 0) else 0),(bif (Nat.blt 1 a2.length) then(a2.getD 1 0) else 0),(bif (Nat.blt 2 a2.length) then(a2.getD 2 0) else 0),(bif (Nat.blt 3 a2.length) then(a2.getD 3 0) else 0),(bif (Nat.blt 4 a2.length) then(a2.getD 4 0) else 0),(bif (Nat.blt 5 a2.length) then(a2.getD 5 0) else 0))])
  some (Wi a0 y0))
 else none
def AY (k:Nat)(a0:List zF)(a1 a2:Int):Option ((List zF)×Int):=
 (ny k a0 a1).bind fun x0=>
 bif !(decide (x0.2.2.2.2.2.2.2.2=0)) then some (a0,x0.2.2.2.2.2.2.2.2)
 else(tl k x0.1 (mG x0 (a2,x0.2.2.2.2.2.2.1,x0.2.2.2.2.2.2.2.1))).bind fun x1=>
 some (x1.1,x1.2)
def P8 (k:Nat)(a0:List zF)(a1:Int):Option ((List zF)×Int×Int×Int×Int×Int×Int×Int×Int):=
 (my k a0 a1).bind fun x0=>
 bif decide (x0<0) then none
 else(tj k a0).bind fun x1=>
 (E0 k x1 x0 (zA (x0+1))).bind fun x2=>
 bif zE x0 a0.length then some (x2,(kU (a0.getD x0.toNat (0,0,0,0,0,0,0)) 0))
 else none
abbrev KK:Type:=Int×(List zF)×zF
abbrev SR:Type:=Int→List zF→zF→Option KK
def A2 (k:Nat)(rec:SR)(s9:Int)(r0:List zF)(b1:zF):Option KK:=
 bif decide (s9 < (r0.length : Int)) then (bif zE s9 r0.length then ((AU k (r0.getD s9.toNat (0,0,0,0,0,0,0)).1 (r0.getD s9.toNat (0,0,0,0,0,0,0)).2.1 (r0.getD s9.toNat (0,0,0,0,0,0,0)).2.2.1 (r0.getD s9.toNat (0,0,0,0,0,0,0)).2.2.2.1 (r0.getD s9.toNat (0,0,0,0,0,0,0)).2.2.2.2.1 (r0.getD s9.toNat (0,0,0,0,0,0,0)).2.2.2.2.2.1 (r0.getD s9.toNat (0,0,0,0,0,0,0)).2.2.2.2.2.2 b1.1 b1.2.1 b1.2.2.1 b1.2.2.2.1 b1.2.2.2.2.1 b1.2.2.2.2.2.1 b1.2.2.2.2.2.2).bind fun x1=>
   bif decide (x1<0) then(rec (zA (s9+1)) r0 b1)
   else some (s9,r0,b1))
  else none)
 else some (s9,r0,b1)
def A0 (k:Nat):Nat→SR:=vC (fun _ _ _=>none) (A2 k)
def A3 (k:Nat)(a0:List zF)(a1:Int):Option ((List zF)×Int):=
 (P8 k a0 a1).bind fun x0=>
 bif !(decide (x0.2.2.2.2.2.2.2.2=0)) then some (a0,x0.2.2.2.2.2.2.2.2)
 else(A0 k k 0 x0.1 (E5 x0)).bind fun z=>
 (IK k z.2.1 z.1 [z.2.2]).bind fun x2=>
 some (x2,0)
def AZ (k:Nat)(a0:List zF)(a1:Int):Option ((List zF)×Int):=
 (ny k a0 a1).bind fun x0=>
 bif !(decide (x0.2.2.2.2.2.2.2.2=0)) then some (a0,x0.2.2.2.2.2.2.2.2)
 else(tl k x0.1 (E5 x0)).bind fun x1=>
 some (x1.1,x1.2)
def wq (k:Nat)(a0:wP)(a1:zF):Option (Int×wP):=
 (SK k a0 a1.2.1).bind fun x0=>
 bif !(decide (x0.2=0)) then some (x0.2,a0)
 else bif decide (a1.1 = 2) then ((ny k a0.2.2.2.2.2.2.2.2.2.2.2.2.1 a1.2.1).bind fun x1=>
  (tA k (nT a0 (x1.1,a0.2.2.2.2.2.2.2.2.2.2.2.2.2)) 20 [a1.2.1]).bind fun x2=>
  some (x1.2.2.2.2.2.2.2.2,x2))
 else bif decide (a1.1 = 4) then ((yY k a1.2.2.1 1 3).bind fun x3=>
  bif !x3 then some (1,a0)
  else(wo k (vO a0) a0.2.2.2.2.2.1 a1.2.2.1).bind fun x4=>
  bif !(decide (x4=0)) then some (x4,a0)
  else(AY k a0.2.2.2.2.2.2.2.2.2.2.2.2.1 a1.2.1 a1.2.2.1).bind fun x5=>
  some (x5.2,(nT a0 (x5.1,a0.2.2.2.2.2.2.2.2.2.2.2.2.2))))
 else bif decide (a1.2.2.1 = 0) then ((A3 k a0.2.2.2.2.2.2.2.2.2.2.2.2.1 a1.2.1).bind fun x6=>
  some (x6.2,(nT a0 (x6.1,a0.2.2.2.2.2.2.2.2.2.2.2.2.2))))
 else bif decide (a1.2.2.1 = 1) then ((AZ k a0.2.2.2.2.2.2.2.2.2.2.2.2.1 a1.2.1).bind fun x7=>
  some (x7.2,(nT a0 (x7.1,a0.2.2.2.2.2.2.2.2.2.2.2.2.2))))
 else some (1,a0)
def Pm (k:Nat)(a0:List zR):Option (List zR):=
 bif zX (0+a0.length) 24 then some a0
 else none
def Pg (k:Nat)(a0:List (List Int)):Option Nat:=
 bif zX (0+a0.length) 24 then some a0.length
 else none
abbrev SX:Type:=List (List Int)→Int→Int→List (List Int)→Nat→Option ((List (List Int))×Nat)
def zl (k:Nat)(rec:SX)(s8:List (List Int))(s9 aC:Int)(m0:List (List Int))(n0:Nat):Option ((List (List Int))×Nat):=
 bif decide (aC < s9) then (bif zE aC s8.length then ((np k (s8.getD aC.toNat [])).bind fun x1=>
   bif zE aC n0 then (bif Nat.beq aC.toNat m0.length then(rec s8 s9 (zA (aC+1)) (m0++[x1]) n0)
    else none)
   else none)
  else none)
 else some (m0,n0)
def Es (k:Nat):Nat→SX
 |0,_,_,_,_,_=>none
 |n+1,s8,s9,aC,m0,n0=>zl k (Es k n) s8 s9 aC m0 n0
def Et (k:Nat)(a0:List (List Int)):Option (List (List Int)):=
 (Pg k a0).bind fun x0=>
 (Es k k a0 (a0.length:Int) 0 [] x0).bind fun z=>
 Ov z.1 z.2
def jR (k:Nat)(ae:List zR)(aw:List (List Int))(av:List Int)(au:List (List Int)):Option Gm:=
 (Pm k ae).bind fun x0=>
 (Et k aw).bind fun x1=>
 (np k av).bind fun x2=>
 (Et k au).bind fun x3=>
 some (x0,x1,x2,x3)
def S0 (k:Nat)(a0:wP)(a1:Int):Option Bool:=
 (yY k a1 0 (zA (a0.1-1))).bind fun x0=>
 bif x0 then some (!(decide (a1=a0.2.2.2.2.2.2.2.2.2.2.2.2.2.2.2.2.1)))
 else some false
def wu (k:Nat)(a0:wP)(a1:zF):Option (Int×wP):=
 (jR k a0.2.2.2.2.2.2.1 a0.2.2.2.2.2.2.2.1 a0.2.2.2.2.2.2.2.2.1 a0.2.2.2.2.2.2.2.2.2.1).bind fun x0=>
 bif decide (a1.1 = 5) then ((S0 k a0 a1.2.1).bind fun x1=>
  bif !x1 then some (1,a0)
  else(yY k a1.2.2.1 (-1) 1152921504606846976).bind fun x2=>
  bif !x2 then some (1,a0)
  else bif zE a0.2.2.2.2.2.2.2.2.2.2.2.2.2.2.2.2.1 x0.2.1.length then (bif zE a1.2.1 (x0.2.1.getD a0.2.2.2.2.2.2.2.2.2.2.2.2.2.2.2.2.1.toNat []).length then (let y0:List (List Int):=(x0.2.1.set a0.2.2.2.2.2.2.2.2.2.2.2.2.2.2.2.2.1.toNat ((x0.2.1.getD a0.2.2.2.2.2.2.2.2.2.2.2.2.2.2.2.2.1.toNat []).set a1.2.1.toNat a1.2.2.1))
    some (0,(gq a0 (x0.1,y0,x0.2.2.1,x0.2.2.2,a0.2.2.2.2.2.2.2.2.2.2))))
   else none)
  else none)
 else bif decide (a1.1 = 6) then ((yY k a1.2.1 (-1) 1152921504606846976).bind fun x3=>
  bif !x3 then some (1,a0)
  else bif zE a0.2.2.2.2.2.2.2.2.2.2.2.2.2.2.2.2.1 x0.2.2.1.length then (let y1:List Int:=(x0.2.2.1.set a0.2.2.2.2.2.2.2.2.2.2.2.2.2.2.2.2.1.toNat a1.2.1)
   some (0,(gq a0 (x0.1,x0.2.1,y1,x0.2.2.2,a0.2.2.2.2.2.2.2.2.2.2))))
  else none)
 else(yY k a1.2.1 0 1152921504606846976).bind fun x4=>
 bif !x4 then some (1,a0)
 else bif zE a0.2.2.2.2.2.2.2.2.2.2.2.2.2.2.2.2.1 x0.1.length then (let y2:List zR:=(x0.1.set a0.2.2.2.2.2.2.2.2.2.2.2.2.2.2.2.2.1.toNat ((x0.1.getD a0.2.2.2.2.2.2.2.2.2.2.2.2.2.2.2.2.1.toNat (0,0,0)).1,(x0.1.getD a0.2.2.2.2.2.2.2.2.2.2.2.2.2.2.2.2.1.toNat (0,0,0)).2.1,a1.2.1))
  some (0,(gq a0 (y2,x0.2.1,x0.2.2.1,x0.2.2.2,a0.2.2.2.2.2.2.2.2.2.2))))
 else none
def Gc (k:Nat)(a0:wP)(a1:Int):Option Bool:=
 (yY k a1 0 (zA ((a0.2.1.length:Int)-1))).bind fun x0=>
 some x0
def BI (k:Nat)(a0:List (List Int)):Option (List (List Int)):=
 bif zX (0+a0.length) 24 then some a0
 else none
def nC (k:Nat)(a0:List Int)(a1 a2:Int):Option (List Int):=
 (np k a0).bind fun x0=>
 bif decide (a1 ≥ 0) then (bif decide (a1 < (x0.length : Int)) then (bif zE a1 x0.length then some (x0.set a1.toNat a2)
   else none)
  else some x0)
 else some x0
def Qc (k:Nat)(a0:Int):Option Bool:=
 bif decide (a0≥0) then some (decide (a0≤10000))
 else some false
def E8 (k:Nat)(a0 a1:Int):Option yV:=
 some ((IntKind.wrap .u64 ((IntKind.wrap .u64 ((IntKind.wrap .u64 ((shr .u64 a0 32)*(shr .u64 a1 32)))+(shr .u64 (IntKind.wrap .u64 ((IntKind.wrap .u64 ((shr .u64 a0 32)*(gl .u64 a1 4294967295)))+(shr .u64 (IntKind.wrap .u64 ((gl .u64 a0 4294967295)*(gl .u64 a1 4294967295))) 32))) 32)))+(shr .u64 (IntKind.wrap .u64 ((gl .u64 (IntKind.wrap .u64 ((IntKind.wrap .u64 ((shr .u64 a0 32)*(gl .u64 a1 4294967295)))+(shr .u64 (IntKind.wrap .u64 ((gl .u64 a0 4294967295)*(gl .u64 a1 4294967295))) 32))) 4294967295)+(IntKind.wrap .u64 ((gl .u64 a0 4294967295)*(shr .u64 a1 32))))) 32))),(IntKind.wrap .u64 (a0*a1)))
def yPs (k:Nat)(a0:Int):Option Int:=
 bif decide (a0 ≥ 4294967296) then (bif decide ((shr .u64 a0 32) ≥ 65536) then (bif decide ((shr .u64 (shr .u64 a0 32) 16)≥256) then none
   else none)
  else bif decide ((shr .u64 a0 32)≥256) then none
  else none)
 else bif decide (a0 ≥ 65536) then (bif decide ((shr .u64 a0 16)≥256) then none
  else none)
 else bif decide (a0≥256) then none
 else none
def yIf (k:Nat)(a0:Int):Option Int:=
 (yPs k a0).bind fun x0=>
 some (zA (64-x0))
abbrev KN:Type:=Int×Int×Int×Int×Int×Int×Int×Int
abbrev S2:Type:=Int→Int→Int→Int→Int→Int→Int→Int→Int→Option KN
def qZ9 (k:Nat)(rec:S2)(s2 s8 s9 aC bC aP bI aY bX:Int):Option KN:=
 bif decide (aY ≥ 4294967296) then (bif decide ((IntKind.wrap .u64 (bX+s9))≥4294967296) then some (s2,s8,s9,aC,bC,aP,bI,(IntKind.wrap .u64 (aY-1)))
  else rec s2 s8 s9 aC bC aP bI (IntKind.wrap .u64 (aY-1)) (IntKind.wrap .u64 (bX+s9)))
 else bif decide ((IntKind.wrap .u64 (aY * aC)) > (IntKind.wrap .u64 ((IntKind.wrap .u64 (4294967296 * bX)) + aP))) then (bif decide ((IntKind.wrap .u64 (bX+s9))≥4294967296) then some (s2,s8,s9,aC,bC,aP,bI,(IntKind.wrap .u64 (aY-1)))
  else rec s2 s8 s9 aC bC aP bI (IntKind.wrap .u64 (aY-1)) (IntKind.wrap .u64 (bX+s9)))
 else some (s2,s8,s9,aC,bC,aP,bI,aY)
def S3 (k:Nat):Nat→S2:=vC (fun _ _ _ _ _ _ _ _ _=>none) (qZ9 k)
abbrev KP:Type:=Int×Int×Int×Int×Int×Int
abbrev S4:Type:=Int→Int→Int→Int→Int→Int→Int→Int→Int→Option KP
def yF7 (k:Nat)(rec:S4)(s2 s8 s9 aC bI aY bX aQ dG:Int):Option KP:=
 bif decide (dG ≥ 4294967296) then (bif decide ((IntKind.wrap .u64 (bX+s9))≥4294967296) then some (s2,s8,bI,aY,aQ,(IntKind.wrap .u64 (dG-1)))
  else rec s2 s8 s9 aC bI aY (IntKind.wrap .u64 (bX+s9)) aQ (IntKind.wrap .u64 (dG-1)))
 else bif decide ((IntKind.wrap .u64 (dG * aC)) > (IntKind.wrap .u64 ((IntKind.wrap .u64 (4294967296 * bX)) + bI))) then (bif decide ((IntKind.wrap .u64 (bX+s9))≥4294967296) then some (s2,s8,bI,aY,aQ,(IntKind.wrap .u64 (dG-1)))
  else rec s2 s8 s9 aC bI aY (IntKind.wrap .u64 (bX+s9)) aQ (IntKind.wrap .u64 (dG-1)))
 else some (s2,s8,bI,aY,aQ,dG)
def S5 (k:Nat):Nat→S4:=vC (fun _ _ _ _ _ _ _ _ _=>none) (yF7 k)
def IS (k:Nat)(a0 a1 a2:Int):Option yV:=
 bif decide (a2=0) then none
 else bif decide (a2≤a0) then none
 else bif decide (a0 = 0) then (bif !(decide (a2 = 0)) then (bif !(decide (a2=0)) then some ((IntKind.wrap .u64 (Int.tdiv a1 a2)),(Int.tmod a1 a2))
   else none)
  else none)
 else(yIf k a2).bind fun x0=>
 bif !(decide ((IntKind.wrap .u64 (x0)) < 0)) then (bif !(decide ((IntKind.wrap .u64 (x0)) < 0)) then (bif !(decide ((IntKind.wrap .u64 (64 - (IntKind.wrap .u64 (x0)))) < 0)) then (bif !(decide ((IntKind.wrap .u64 (x0)) < 0)) then (bif !(decide ((shr .u64 (shl .u64 a2 (IntKind.wrap .u64 (x0))) 32) = 0)) then ((S3 k k (shl .u64 a2 (IntKind.wrap .u64 (x0))) (IntKind.wrap .u64 (x0)) (shr .u64 (shl .u64 a2 (IntKind.wrap .u64 (x0))) 32) (gl .u64 (shl .u64 a2 (IntKind.wrap .u64 (x0))) 4294967295) (ke .u64 (shl .u64 a0 (IntKind.wrap .u64 (x0))) (shr .u64 a1 (IntKind.wrap .u64 (64-(IntKind.wrap .u64 (x0)))))) (shr .u64 (shl .u64 a1 (IntKind.wrap .u64 (x0))) 32) (gl .u64 (shl .u64 a1 (IntKind.wrap .u64 (x0))) 4294967295) (IntKind.wrap .u64 (Int.tdiv (ke .u64 (shl .u64 a0 (IntKind.wrap .u64 (x0))) (shr .u64 a1 (IntKind.wrap .u64 (64-(IntKind.wrap .u64 (x0)))))) (shr .u64 (shl .u64 a2 (IntKind.wrap .u64 (x0))) 32))) (IntKind.wrap .u64 ((ke .u64 (shl .u64 a0 (IntKind.wrap .u64 (x0))) (shr .u64 a1 (IntKind.wrap .u64 (64-(IntKind.wrap .u64 (x0))))))-(IntKind.wrap .u64 ((IntKind.wrap .u64 (Int.tdiv (ke .u64 (shl .u64 a0 (IntKind.wrap .u64 (x0))) (shr .u64 a1 (IntKind.wrap .u64 (64-(IntKind.wrap .u64 (x0)))))) (shr .u64 (shl .u64 a2 (IntKind.wrap .u64 (x0))) 32)))*(shr .u64 (shl .u64 a2 (IntKind.wrap .u64 (x0))) 32)))))).bind fun z=>
      bif !(decide (z.2.2.1 = 0)) then ((S5 k k z.1 z.2.1 z.2.2.1 z.2.2.2.1 z.2.2.2.2.2.2.1 z.2.2.2.2.2.2.2 (IntKind.wrap .u64 ((IntKind.wrap .u64 ((IntKind.wrap .u64 ((IntKind.wrap .u64 (z.2.2.2.2.1*4294967296))+z.2.2.2.2.2.1))-(IntKind.wrap .u64 (z.2.2.2.2.2.2.2*z.1))))-(IntKind.wrap .u64 ((IntKind.wrap .u64 (Int.tdiv (IntKind.wrap .u64 ((IntKind.wrap .u64 ((IntKind.wrap .u64 (z.2.2.2.2.1*4294967296))+z.2.2.2.2.2.1))-(IntKind.wrap .u64 (z.2.2.2.2.2.2.2*z.1)))) z.2.2.1))*z.2.2.1)))) (IntKind.wrap .u64 ((IntKind.wrap .u64 ((IntKind.wrap .u64 (z.2.2.2.2.1*4294967296))+z.2.2.2.2.2.1))-(IntKind.wrap .u64 (z.2.2.2.2.2.2.2*z.1)))) (IntKind.wrap .u64 (Int.tdiv (IntKind.wrap .u64 ((IntKind.wrap .u64 ((IntKind.wrap .u64 (z.2.2.2.2.1*4294967296))+z.2.2.2.2.2.1))-(IntKind.wrap .u64 (z.2.2.2.2.2.2.2*z.1)))) z.2.2.1))).bind fun z1=>
       bif !(decide (z1.2.1<0)) then some ((IntKind.wrap .u64 ((IntKind.wrap .u64 (z1.2.2.2.1*4294967296))+z1.2.2.2.2.2)),(shr .u64 (IntKind.wrap .u64 ((IntKind.wrap .u64 ((IntKind.wrap .u64 (z1.2.2.2.2.1*4294967296))+z1.2.2.1))-(IntKind.wrap .u64 (z1.2.2.2.2.2*z1.1)))) z1.2.1))
       else none)
      else none)
     else none)
    else none)
   else none)
  else none)
 else none
def IT (k:Nat)(a0 a1 a2:Int):Option (Int×Bool):=
 bif decide (a0<0) then some (0,false)
 else bif decide (a1<0) then some (0,false)
 else(Qc k a2).bind fun x0=>
 bif !x0 then some (0,false)
 else(E8 k (IntKind.wrap .u64 (a0)) (IntKind.wrap .u64 (a1))).bind fun x1=>
 (IS k (Int.tmod x1.1 10000) x1.2 10000).bind fun x2=>
 (E8 k x2.1 (IntKind.wrap .u64 ((zA (10000-a2))))).bind fun x3=>
 (vi k x3.2 (IntKind.wrap .u64 (Int.tdiv (IntKind.wrap .u64 (x2.2*(IntKind.wrap .u64 ((zA (10000-a2)))))) 10000)) 0).bind fun x4=>
 bif decide ((IntKind.wrap .u64 (Int.tdiv x1.1 10000)) > 0) then (bif decide ((IntKind.wrap .u64 ((zA (10000-a2))))>0) then some (0,false)
  else bif decide ((IntKind.wrap .u64 (x3.1+x4.2))>0) then some (0,false)
  else bif decide (x4.1>9223372036854775807) then some (0,false)
  else some ((zA (x4.1)),true))
 else bif decide ((IntKind.wrap .u64 (x3.1+x4.2))>0) then some (0,false)
 else bif decide (x4.1>9223372036854775807) then some (0,false)
 else some ((zA (x4.1)),true)
abbrev S9:Type:=Int→Int→List Int→Int→Int→Option yV
def A8 (k:Nat)(rec:S9)(s4 s5:Int)(s9:List Int)(aC bC:Int):Option yV:=
 bif decide (bC < aC) then (bif zE bC s9.length then ((vi k s5 (IntKind.wrap .u64 ((s9.getD bC.toNat 0))) 0).bind fun x0=>
   rec (zA (s4+(zA ((shr .i64 (s9.getD bC.toNat 0) 63)+(zA (x0.2)))))) x0.1 s9 aC (zA (bC+1)))
  else none)
 else some (s4,s5)
def A7 (k:Nat):Nat→S9
 |0,_,_,_,_,_=>none
 |n+1,s4,s5,s9,aC,bC=>A8 k (A7 k n) s4 s5 s9 aC bC
def E7 (k:Nat)(a0:List Int):Option (Int×Bool):=
 (A7 k k 0 0 a0 (a0.length:Int) 0).bind fun z=>
 bif !(decide (z.1=(shr .i64 (zA (z.2)) 63))) then some (0,false)
 else some ((zA (z.2)),true)
abbrev Tc:Type:=List Int→List Int→List yV→Int→Int→List Int→Option ((List Int)⊕(Int×Bool))
def Bc (k:Nat)(rec:Tc)(s1 s2:List Int)(ie:List yV)(aW eE:Int)(r0:List Int):Option ((List Int)⊕(Int×Bool)):=
 bif decide (eE < aW) then (bif zE eE ie.length then (bif zE eE s1.length then (bif zE eE s2.length then ((IT k (s1.getD eE.toNat 0) (s2.getD eE.toNat 0) (ie.getD eE.toNat (0,0)).2).bind fun x0=>
     bif !x0.2 then some (.inr (0,false))
     else bif zX (r0.length+1) 8 then(rec s1 s2 ie aW (zA (eE+1)) (r0++[x0.1]))
     else none)
    else none)
   else none)
  else none)
 else some (.inl r0)
def Bb (k:Nat):Nat→Tc:=vC (fun _ _ _ _ _ _=>none) (Bc k)
def oP (k:Nat)(a0:List yV)(a1 a2:List Int):Option (Int×Bool):=
 bif !(decide ((a1.length:Int)=(a0.length:Int))) then some (0,false)
 else bif !(decide ((a2.length:Int)=(a0.length:Int))) then some (0,false)
 else(Bb k k a1 a2 a0 (a0.length:Int) 0 []).bind fun z=>
 match z with
 |.inl z1=>(E7 k z1).bind fun x1=>
  some (x1.1,x1.2)
 |.inr z2=>some (z2.1,z2.2)
def Jn (k:Nat)(a0:wP)(a1 a2:Int):Option (Int×wP):=
 (Gc k a0 a1).bind fun x0=>
 bif !x0 then some (1,a0)
 else(yY k a2 0 1099511627776).bind fun x1=>
 bif !x1 then some (1,a0)
 else(BI k a0.2.2.2.2.2.2.2.2.2.2.2.1).bind fun x2=>
 bif zE a0.2.2.2.2.2.2.2.2.2.2.2.2.2.2.2.2.1 x2.length then ((nC k (x2.getD a0.2.2.2.2.2.2.2.2.2.2.2.2.2.2.2.2.1.toNat []) a1 a2).bind fun x3=>
  bif zE a0.2.2.2.2.2.2.2.2.2.2.2.2.2.2.2.2.1 x2.length then (let y0:List (List Int):=(x2.set a0.2.2.2.2.2.2.2.2.2.2.2.2.2.2.2.2.1.toNat x3)
   bif zE a0.2.2.2.2.2.2.2.2.2.2.2.2.2.2.2.2.1 y0.length then ((oP k a0.2.1 a0.2.2.2.2.2.2.2.2.2.2.1 (y0.getD a0.2.2.2.2.2.2.2.2.2.2.2.2.2.2.2.2.1.toNat [])).bind fun x4=>
    bif zE a0.2.2.2.2.2.2.2.2.2.2.2.2.2.2.2.2.1 a0.2.2.2.2.2.2.1.length then (bif !x4.2 then some (8,a0)
     else bif decide (x4.1>1152921504606846976) then some (8,a0)
     else bif decide (x4.1 < (a0.2.2.2.2.2.2.1.getD a0.2.2.2.2.2.2.2.2.2.2.2.2.2.2.2.2.1.toNat (0, 0, 0)).2.1) then (bif decide ((zA ((a0.2.2.2.2.2.2.1.getD a0.2.2.2.2.2.2.2.2.2.2.2.2.2.2.2.2.1.toNat (0,0,0)).1+x4.1))<0) then some (9,a0)
      else(jR k a0.2.2.2.2.2.2.1 a0.2.2.2.2.2.2.2.1 a0.2.2.2.2.2.2.2.2.1 a0.2.2.2.2.2.2.2.2.2.1).bind fun x5=>
      bif zE a0.2.2.2.2.2.2.2.2.2.2.2.2.2.2.2.2.1 x5.1.length then (let y1:List zR:=(x5.1.set a0.2.2.2.2.2.2.2.2.2.2.2.2.2.2.2.2.1.toNat ((x5.1.getD a0.2.2.2.2.2.2.2.2.2.2.2.2.2.2.2.2.1.toNat (0,0,0)).1,x4.1,(x5.1.getD a0.2.2.2.2.2.2.2.2.2.2.2.2.2.2.2.2.1.toNat (0,0,0)).2.2))
       some (0,(gq a0 (y1,x5.2.1,x5.2.2.1,x5.2.2.2,a0.2.2.2.2.2.2.2.2.2.2.1,y0,a0.2.2.2.2.2.2.2.2.2.2.2.2))))
      else none)
     else(jR k a0.2.2.2.2.2.2.1 a0.2.2.2.2.2.2.2.1 a0.2.2.2.2.2.2.2.2.1 a0.2.2.2.2.2.2.2.2.2.1).bind fun x6=>
     bif zE a0.2.2.2.2.2.2.2.2.2.2.2.2.2.2.2.2.1 x6.1.length then (let y2:List zR:=(x6.1.set a0.2.2.2.2.2.2.2.2.2.2.2.2.2.2.2.2.1.toNat ((x6.1.getD a0.2.2.2.2.2.2.2.2.2.2.2.2.2.2.2.2.1.toNat (0,0,0)).1,x4.1,(x6.1.getD a0.2.2.2.2.2.2.2.2.2.2.2.2.2.2.2.2.1.toNat (0,0,0)).2.2))
      some (0,(gq a0 (y2,x6.2.1,x6.2.2.1,x6.2.2.2,a0.2.2.2.2.2.2.2.2.2.2.1,y0,a0.2.2.2.2.2.2.2.2.2.2.2.2))))
     else none)
    else none)
   else none)
  else none)
 else none
def Jo (k:Nat)(a0 a1:Int):Option (Int×Bool):=
 bif decide (a1 > 0) then (bif decide (a0>(zA (9223372036854775807-a1))) then some (0,false)
  else bif decide (a1 < 0) then (bif decide (a0<(zA ((-9223372036854775808)-a1))) then some (0,false)
   else some ((zA (a0+a1)),true))
  else some ((zA (a0+a1)),true))
 else bif decide (a1 < 0) then (bif decide (a0<(zA ((-9223372036854775808)-a1))) then some (0,false)
  else some ((zA (a0+a1)),true))
 else some ((zA (a0+a1)),true)
def HX (k:Nat)(bo bD aS:Int):Option Bool:=
 bif decide (bo > (-4611686018427387904)) then (bif decide (bo < 4611686018427387904) then (bif decide (bD ≥ 0) then (bif decide (bD ≤ 2305843009213693952) then (bif decide (aS≥0) then some (decide (aS≤2305843009213693952))
     else some false)
    else some false)
   else some false)
  else some false)
 else some false
def Fx (k:Nat)(a0:zR)(a1:Int):Option (zR×Int):=
 (Jo k a0.1 a1).bind fun x0=>
 bif !x0.2 then some (a0,8)
 else(HX k x0.1 a0.2.1 a0.2.2).bind fun x1=>
 bif !x1 then some (a0,8)
 else some ((x0.1,a0.2),0)
def BK (k:Nat)(a0:zR)(a1:Int):Option (zR×Int):=
 (Fx k a0 a1).bind fun x0=>
 some (x0.1,x0.2)
def ta (k:Nat)(bo bD aS a1:Int):Option Int:=
 some (wC false (zA (aS-a1)) 0)
def BL (k:Nat)(a0:zR)(a1 a2:Int):Option (zR×Int):=
 (Fx k a0 (zA (0-a1))).bind fun x0=>
 bif decide (x0.2 = 0) then (bif decide (a2 = 1) then ((ta k a0.1 a0.2.1 a0.2.2 a1).bind fun x1=>
   some ((x0.1.1,x0.1.2.1,x1),x0.2))
  else bif decide (a2 = 2) then ((ta k a0.1 a0.2.1 a0.2.2 a1).bind fun x2=>
   some ((x0.1.1,x0.1.2.1,x2),x0.2))
  else some (x0.1,x0.2))
 else some (x0.1,x0.2)
def BM (k:Nat)(a0:zR)(a1:Int):Option Int:=
 bif decide (a1=3) then some (zA ((zA (a0.1+a0.2.1))-a0.2.2))
 else some (zA (a0.1+a0.2.1))
def Tl (k:Nat)(a0:wP)(a1 a2 a3:Int):Option (Int×wP):=
 (yY k a2 0 (zA (a0.1-1))).bind fun x0=>
 bif !x0 then some (1,a0)
 else(yY k a3 1 1099511627776).bind fun x1=>
 bif !x1 then some (1,a0)
 else bif zE a2 a0.2.2.2.2.2.2.1.length then ((BK k (a0.2.2.2.2.2.2.1.getD a2.toNat (0,0,0)) a3).bind fun x2=>
  bif decide (a1 = 11) then ((BL k (a0.2.2.2.2.2.2.1.getD a2.toNat (0,0,0)) a3 3).bind fun x3=>
   (BM k (a0.2.2.2.2.2.2.1.getD a2.toNat (0,0,0)) 3).bind fun x4=>
   bif decide (x4<a3) then some (9,a0)
   else bif decide ((zA (a0.2.2.2.2.2.2.2.2.2.2.2.2.2.2.1-a3))<0) then some (9,a0)
   else bif !(decide (x3.2=0)) then some (x3.2,a0)
   else bif decide ((zA (a0.2.2.2.2.2.2.2.2.2.2.2.2.2.2.1-a3))>1152921504606846976) then some (8,a0)
   else(jR k a0.2.2.2.2.2.2.1 a0.2.2.2.2.2.2.2.1 a0.2.2.2.2.2.2.2.2.1 a0.2.2.2.2.2.2.2.2.2.1).bind fun x5=>
   bif zE a2 x5.1.length then some (0,(gq a0 ((x5.1.set a2.toNat x3.1),x5.2.1,x5.2.2.1,x5.2.2.2,(L9 a0 ((zA (a0.2.2.2.2.2.2.2.2.2.2.2.2.2.2.1-a3)),a0.2.2.2.2.2.2.2.2.2.2.2.2.2.2.2)))))
   else none)
  else bif !(decide (x2.2=0)) then some (x2.2,a0)
  else bif decide ((zA (a0.2.2.2.2.2.2.2.2.2.2.2.2.2.2.1+a3))>1152921504606846976) then some (8,a0)
  else(jR k a0.2.2.2.2.2.2.1 a0.2.2.2.2.2.2.2.1 a0.2.2.2.2.2.2.2.2.1 a0.2.2.2.2.2.2.2.2.2.1).bind fun x6=>
  bif zE a2 x6.1.length then some (0,(gq a0 ((x6.1.set a2.toNat x2.1),x6.2.1,x6.2.2.1,x6.2.2.2,(L9 a0 ((zA (a0.2.2.2.2.2.2.2.2.2.2.2.2.2.2.1+a3)),a0.2.2.2.2.2.2.2.2.2.2.2.2.2.2.2)))))
  else none)
 else none
abbrev KS:Type:=(jw×(List qA)×(List Int)×(List zR)×(List (List Int))×(List Int)×(List (List Int)))⊕(Int×jw×(List qA))
abbrev Tn:Type:=List (List Int)→Int→Int→jw→List qA→List Int→List zR→List (List Int)→List Int→List (List Int)→Option KS
def yA7 (k:Nat)(rec:Tn)(fa:List (List Int))(gu iU:Int)(b0:jw)(r1:List qA)(r2:List Int)(r4:List zR)(m5:List (List Int))(r6:List Int)(m7:List (List Int)):Option KS:=
 bif decide (iU < gu) then (bif zE iU fa.length then ((oP k b0.2.1 r2 (fa.getD iU.toNat [])).bind fun x4=>
   bif !x4.2 then some (.inr (8,b0,r1))
   else bif decide (x4.1>1152921504606846976) then some (.inr (8,b0,r1))
   else bif zE iU r4.length then (let y0:List zR:=(r4.set iU.toNat ((r4.getD iU.toNat (0,0,0)).1,x4.1,(r4.getD iU.toNat (0,0,0)).2.2))
    rec fa gu (zA (iU+1)) b0 r1 r2 y0 m5 r6 m7)
   else none)
  else none)
 else some (.inl (b0,r1,r2,r4,m5,r6,m7))
def Tp (k:Nat):Nat→Tn:=vC (fun _ _ _ _ _ _ _ _ _ _=>none) (yA7 k)
def yLw (k:Nat)(a0:wP)(a1 a2:Int):Option (Int×wP):=
 (Gc k a0 a1).bind fun x0=>
 bif !x0 then some (1,a0)
 else(yY k a2 0 1048576).bind fun x1=>
 bif !x1 then some (1,a0)
 else(nC k a0.2.2.2.2.2.2.2.2.2.2.1 a1 a2).bind fun x2=>
 (jR k a0.2.2.2.2.2.2.1 a0.2.2.2.2.2.2.2.1 a0.2.2.2.2.2.2.2.2.1 a0.2.2.2.2.2.2.2.2.2.1).bind fun x3=>
 (Tp k k a0.2.2.2.2.2.2.2.2.2.2.2.1 (a0.2.2.2.2.2.2.2.2.2.2.2.1.length:Int) 0 (jt a0) a0.2.2.2.2.2.2.2.2.2.2.2.2.2.2.2.2.2 x2 x3.1 x3.2.1 x3.2.2.1 x3.2.2.2).bind fun z=>
 match z with
 |.inl z1=>some (0,(gq z1.1 (yVg z1 (z1.2.2.1,(QB z1.1 z1.2.1)))))
 |.inr z2=>some (z2.1,(vF z2.2.1 z2.2.2))
def JC (k:Nat)(a0:wP)(a1:zF):Option (Int×wP):=
 bif decide (a1.1 = 1) then ((Jm k a0 a1.2).bind fun x0=>
  some (x0.1,x0.2))
 else bif decide (a1.1 = 2) then ((wq k a0 a1).bind fun x1=>
  some (x1.1,x1.2))
 else bif decide (a1.1 = 3) then ((wq k a0 a1).bind fun x2=>
  some (x2.1,x2.2))
 else bif decide (a1.1 = 4) then ((wq k a0 a1).bind fun x3=>
  some (x3.1,x3.2))
 else bif decide (a1.1 = 5) then ((wu k a0 a1).bind fun x4=>
  some (x4.1,x4.2))
 else bif decide (a1.1 = 6) then ((wu k a0 a1).bind fun x5=>
  some (x5.1,x5.2))
 else bif decide (a1.1 = 7) then ((wu k a0 a1).bind fun x6=>
  some (x6.1,x6.2))
 else bif decide (a1.1 = 8) then ((Jn k a0 a1.2.1 a1.2.2.1).bind fun x7=>
  some (x7.1,x7.2))
 else bif decide (a1.1 = 10) then ((Tl k a0 a1.1 a1.2.1 a1.2.2.1).bind fun x8=>
  some (x8.1,x8.2))
 else bif decide (a1.1 = 11) then ((Tl k a0 a1.1 a1.2.1 a1.2.2.1).bind fun x9=>
  some (x9.1,x9.2))
 else bif decide (a1.1 = 12) then ((yLw k a0 a1.2.1 a1.2.2.1).bind fun eK=>
  some (eK.1,eK.2))
 else some (0,a0)
def Ji (k:Nat)(cY:Int)(dH:List yV)(dI cZ cg a1:Int):Option Bool:=
 some (decide (a1=cZ))
def nG (k:Nat)(a0 a1:Int)(a2:List Int):Option qA:=
 some (a0,a1,(bif (Nat.blt 0 a2.length) then(a2.getD 0 0) else 0),(bif (Nat.blt 1 a2.length) then(a2.getD 1 0) else 0),(bif (Nat.blt 2 a2.length) then(a2.getD 2 0) else 0),(bif (Nat.blt 3 a2.length) then(a2.getD 3 0) else 0),(bif (Nat.blt 4 a2.length) then(a2.getD 4 0) else 0),(bif (Nat.blt 5 a2.length) then(a2.getD 5 0) else 0))
abbrev KU:Type:=Int×(List zR)×(List (List Int))×(List Int)×(List (List Int))×(List Int)×(List (List Int))×(List zF)×(List Int)×Int×Bool×Int×Int×Bool×(List qA)
abbrev Tt:Type:=List zF→Int→Int→Int→List zR→List (List Int)→List Int→List (List Int)→List Int→List (List Int)→List zF→List Int→Int→Bool→Int→Int→Bool→List qA→Option KU
def BB (k:Nat)(rec:Tt)(aC:List zF)(bC bx ab:Int)(ag:List zR)(ah:List (List Int))(af:List Int)(bm:List (List Int))(bz:List Int)(bA:List (List Int))(dJ:List zF)(dK:List Int)(dL:Int)(bZ:Bool)(az bE:Int)(aU:Bool)(r2:List qA):Option KU:=
 bif decide (bx < bC) then (bif zE bx aC.length then ((nG k (aC.getD bx.toNat (0,0,0,0,0,0,0)).2.1 22 [(aC.getD bx.toNat (0,0,0,0,0,0,0)).1]).bind fun x0=>
   bif zX (r2.length+1) 64 then(rec aC bC (zA (bx+1)) ab ag ah af bm bz bA dJ dK dL bZ az bE aU (r2++[x0]))
   else none)
  else none)
 else some (ab,ag,ah,af,bm,bz,bA,dJ,dK,dL,bZ,az,bE,aU,r2)
def BA (k:Nat):Nat→Tt
 |0,_,_,_,_,_,_,_,_,_,_,_,_,_,_,_,_,_,_=>none
 |n+1,aC,bC,bx,ab,ag,ah,af,bm,bz,bA,dJ,dK,dL,bZ,az,bE,aU,r2=>BB k (BA k n) aC bC bx ab ag ah af bm bz bA dJ dK dL bZ az bE aU r2
abbrev KW:Type:=Int×(List zR)×(List (List Int))×(List Int)×(List (List Int))×(List Int)×(List (List Int))×(List zF)×(List Int)×Int×Bool×Int×Int×Bool×(List qA)
abbrev Tu:Type:=List zR→Int→Int→Int→List zR→List (List Int)→List Int→List (List Int)→List Int→List (List Int)→List zF→List Int→Int→Bool→Int→Int→Bool→List qA→Option KW
def BD (k:Nat)(rec:Tu)(jy:List zR)(eF ky ab:Int)(ag:List zR)(ah:List (List Int))(af:List Int)(bm:List (List Int))(bz:List Int)(bA:List (List Int))(dJ:List zF)(dK:List Int)(dL:Int)(bZ:Bool)(az bE:Int)(aU:Bool)(r2:List qA):Option KW:=
 bif decide (ky < eF) then (bif zE ky jy.length then ((nG k ky 23 [(jy.getD ky.toNat (0,0,0)).1]).bind fun x1=>
   bif zX (r2.length+1) 64 then(rec jy eF (zA (ky+1)) ab ag ah af bm bz bA dJ dK dL bZ az bE aU (r2++[x1]))
   else none)
  else none)
 else some (ab,ag,ah,af,bm,bz,bA,dJ,dK,dL,bZ,az,bE,aU,r2)
def BC (k:Nat):Nat→Tu
 |0,_,_,_,_,_,_,_,_,_,_,_,_,_,_,_,_,_,_=>none
 |n+1,jy,eF,ky,ab,ag,ah,af,bm,bz,bA,dJ,dK,dL,bZ,az,bE,aU,r2=>BD k (BC k n) jy eF ky ab ag ah af bm bz bA dJ dK dL bZ az bE aU r2
def Jh (k:Nat)(gx:Int)(cq:List zR)(dj:List (List Int))(dm:List Int)(dp:List (List Int))(eL:List Int)(gy:List (List Int))(eM:List zF)(nU:List Int)(gz:Int)(kz:Bool):Option Wg:=
 (BA k k eM (eM.length:Int) 0 gx cq dj dm dp eL gy eM nU gz kz 0 0 false []).bind fun z=>
 (BC k k z.2.1 (z.2.1.length:Int) 0 z.1 z.2.1 z.2.2.1 z.2.2.2.1 z.2.2.2.2.1 z.2.2.2.2.2.1 z.2.2.2.2.2.2.1 z.2.2.2.2.2.2.2.1 z.2.2.2.2.2.2.2.2.1 z.2.2.2.2.2.2.2.2.2.1 z.2.2.2.2.2.2.2.2.2.2.1 z.2.2.2.2.2.2.2.2.2.2.2.1 z.2.2.2.2.2.2.2.2.2.2.2.2.1 z.2.2.2.2.2.2.2.2.2.2.2.2.2.1 z.2.2.2.2.2.2.2.2.2.2.2.2.2.2).bind fun z1=>
 some (Cu z1 ([],z1.2.2.2.2.2.2.2.2.1,z1.2.2.2.2.2.2.2.2.2.1,true,z1.2.2.2.2.2.2.2.2.2.2.2.2.2.2))
def Qw (k:Nat)(cS ay bF aH aG aT bg a1:Int):Option Bool:=
 some (decide (a1>bg))
def Jj (k:Nat)(cY:Int)(dH:List yV)(dI cZ cg a1:Int):Option Bool:=
 bif decide (a1 > 0) then (bif decide (a1 < cZ) then (bif !(decide (cg=0)) then some (decide ((Int.tmod a1 cg)=0))
   else none)
  else some false)
 else some false
def PS (k:Nat)(cS ay bF aH aG aT bg a1:Int):Option Bool:=
 bif decide (a1≥aT) then some (decide (a1≤bg))
 else some false
def PR (k:Nat)(cS ay bF aH aG aT bg a1:Int):Option Bool:=
 (PS k cS ay bF aH aG aT bg a1).bind fun x0=>
 some x0
abbrev KY:Type:=List zF
abbrev Tx:Type:=List zF→Int→Int→Int→List zF→Option KY
def AL (k:Nat)(rec:Tx)(s8:List zF)(s9 aC ab:Int)(r1:List zF):Option KY:=
 bif decide (aC < s9) then (bif zE aC s8.length then ((PR k (s8.getD aC.toNat (0,0,0,0,0,0,0)).1 (s8.getD aC.toNat (0,0,0,0,0,0,0)).2.1 (s8.getD aC.toNat (0,0,0,0,0,0,0)).2.2.1 (s8.getD aC.toNat (0,0,0,0,0,0,0)).2.2.2.1 (s8.getD aC.toNat (0,0,0,0,0,0,0)).2.2.2.2.1 (s8.getD aC.toNat (0,0,0,0,0,0,0)).2.2.2.2.2.1 (s8.getD aC.toNat (0,0,0,0,0,0,0)).2.2.2.2.2.2 ab).bind fun x0=>
   bif x0 then (bif zX (r1.length + 1) 56 then (let y0:List zF:=(r1++[(s8.getD aC.toNat (0,0,0,0,0,0,0))])
     rec s8 s9 (zA (aC+1)) ab y0)
    else none)
   else rec s8 s9 (zA (aC+1)) ab r1)
  else none)
 else some r1
def EW (k:Nat):Nat→Tx
 |0,_,_,_,_,_=>none
 |n+1,s8,s9,aC,ab,r1=>AL k (EW k n) s8 s9 aC ab r1
def PQ (k:Nat)(a0:List zF)(cT:Int):Option (List zF):=
 (EW k k a0 (a0.length:Int) 0 cT []).bind fun z=>
 some z
def AK (k:Nat)(a0:List zF)(a1:Int):Option (List zF):=
 (PQ k a0 a1).bind fun x0=>
 some x0
def PV (k:Nat)(cS ay bF aH aG aT bg xm bP gv bQ bY gw kx:Int):Option Bool:=
 bif decide (ay=bP) then some (!(decide (aG=3)))
 else some false
abbrev TB:Type:=List zF→Int→Int→Int→Int→Int→Int→Int→Int→Int→Option (Unit⊕Int)
def AN (k:Nat)(rec:TB)(s0:List zF)(s7 s8 ab ag ah af bm bz bA:Int):Option (Unit⊕Int):=
 bif decide (s8 < s7) then (bif zE s8 s0.length then ((PV k (s0.getD s8.toNat (0,0,0,0,0,0,0)).1 (s0.getD s8.toNat (0,0,0,0,0,0,0)).2.1 (s0.getD s8.toNat (0,0,0,0,0,0,0)).2.2.1 (s0.getD s8.toNat (0,0,0,0,0,0,0)).2.2.2.1 (s0.getD s8.toNat (0,0,0,0,0,0,0)).2.2.2.2.1 (s0.getD s8.toNat (0,0,0,0,0,0,0)).2.2.2.2.2.1 (s0.getD s8.toNat (0,0,0,0,0,0,0)).2.2.2.2.2.2 ab ag ah af bm bz bA).bind fun x0=>
   bif x0 then some (.inr s8)
   else rec s0 s7 (zA (s8+1)) ab ag ah af bm bz bA)
  else none)
 else some (.inl ())
def AM (k:Nat):Nat→TB
 |0,_,_,_,_,_,_,_,_,_,_=>none
 |n+1,s0,s7,s8,ab,ag,ah,af,bm,bz,bA=>AN k (AM k n) s0 s7 s8 ab ag ah af bm bz bA
def PW (k:Nat)(a0:List zF)(kA eN kB dq dU dV eO:Int):Option Int:=
 (AM k k a0 (a0.length:Int) 0 kA eN kB dq dU dV eO).bind fun z=>
 match z with
 |.inl z1=>some (-1)
 |.inr z2=>some z2
def IF (k:Nat)(a0:List zF)(kA eN kB dq dU dV eO:Int):Option Bool:=
 (PW k a0 kA eN kB dq dU dV eO).bind fun x0=>
 some (decide (x0≥0))
def PY (k:Nat)(cS ay bF aH aG aT bg:Int)(a1:List (Int×Bool))(a2:List zF):Option (Bool×(List (Int×Bool))):=
 bif !(Option.getD (List.lookup ay a1) false) then some (true,((ay,true)::a1))
 else bif decide (aG = 3) then ((IF k a2 cS ay bF aH aG aT bg).bind fun x0=>
  some ((!x0),((ay,true)::a1)))
 else some (false,((ay,true)::a1))
abbrev K0:Type:=(List (Int×Bool))×(List zF)×(List zF)
abbrev TE:Type:=List zF→Int→Int→List (Int×Bool)→List zF→List zF→Option K0
def AP (k:Nat)(rec:TE)(s8:List zF)(s9 aC:Int)(p1:List (Int×Bool))(bV r3:List zF):Option K0:=
 bif decide (aC < s9) then (bif zE aC s8.length then ((PY k (s8.getD aC.toNat (0,0,0,0,0,0,0)).1 (s8.getD aC.toNat (0,0,0,0,0,0,0)).2.1 (s8.getD aC.toNat (0,0,0,0,0,0,0)).2.2.1 (s8.getD aC.toNat (0,0,0,0,0,0,0)).2.2.2.1 (s8.getD aC.toNat (0,0,0,0,0,0,0)).2.2.2.2.1 (s8.getD aC.toNat (0,0,0,0,0,0,0)).2.2.2.2.2.1 (s8.getD aC.toNat (0,0,0,0,0,0,0)).2.2.2.2.2.2 p1 bV).bind fun x0=>
   bif x0.1 then (bif zX (r3.length + 1) 56 then (let y0:List zF:=(r3++[(s8.getD aC.toNat (0,0,0,0,0,0,0))])
     rec s8 s9 (zA (aC+1)) x0.2 bV y0)
    else none)
   else rec s8 s9 (zA (aC+1)) x0.2 bV r3)
  else none)
 else some (p1,bV,r3)
def AO (k:Nat):Nat→TE
 |0,_,_,_,_,_,_=>none
 |n+1,s8,s9,aC,p1,bV,r3=>AP k (AO k n) s8 s9 aC p1 bV r3
def PX (k:Nat)(a0:List zF)(cT:List (Int×Bool))(Wl:List zF):Option ((List zF)×(List (Int×Bool))):=
 (AO k k a0 (a0.length:Int) 0 cT Wl []).bind fun z=>
 some (z.2.2,z.1)
def EY (k:Nat)(a0:List zF)(a1:Int):Option (List zF):=
 (AK k a0 a1).bind fun x0=>
 (PX k x0 [] x0).bind fun x1=>
 some x1.1
def zm (k:Nat)(ae:List zR)(aw:List (List Int))(av:List Int)(au:List (List Int))(xm bP gv bQ bY gw kx:Int):Option Bool:=
 bif decide (bP ≥ 0) then (bif decide (bP < (ae.length : Int)) then (bif decide (gv ≥ 0) then (bif decide (gv < (ae.length : Int)) then (bif !(decide (bP = gv)) then (bif decide (bQ ≥ 1) then (bif decide (bQ ≤ 1099511627776) then (bif decide (bY≥1) then some (decide (bY≤3))
        else some false)
       else some false)
      else some false)
     else some false)
    else some false)
   else some false)
  else some false)
 else some false
def PM (k:Nat)(cS ay bF aH aG aT bg:Int)(bj:List zR)(fU:List (List Int))(fV:List Int)(fW:List (List Int)):Option Bool:=
 (zm k bj fU fV fW cS ay bF aH aG aT bg).bind fun x0=>
 some (!x0)
abbrev TI:Type:=List zF→Int→Int→List zR→List (List Int)→List Int→List (List Int)→Option (Unit⊕Int)
def AJ (k:Nat)(rec:TI)(s0:List zF)(s7 s8:Int)(ab:List zR)(ag:List (List Int))(ah:List Int)(af:List (List Int)):Option (Unit⊕Int):=
 bif decide (s8 < s7) then (bif zE s8 s0.length then ((PM k (s0.getD s8.toNat (0,0,0,0,0,0,0)).1 (s0.getD s8.toNat (0,0,0,0,0,0,0)).2.1 (s0.getD s8.toNat (0,0,0,0,0,0,0)).2.2.1 (s0.getD s8.toNat (0,0,0,0,0,0,0)).2.2.2.1 (s0.getD s8.toNat (0,0,0,0,0,0,0)).2.2.2.2.1 (s0.getD s8.toNat (0,0,0,0,0,0,0)).2.2.2.2.2.1 (s0.getD s8.toNat (0,0,0,0,0,0,0)).2.2.2.2.2.2 ab ag ah af).bind fun x0=>
   bif x0 then some (.inr s8)
   else rec s0 s7 (zA (s8+1)) ab ag ah af)
  else none)
 else some (.inl ())
def EU (k:Nat):Nat→TI
 |0,_,_,_,_,_,_,_=>none
 |n+1,s0,s7,s8,ab,ag,ah,af=>AJ k (EU k n) s0 s7 s8 ab ag ah af
def PN (k:Nat)(a0:List zF)(bH:List zR)(ct:List (List Int))(cw:List Int)(cy:List (List Int)):Option Int:=
 (EU k k a0 (a0.length:Int) 0 bH ct cw cy).bind fun z=>
 match z with
 |.inl z1=>some (-1)
 |.inr z2=>some z2
def IE (k:Nat)(a0:List zF)(bH:List zR)(ct:List (List Int))(cw:List Int)(cy:List (List Int)):Option Bool:=
 (PN k a0 bH ct cw cy).bind fun x0=>
 some (decide (x0≥0))
abbrev K2:Type:=(List Int)×(List Int)×(List (List Int))
abbrev TL:Type:=List zF→Int→Int→List Int→List Int→List (List Int)→Option K2
def Az (k:Nat)(rec:TL)(aY:List zF)(bX aQ:Int)(r2 r3:List Int)(m4:List (List Int)):Option K2:=
 bif decide (aQ < bX) then (bif zE aQ aY.length then (bif zE (aY.getD aQ.toNat (0, 0, 0, 0, 0, 0, 0)).2.1 r2.length then (bif zE (aY.getD aQ.toNat (0, 0, 0, 0, 0, 0, 0)).2.1 r2.length then (let y0:List Int:=(r2.set (aY.getD aQ.toNat (0,0,0,0,0,0,0)).2.1.toNat (zA ((r2.getD (aY.getD aQ.toNat (0,0,0,0,0,0,0)).2.1.toNat 0)-(aY.getD aQ.toNat (0,0,0,0,0,0,0)).2.2.2.1)))
     bif zE (aY.getD aQ.toNat (0, 0, 0, 0, 0, 0, 0)).2.2.1 y0.length then (bif zE (aY.getD aQ.toNat (0, 0, 0, 0, 0, 0, 0)).2.2.1 y0.length then (let y1:List Int:=(y0.set (aY.getD aQ.toNat (0,0,0,0,0,0,0)).2.2.1.toNat (zA ((y0.getD (aY.getD aQ.toNat (0,0,0,0,0,0,0)).2.2.1.toNat 0)+(aY.getD aQ.toNat (0,0,0,0,0,0,0)).2.2.2.1)))
       bif zE (aY.getD aQ.toNat (0, 0, 0, 0, 0, 0, 0)).2.1 m4.length then (bif zE (aY.getD aQ.toNat (0, 0, 0, 0, 0, 0, 0)).2.2.1 (m4.getD (aY.getD aQ.toNat (0, 0, 0, 0, 0, 0, 0)).2.1.toNat []).length then (bif zE (aY.getD aQ.toNat (0, 0, 0, 0, 0, 0, 0)).2.2.1 (m4.getD (aY.getD aQ.toNat (0, 0, 0, 0, 0, 0, 0)).2.1.toNat []).length then (let y2:List (List Int):=(m4.set (aY.getD aQ.toNat (0,0,0,0,0,0,0)).2.1.toNat ((m4.getD (aY.getD aQ.toNat (0,0,0,0,0,0,0)).2.1.toNat []).set (aY.getD aQ.toNat (0,0,0,0,0,0,0)).2.2.1.toNat (zA (((m4.getD (aY.getD aQ.toNat (0,0,0,0,0,0,0)).2.1.toNat []).getD (aY.getD aQ.toNat (0,0,0,0,0,0,0)).2.2.1.toNat 0)+(aY.getD aQ.toNat (0,0,0,0,0,0,0)).2.2.2.1))))
          bif zE (aY.getD aQ.toNat (0, 0, 0, 0, 0, 0, 0)).2.2.1 y2.length then (bif zE (aY.getD aQ.toNat (0, 0, 0, 0, 0, 0, 0)).2.1 (y2.getD (aY.getD aQ.toNat (0, 0, 0, 0, 0, 0, 0)).2.2.1.toNat []).length then (bif zE (aY.getD aQ.toNat (0, 0, 0, 0, 0, 0, 0)).2.1 (y2.getD (aY.getD aQ.toNat (0, 0, 0, 0, 0, 0, 0)).2.2.1.toNat []).length then (let y3:List (List Int):=(y2.set (aY.getD aQ.toNat (0,0,0,0,0,0,0)).2.2.1.toNat ((y2.getD (aY.getD aQ.toNat (0,0,0,0,0,0,0)).2.2.1.toNat []).set (aY.getD aQ.toNat (0,0,0,0,0,0,0)).2.1.toNat (zA (((y2.getD (aY.getD aQ.toNat (0,0,0,0,0,0,0)).2.2.1.toNat []).getD (aY.getD aQ.toNat (0,0,0,0,0,0,0)).2.1.toNat 0)-(aY.getD aQ.toNat (0,0,0,0,0,0,0)).2.2.2.1))))
             bif !(decide ((aY.getD aQ.toNat (0, 0, 0, 0, 0, 0, 0)).2.2.2.2.1 = 3)) then (bif zE (aY.getD aQ.toNat (0, 0, 0, 0, 0, 0, 0)).2.1 r3.length then (bif zE (aY.getD aQ.toNat (0, 0, 0, 0, 0, 0, 0)).2.1 r3.length then (let y4:List Int:=(r3.set (aY.getD aQ.toNat (0,0,0,0,0,0,0)).2.1.toNat (zA ((r3.getD (aY.getD aQ.toNat (0,0,0,0,0,0,0)).2.1.toNat 0)+(aY.getD aQ.toNat (0,0,0,0,0,0,0)).2.2.2.1)))
                rec aY bX (zA (aQ+1)) y1 y4 y3)
               else none)
              else none)
             else rec aY bX (zA (aQ+1)) y1 r3 y3)
            else none)
           else none)
          else none)
         else none)
        else none)
       else none)
      else none)
     else none)
    else none)
   else none)
  else none)
 else some (r2,r3,m4)
def Ay (k:Nat):Nat→TL
 |0,_,_,_,_,_,_=>none
 |n+1,aY,bX,aQ,r2,r3,m4=>Az k (Ay k n) aY bX aQ r2 r3 m4
def Iz (k:Nat)(a0:Int)(a1:List zF):Option ((List Int)×(List Int)×(List (List Int))):=
 (vq k a0 0).bind fun x0=>
 (vq k a0 0).bind fun x1=>
 (Aw k a0 0).bind fun x2=>
 (Ay k k a1 (a1.length:Int) 0 x0 x1 x2).bind fun z=>
 some (z.1,z.2.1,z.2.2)
def PF (k:Nat)(cS ay bF aH aG aT bg a1:Int):Option Bool:=
 some (decide (ay=a1))
abbrev TN:Type:=List zF→Int→Int→Int→Option (Unit⊕Int)
def AA (k:Nat)(rec:TN)(s0:List zF)(s7 s8 ab:Int):Option (Unit⊕Int):=
 bif decide (s8 < s7) then (bif zE s8 s0.length then ((PF k (s0.getD s8.toNat (0,0,0,0,0,0,0)).1 (s0.getD s8.toNat (0,0,0,0,0,0,0)).2.1 (s0.getD s8.toNat (0,0,0,0,0,0,0)).2.2.1 (s0.getD s8.toNat (0,0,0,0,0,0,0)).2.2.2.1 (s0.getD s8.toNat (0,0,0,0,0,0,0)).2.2.2.2.1 (s0.getD s8.toNat (0,0,0,0,0,0,0)).2.2.2.2.2.1 (s0.getD s8.toNat (0,0,0,0,0,0,0)).2.2.2.2.2.2 ab).bind fun x0=>
   bif x0 then some (.inr s8)
   else rec s0 s7 (zA (s8+1)) ab)
  else none)
 else some (.inl ())
def ES (k:Nat):Nat→TN
 |0,_,_,_,_=>none
 |n+1,s0,s7,s8,ab=>AA k (ES k n) s0 s7 s8 ab
def PG (k:Nat)(a0:List zF)(cT:Int):Option Int:=
 (ES k k a0 (a0.length:Int) 0 cT).bind fun z=>
 match z with
 |.inl z1=>some (-1)
 |.inr z2=>some z2
def IA (k:Nat)(a0:List zF)(cT:Int):Option Bool:=
 (PG k a0 cT).bind fun x0=>
 some (decide (x0≥0))
def Au (k:Nat)(rec:Int→List Int→Int→Int→Option Int)(s5:Int)(bx:List Int)(aP bI:Int):Option Int:=
 bif decide (bI < aP) then (bif zE bI bx.length then(rec (zA (s5+(bx.getD bI.toNat 0))) bx aP (zA (bI+1)))
  else none)
 else some s5
def z9 (k:Nat):Nat→Int→List Int→Int→Int→Option Int
 |0,_,_,_,_=>none
 |n+1,s5,bx,aP,bI=>Au k (z9 k n) s5 bx aP bI
def Ix (k:Nat)(ae:List zR)(aw:List (List Int))(av:List Int)(au:List (List Int))(a1:Int):Option Int:=
 bif zE a1 au.length then ((z9 k k 0 (au.getD a1.toNat []) ((au.getD a1.toNat []).length:Int) 0).bind fun z=>
  some z)
 else none
def AE (k:Nat)(a0 a1:Int):Option Bool:=
 bif !(decide (a1=(-1))) then some (decide (a0>a1))
 else some false
def PH (k:Nat)(cS ay bF aH aG aT bg a1 l0 nV l7:Int)(Wm ll:List Int)(dW:List (List Int))(a4:Int)(Mb:List zR)(fY:List (List Int))(aae:List Int)(fZ:List (List Int)):Option Bool:=
 bif !(decide (ay=a1)) then some false
 else bif zE a1 ll.length then ((ta k l0 nV l7 (ll.getD a1.toNat 0)).bind fun x0=>
  bif decide (aG = 3) then (bif decide (a4<x0) then some true
   else bif zE a1 fZ.length then (bif zE bF (fZ.getD a1.toNat []).length then (bif zE a1 dW.length then (bif zE bF (dW.getD a1.toNat []).length then (bif zE a1 fY.length then (bif zE bF (fY.getD a1.toNat []).length then ((AE k (zA (((fZ.getD a1.toNat []).getD bF.toNat 0)+((dW.getD a1.toNat []).getD bF.toNat 0))) ((fY.getD a1.toNat []).getD bF.toNat 0)).bind fun x1=>
         some x1)
        else none)
       else none)
      else none)
     else none)
    else none)
   else none)
  else bif zE a1 fZ.length then (bif zE bF (fZ.getD a1.toNat []).length then (bif zE a1 dW.length then (bif zE bF (dW.getD a1.toNat []).length then (bif zE a1 fY.length then (bif zE bF (fY.getD a1.toNat []).length then ((AE k (zA (((fZ.getD a1.toNat []).getD bF.toNat 0)+((dW.getD a1.toNat []).getD bF.toNat 0))) ((fY.getD a1.toNat []).getD bF.toNat 0)).bind fun x2=>
        some x2)
       else none)
      else none)
     else none)
    else none)
   else none)
  else none)
 else none
abbrev TS:Type:=List zF→Int→Int→Int→Int→Int→Int→List Int→List Int→List (List Int)→Int→List zR→List (List Int)→List Int→List (List Int)→Option (Unit⊕Int)
def AF (k:Nat)(rec:TS)(s0:List zF)(s7 s8 ab az aI aJ:Int)(bV rN:List Int)(rO:List (List Int))(cj:Int)(gA:List zR)(rP:List (List Int))(rQ:List Int)(rR:List (List Int)):Option (Unit⊕Int):=
 bif decide (s8 < s7) then (bif zE s8 s0.length then ((PH k (s0.getD s8.toNat (0,0,0,0,0,0,0)).1 (s0.getD s8.toNat (0,0,0,0,0,0,0)).2.1 (s0.getD s8.toNat (0,0,0,0,0,0,0)).2.2.1 (s0.getD s8.toNat (0,0,0,0,0,0,0)).2.2.2.1 (s0.getD s8.toNat (0,0,0,0,0,0,0)).2.2.2.2.1 (s0.getD s8.toNat (0,0,0,0,0,0,0)).2.2.2.2.2.1 (s0.getD s8.toNat (0,0,0,0,0,0,0)).2.2.2.2.2.2 ab az aI aJ bV rN rO cj gA rP rQ rR).bind fun x0=>
   bif x0 then some (.inr s8)
   else rec s0 s7 (zA (s8+1)) ab az aI aJ bV rN rO cj gA rP rQ rR)
  else none)
 else some (.inl ())
def ET (k:Nat):Nat→TS
 |0,_,_,_,_,_,_,_,_,_,_,_,_,_,_,_=>none
 |n+1,s0,s7,s8,ab,az,aI,aJ,bV,rN,rO,cj,gA,rP,rQ,rR=>AF k (ET k n) s0 s7 s8 ab az aI aJ bV rN rO cj gA rP rQ rR
def PI (k:Nat)(a0:List zF)(cT cU dr cV:Int)(eP dX:List Int)(eQ:List (List Int))(xn:Int)(dY:List zR)(gC:List (List Int))(gD:List Int)(gE:List (List Int)):Option Int:=
 (ET k k a0 (a0.length:Int) 0 cT cU dr cV eP dX eQ xn dY gC gD gE).bind fun z=>
 match z with
 |.inl z1=>some (-1)
 |.inr z2=>some z2
def IB (k:Nat)(a0:List zF)(cT cU dr cV:Int)(eP dX:List Int)(eQ:List (List Int))(xn:Int)(dY:List zR)(gC:List (List Int))(gD:List Int)(gE:List (List Int)):Option Bool:=
 (PI k a0 cT cU dr cV eP dX eQ xn dY gC gD gE).bind fun x0=>
 some (decide (x0≥0))
abbrev K4:Type:=(List zF)×Int×(List Int)×(List Int)×(List (List Int))×(List zR)×(List (List Int))×(List Int)×(List (List Int))×Int×Int×Int×Int×Int
abbrev TV:Type:=List zF→Int→List Int→Int→Int→List Int→List Int→List (List Int)→List zR→List (List Int)→List Int→List (List Int)→Int→Int→Int→Int→Int→Option K4
def AG (k:Nat)(rec:TV)(s3:List zF)(bC:Int)(jx:List Int)(fa gu:Int)(ab ag:List Int)(ah:List (List Int))(az:List zR)(aI:List (List Int))(aJ:List Int)(aR:List (List Int))(bV cj cW de gA:Int):Option K4:=
 bif decide (gu < fa) then (bif zE gu jx.length then(rec s3 (zA (bC+(jx.getD gu.toNat 0))) jx fa (zA (gu+1)) ab ag ah az aI aJ aR bV cj cW de gA)
  else none)
 else some (s3,bC,ab,ag,ah,az,aI,aJ,aR,bV,cj,cW,de,gA)
def vw (k:Nat):Nat→TV
 |0,_,_,_,_,_,_,_,_,_,_,_,_,_,_,_,_,_=>none
 |n+1,s3,bC,jx,fa,gu,ab,ag,ah,az,aI,aJ,aR,bV,cj,cW,de,gA=>AG k (vw k n) s3 bC jx fa gu ab ag ah az aI aJ aR bV cj cW de gA
def ID (k:Nat)(gF rS:List Int)(gG:List (List Int))(bj:List zR)(fU:List (List Int))(fV:List Int)(fW:List (List Int))(a2:Int)(a3:List zF):Option Bool:=
 bif zE a2 bj.length then (bif zE a2 gF.length then (bif decide ((zA ((zA ((bj.getD a2.toNat (0,0,0)).1+(bj.getD a2.toNat (0,0,0)).2.1))+(gF.getD a2.toNat 0)))<0) then some true
   else(Ix k bj fU fV fW a2).bind fun x0=>
   bif zE a2 gG.length then ((vw k k a3 x0 (gG.getD a2.toNat []) ((gG.getD a2.toNat []).length:Int) 0 gF rS gG bj fU fV fW a2 (bj.getD a2.toNat (0,0,0)).1 (bj.getD a2.toNat (0,0,0)).2.1 (bj.getD a2.toNat (0,0,0)).2.2 (zA ((zA ((bj.getD a2.toNat (0,0,0)).1+(bj.getD a2.toNat (0,0,0)).2.1))+(gF.getD a2.toNat 0)))).bind fun z=>
    bif zE z.2.2.2.2.2.2.2.2.2.1 z.2.2.2.2.2.2.2.1.length then ((AE k z.2.1 (z.2.2.2.2.2.2.2.1.getD z.2.2.2.2.2.2.2.2.2.1.toNat 0)).bind fun x1=>
     bif x1 then some true
     else(IB k z.1 z.2.2.2.2.2.2.2.2.2.1 z.2.2.2.2.2.2.2.2.2.2.1 z.2.2.2.2.2.2.2.2.2.2.2.1 z.2.2.2.2.2.2.2.2.2.2.2.2.1 z.2.2.1 z.2.2.2.1 z.2.2.2.2.1 z.2.2.2.2.2.2.2.2.2.2.2.2.2 z.2.2.2.2.2.1 z.2.2.2.2.2.2.1 z.2.2.2.2.2.2.2.1 z.2.2.2.2.2.2.2.2.1).bind fun x2=>
     some x2)
    else none)
   else none)
  else none)
 else none
abbrev TX:Type:=List zF→Int→Int→List zR→List (List Int)→List Int→List (List Int)→List Int→List Int→List (List Int)→List Int→Option (List Int)
def AI (k:Nat)(rec:TX)(s1:List zF)(bX aQ:Int)(ab:List zR)(ag:List (List Int))(ah:List Int)(af:List (List Int))(r2 r3:List Int)(m4:List (List Int))(r5:List Int):Option (List Int):=
 bif decide (aQ < bX) then ((IA k s1 aQ).bind fun x1=>
  bif x1 then ((ID k r2 r3 m4 ab ag ah af aQ s1).bind fun x2=>
   bif x2 then (bif zX (r5.length+1) 8 then(rec s1 bX (zA (aQ+1)) ab ag ah af r2 r3 m4 (r5++[aQ]))
    else none)
   else rec s1 bX (zA (aQ+1)) ab ag ah af r2 r3 m4 r5)
  else rec s1 bX (zA (aQ+1)) ab ag ah af r2 r3 m4 r5)
 else some r5
def AH (k:Nat):Nat→TX
 |0,_,_,_,_,_,_,_,_,_,_,_=>none
 |n+1,s1,bX,aQ,ab,ag,ah,af,r2,r3,m4,r5=>AI k (AH k n) s1 bX aQ ab ag ah af r2 r3 m4 r5
def vx (k:Nat)(ae:List zR)(aw:List (List Int))(av:List Int)(au:List (List Int))(a1:List zF):Option (List Int):=
 (Iz k (ae.length:Int) a1).bind fun x0=>
 (AH k k a1 (ae.length:Int) 0 ae aw av au x0.1 x0.2.1 x0.2.2 []).bind fun z=>
 some z
def vy (k:Nat)(ae:List zR)(aw:List (List Int))(av:List Int)(au:List (List Int))(a1:List zF):Option Bool:=
 bif decide ((a1.length : Int) ≤ 64) then ((IE k a1 ae aw av au).bind fun x0=>
  bif !x0 then ((vx k ae aw av au a1).bind fun x1=>
   some (decide ((x1.length:Int)=0)))
  else some false)
 else some false
def Po (k:Nat)(cS ay bF aH aG aT bg:Int)(bj:List zR)(fU:List (List Int))(fV:List Int)(fW:List (List Int)):Option Bool:=
 (zm k bj fU fV fW cS ay bF aH aG aT bg).bind fun x0=>
 some (!x0)
abbrev T1:Type:=List zF→Int→Int→List zR→List (List Int)→List Int→List (List Int)→Option (Unit⊕Int)
def zo (k:Nat)(rec:T1)(s0:List zF)(s7 s8:Int)(ab:List zR)(ag:List (List Int))(ah:List Int)(af:List (List Int)):Option (Unit⊕Int):=
 bif decide (s8 < s7) then (bif zE s8 s0.length then ((Po k (s0.getD s8.toNat (0,0,0,0,0,0,0)).1 (s0.getD s8.toNat (0,0,0,0,0,0,0)).2.1 (s0.getD s8.toNat (0,0,0,0,0,0,0)).2.2.1 (s0.getD s8.toNat (0,0,0,0,0,0,0)).2.2.2.1 (s0.getD s8.toNat (0,0,0,0,0,0,0)).2.2.2.2.1 (s0.getD s8.toNat (0,0,0,0,0,0,0)).2.2.2.2.2.1 (s0.getD s8.toNat (0,0,0,0,0,0,0)).2.2.2.2.2.2 ab ag ah af).bind fun x0=>
   bif x0 then some (.inr s8)
   else rec s0 s7 (zA (s8+1)) ab ag ah af)
  else none)
 else some (.inl ())
def Ev (k:Nat):Nat→T1
 |0,_,_,_,_,_,_,_=>none
 |n+1,s0,s7,s8,ab,ag,ah,af=>zo k (Ev k n) s0 s7 s8 ab ag ah af
def Pp (k:Nat)(a0:List zF)(bH:List zR)(ct:List (List Int))(cw:List Int)(cy:List (List Int)):Option Int:=
 (Ev k k a0 (a0.length:Int) 0 bH ct cw cy).bind fun z=>
 match z with
 |.inl z1=>some (-1)
 |.inr z2=>some z2
def Ic (k:Nat)(a0:List zF)(bH:List zR)(ct:List (List Int))(cw:List Int)(cy:List (List Int)):Option Bool:=
 (Pp k a0 bH ct cw cy).bind fun x0=>
 some (decide (x0≥0))
def O8 (k:Nat)(bo bD aS:Int):Option Bool:=
 (HX k bo bD aS).bind fun x0=>
 some (!x0)
abbrev T3:Type:=List zR→Int→Int→Option (Unit⊕Int)
def zc (k:Nat)(rec:T3)(s0:List zR)(s7 s8:Int):Option (Unit⊕Int):=
 bif decide (s8 < s7) then (bif zE s8 s0.length then ((O8 k (s0.getD s8.toNat (0,0,0)).1 (s0.getD s8.toNat (0,0,0)).2.1 (s0.getD s8.toNat (0,0,0)).2.2).bind fun x0=>
   bif x0 then some (.inr s8)
   else rec s0 s7 (zA (s8+1)))
  else none)
 else some (.inl ())
def Ei (k:Nat):Nat→T3
 |0,_,_,_=>none
 |n+1,s0,s7,s8=>zc k (Ei k n) s0 s7 s8
def O9 (k:Nat)(a0:List zR):Option Int:=
 (Ei k k a0 (a0.length:Int) 0).bind fun z=>
 match z with
 |.inl z1=>some (-1)
 |.inr z2=>some z2
def H4 (k:Nat)(a0:List zR):Option Bool:=
 (O9 k a0).bind fun x0=>
 some (decide (x0≥0))
def O4 (k:Nat)(a0:Int):Option Bool:=
 bif decide (a0≥(-1)) then some (decide (a0≤2305843009213693952))
 else some false
def Pb (k:Nat)(a0:Int):Option Bool:=
 (O4 k a0).bind fun x0=>
 some (!x0)
abbrev T5:Type:=List Int→Int→Int→Option (Unit⊕Int)
def zd (k:Nat)(rec:T5)(s0:List Int)(s7 s8:Int):Option (Unit⊕Int):=
 bif decide (s8 < s7) then (bif zE s8 s0.length then ((Pb k (s0.getD s8.toNat 0)).bind fun x0=>
   bif x0 then some (.inr s8)
   else rec s0 s7 (zA (s8+1)))
  else none)
 else some (.inl ())
def Ej (k:Nat):Nat→T5
 |0,_,_,_=>none
 |n+1,s0,s7,s8=>zd k (Ej k n) s0 s7 s8
def Pc (k:Nat)(a0:List Int):Option Int:=
 (Ej k k a0 (a0.length:Int) 0).bind fun z=>
 match z with
 |.inl z1=>some (-1)
 |.inr z2=>some z2
def H5 (k:Nat)(a0:List Int):Option Bool:=
 (Pc k a0).bind fun x0=>
 some (decide (x0≥0))
def El (k:Nat)(a0:List Int)(a1:Int):Option Bool:=
 bif decide ((a0.length : Int) = a1) then ((H5 k a0).bind fun x0=>
  some (!x0))
 else some false
abbrev T8:Type:=Int→List (List Int)→Int→Int→Option (Unit⊕Bool)
def zg (k:Nat)(rec:T8)(s1:Int)(aP:List (List Int))(bI aY:Int):Option (Unit⊕Bool):=
 bif decide (aY < bI) then (bif zE aY aP.length then ((El k (aP.getD aY.toNat []) s1).bind fun x0=>
   bif !x0 then some (.inr false)
   else rec s1 aP bI (zA (aY+1)))
  else none)
 else some (.inl ())
def Em (k:Nat):Nat→T8
 |0,_,_,_,_=>none
 |n+1,s1,aP,bI,aY=>zg k (Em k n) s1 aP bI aY
def H8 (k:Nat)(a0:List (List Int))(a1:Int):Option Bool:=
 bif !(decide ((a0.length:Int)=a1)) then some false
 else(Em k k a1 a0 (a0.length:Int) 0).bind fun z=>
 match z with
 |.inl z1=>some true
 |.inr z2=>some z2
def HZ (k:Nat)(a0:Int):Option Bool:=
 bif decide (a0>(-72057594037927936)) then some (decide (a0<72057594037927936))
 else some false
def Pd (k:Nat)(a0:Int):Option Bool:=
 (HZ k a0).bind fun x0=>
 some (!x0)
abbrev Ua:Type:=List Int→Int→Int→Option (Unit⊕Int)
def ze (k:Nat)(rec:Ua)(s0:List Int)(s7 s8:Int):Option (Unit⊕Int):=
 bif decide (s8 < s7) then (bif zE s8 s0.length then ((Pd k (s0.getD s8.toNat 0)).bind fun x0=>
   bif x0 then some (.inr s8)
   else rec s0 s7 (zA (s8+1)))
  else none)
 else some (.inl ())
def Ek (k:Nat):Nat→Ua
 |0,_,_,_=>none
 |n+1,s0,s7,s8=>ze k (Ek k n) s0 s7 s8
def Pe (k:Nat)(a0:List Int):Option Int:=
 (Ek k k a0 (a0.length:Int) 0).bind fun z=>
 match z with
 |.inl z1=>some (-1)
 |.inr z2=>some z2
def H6 (k:Nat)(a0:List Int):Option Bool:=
 (Pe k a0).bind fun x0=>
 some (decide (x0≥0))
def H7 (k:Nat)(a0:List Int)(a1:Int):Option Bool:=
 bif decide ((a0.length : Int) = a1) then ((H6 k a0).bind fun x0=>
  some (!x0))
 else some false
abbrev Uc:Type:=Int→List (List Int)→Int→Int→Option (Unit⊕Bool)
def zh (k:Nat)(rec:Uc)(s1:Int)(aP:List (List Int))(bI aY:Int):Option (Unit⊕Bool):=
 bif decide (aY < bI) then (bif zE aY aP.length then ((H7 k (aP.getD aY.toNat []) s1).bind fun x0=>
   bif !x0 then some (.inr false)
   else rec s1 aP bI (zA (aY+1)))
  else none)
 else some (.inl ())
def En (k:Nat):Nat→Uc
 |0,_,_,_,_=>none
 |n+1,s1,aP,bI,aY=>zh k (En k n) s1 aP bI aY
def H9 (k:Nat)(a0:List (List Int))(a1:Int):Option Bool:=
 bif !(decide ((a0.length:Int)=a1)) then some false
 else(En k k a1 a0 (a0.length:Int) 0).bind fun z=>
 match z with
 |.inl z1=>some true
 |.inr z2=>some z2
abbrev K5:Type:=((List (List Int))×(List (List Int))×Int×Int)⊕Bool
abbrev Ue:Type:=List (List Int)→Int→List (List Int)→Int→Int→List Int→Int→Int→Option K5
def zj (k:Nat)(rec:Ue)(s0:List (List Int))(s3:Int)(s7:List (List Int))(s8 s9:Int)(bI:List Int)(aY bX:Int):Option K5:=
 bif decide (bX < aY) then (bif zE bX bI.length then (bif zE bX s0.length then (bif zE s3 (s0.getD bX.toNat []).length then (bif !(decide (((s0.getD bX.toNat []).getD s3.toNat 0)=(zA (0-(bI.getD bX.toNat 0))))) then some (.inr false)
     else rec s0 s3 s7 s8 s9 bI aY (zA (bX+1)))
    else none)
   else none)
  else none)
 else some (.inl (s0,s7,s8,s9))
def zi (k:Nat):Nat→Ue
 |0,_,_,_,_,_,_,_,_=>none
 |n+1,s0,s3,s7,s8,s9,bI,aY,bX=>zj k (zi k n) s0 s3 s7 s8 s9 bI aY bX
abbrev Ug:Type:=List (List Int)→List (List Int)→Int→Int→Option (Unit⊕Bool)
def zk (k:Nat)(rec:Ug)(s0 s7:List (List Int))(s8 s9:Int):Option (Unit⊕Bool):=
 bif decide (s9 < s8) then (bif zE s9 s7.length then ((zi k k s0 s9 s7 s8 s9 (s7.getD s9.toNat []) ((s7.getD s9.toNat []).length:Int) 0).bind fun z=>
   match z with
   |.inl z1=>rec z1.1 z1.2.1 z1.2.2.1 (zA (z1.2.2.2+1))
   |.inr z2=>some (.inr z2))
  else none)
 else some (.inl ())
def Eo (k:Nat):Nat→Ug
 |0,_,_,_,_=>none
 |n+1,s0,s7,s8,s9=>zk k (Eo k n) s0 s7 s8 s9
def Ia (k:Nat)(a0:List (List Int)):Option Bool:=
 (Eo k k a0 a0 (a0.length:Int) 0).bind fun z3=>
 match z3 with
 |.inl z4=>some true
 |.inr z5=>some z5
def Ep (k:Nat)(ae:List zR)(aw:List (List Int))(av:List Int)(au:List (List Int)):Option Bool:=
 bif decide ((ae.length:Int)<1) then some false
 else bif decide ((ae.length:Int)>6) then some false
 else(H4 k ae).bind fun x0=>
 bif x0 then some false
 else(H8 k aw (ae.length:Int)).bind fun x1=>
 bif x1 then ((El k av (ae.length:Int)).bind fun x2=>
  bif x2 then ((H9 k au (ae.length:Int)).bind fun x3=>
   bif x3 then ((Ia k au).bind fun x4=>
    some x4)
   else some false)
  else some false)
 else some false
abbrev K8:Type:=(List zR)×(List (List Int))×(List Int)×(List (List Int))×(List zR)×(List (List Int))×(List Int)×(List (List Int))
abbrev Ul:Type:=List zF→Int→Int→List zR→List (List Int)→List Int→List (List Int)→List zR→List (List Int)→List Int→List (List Int)→Option K8
def zt (k:Nat)(rec:Ul)(bp:List zF)(ie aW:Int)(ab:List zR)(ag:List (List Int))(ah:List Int)(af:List (List Int))(r3:List zR)(m4:List (List Int))(r5:List Int)(m6:List (List Int)):Option K8:=
 bif decide (aW < ie) then (bif zE aW bp.length then (bif zE (bp.getD aW.toNat (0, 0, 0, 0, 0, 0, 0)).2.1 r3.length then (bif zE (bp.getD aW.toNat (0, 0, 0, 0, 0, 0, 0)).2.2.1 r3.length then (let y0:List zR:=(r3.set (bp.getD aW.toNat (0,0,0,0,0,0,0)).2.1.toNat ((zA ((r3.getD (bp.getD aW.toNat (0,0,0,0,0,0,0)).2.1.toNat (0,0,0)).1-(bp.getD aW.toNat (0,0,0,0,0,0,0)).2.2.2.1)),(r3.getD (bp.getD aW.toNat (0,0,0,0,0,0,0)).2.1.toNat (0,0,0)).2))
     let y1:List zR:=(y0.set (bp.getD aW.toNat (0,0,0,0,0,0,0)).2.2.1.toNat ((zA ((y0.getD (bp.getD aW.toNat (0,0,0,0,0,0,0)).2.2.1.toNat (0,0,0)).1+(bp.getD aW.toNat (0,0,0,0,0,0,0)).2.2.2.1)),(y0.getD (bp.getD aW.toNat (0,0,0,0,0,0,0)).2.2.1.toNat (0,0,0)).2))
     bif !(decide ((bp.getD aW.toNat (0, 0, 0, 0, 0, 0, 0)).2.2.2.2.1 = 3)) then ((ta k (y1.getD (bp.getD aW.toNat (0,0,0,0,0,0,0)).2.1.toNat (0,0,0)).1 (y1.getD (bp.getD aW.toNat (0,0,0,0,0,0,0)).2.1.toNat (0,0,0)).2.1 (y1.getD (bp.getD aW.toNat (0,0,0,0,0,0,0)).2.1.toNat (0,0,0)).2.2 (bp.getD aW.toNat (0,0,0,0,0,0,0)).2.2.2.1).bind fun x2=>
      let y2:List zR:=(y1.set (bp.getD aW.toNat (0,0,0,0,0,0,0)).2.1.toNat ((y1.getD (bp.getD aW.toNat (0,0,0,0,0,0,0)).2.1.toNat (0,0,0)).1,(y1.getD (bp.getD aW.toNat (0,0,0,0,0,0,0)).2.1.toNat (0,0,0)).2.1,x2))
      bif zE (bp.getD aW.toNat (0, 0, 0, 0, 0, 0, 0)).2.1 m6.length then (bif zE (bp.getD aW.toNat (0, 0, 0, 0, 0, 0, 0)).2.2.1 (m6.getD (bp.getD aW.toNat (0, 0, 0, 0, 0, 0, 0)).2.1.toNat []).length then (bif zE (bp.getD aW.toNat (0, 0, 0, 0, 0, 0, 0)).2.2.1 (m6.getD (bp.getD aW.toNat (0, 0, 0, 0, 0, 0, 0)).2.1.toNat []).length then (let y3:List (List Int):=(m6.set (bp.getD aW.toNat (0,0,0,0,0,0,0)).2.1.toNat ((m6.getD (bp.getD aW.toNat (0,0,0,0,0,0,0)).2.1.toNat []).set (bp.getD aW.toNat (0,0,0,0,0,0,0)).2.2.1.toNat (zA (((m6.getD (bp.getD aW.toNat (0,0,0,0,0,0,0)).2.1.toNat []).getD (bp.getD aW.toNat (0,0,0,0,0,0,0)).2.2.1.toNat 0)+(bp.getD aW.toNat (0,0,0,0,0,0,0)).2.2.2.1))))
         bif zE (bp.getD aW.toNat (0, 0, 0, 0, 0, 0, 0)).2.2.1 y3.length then (bif zE (bp.getD aW.toNat (0, 0, 0, 0, 0, 0, 0)).2.1 (y3.getD (bp.getD aW.toNat (0, 0, 0, 0, 0, 0, 0)).2.2.1.toNat []).length then (bif zE (bp.getD aW.toNat (0, 0, 0, 0, 0, 0, 0)).2.1 (y3.getD (bp.getD aW.toNat (0, 0, 0, 0, 0, 0, 0)).2.2.1.toNat []).length then (let y4:List (List Int):=(y3.set (bp.getD aW.toNat (0,0,0,0,0,0,0)).2.2.1.toNat ((y3.getD (bp.getD aW.toNat (0,0,0,0,0,0,0)).2.2.1.toNat []).set (bp.getD aW.toNat (0,0,0,0,0,0,0)).2.1.toNat (zA (((y3.getD (bp.getD aW.toNat (0,0,0,0,0,0,0)).2.2.1.toNat []).getD (bp.getD aW.toNat (0,0,0,0,0,0,0)).2.1.toNat 0)-(bp.getD aW.toNat (0,0,0,0,0,0,0)).2.2.2.1))))
            rec bp ie (zA (aW+1)) ab ag ah af y2 m4 r5 y4)
           else none)
          else none)
         else none)
        else none)
       else none)
      else none)
     else bif zE (bp.getD aW.toNat (0, 0, 0, 0, 0, 0, 0)).2.1 m6.length then (bif zE (bp.getD aW.toNat (0, 0, 0, 0, 0, 0, 0)).2.2.1 (m6.getD (bp.getD aW.toNat (0, 0, 0, 0, 0, 0, 0)).2.1.toNat []).length then (bif zE (bp.getD aW.toNat (0, 0, 0, 0, 0, 0, 0)).2.2.1 (m6.getD (bp.getD aW.toNat (0, 0, 0, 0, 0, 0, 0)).2.1.toNat []).length then (let y5:List (List Int):=(m6.set (bp.getD aW.toNat (0,0,0,0,0,0,0)).2.1.toNat ((m6.getD (bp.getD aW.toNat (0,0,0,0,0,0,0)).2.1.toNat []).set (bp.getD aW.toNat (0,0,0,0,0,0,0)).2.2.1.toNat (zA (((m6.getD (bp.getD aW.toNat (0,0,0,0,0,0,0)).2.1.toNat []).getD (bp.getD aW.toNat (0,0,0,0,0,0,0)).2.2.1.toNat 0)+(bp.getD aW.toNat (0,0,0,0,0,0,0)).2.2.2.1))))
        bif zE (bp.getD aW.toNat (0, 0, 0, 0, 0, 0, 0)).2.2.1 y5.length then (bif zE (bp.getD aW.toNat (0, 0, 0, 0, 0, 0, 0)).2.1 (y5.getD (bp.getD aW.toNat (0, 0, 0, 0, 0, 0, 0)).2.2.1.toNat []).length then (bif zE (bp.getD aW.toNat (0, 0, 0, 0, 0, 0, 0)).2.1 (y5.getD (bp.getD aW.toNat (0, 0, 0, 0, 0, 0, 0)).2.2.1.toNat []).length then (let y6:List (List Int):=(y5.set (bp.getD aW.toNat (0,0,0,0,0,0,0)).2.2.1.toNat ((y5.getD (bp.getD aW.toNat (0,0,0,0,0,0,0)).2.2.1.toNat []).set (bp.getD aW.toNat (0,0,0,0,0,0,0)).2.1.toNat (zA (((y5.getD (bp.getD aW.toNat (0,0,0,0,0,0,0)).2.2.1.toNat []).getD (bp.getD aW.toNat (0,0,0,0,0,0,0)).2.1.toNat 0)-(bp.getD aW.toNat (0,0,0,0,0,0,0)).2.2.2.1))))
           rec bp ie (zA (aW+1)) ab ag ah af y1 m4 r5 y6)
          else none)
         else none)
        else none)
       else none)
      else none)
     else none)
    else none)
   else none)
  else none)
 else some (ab,ag,ah,af,r3,m4,r5,m6)
def zr (k:Nat):Nat→Ul
 |0,_,_,_,_,_,_,_,_,_,_,_=>none
 |n+1,bp,ie,aW,ab,ag,ah,af,r3,m4,r5,m6=>zt k (zr k n) bp ie aW ab ag ah af r3 m4 r5 m6
def nr (k:Nat)(ae:List zR)(aw:List (List Int))(av:List Int)(au:List (List Int))(a1:List zF):Option ((List zR)×(List (List Int))×(List Int)×(List (List Int))×Int):=
 bif decide ((a1.length:Int)>64) then some (ae,aw,av,au,1)
 else(Ic k a1 ae aw av au).bind fun x0=>
 bif x0 then some (ae,aw,av,au,1)
 else(jR k ae aw av au).bind fun x1=>
 (zr k k a1 (a1.length:Int) 0 ae aw av au x1.1 x1.2.1 x1.2.2.1 x1.2.2.2).bind fun z=>
 (Ep k z.2.2.2.2.1 z.2.2.2.2.2.1 z.2.2.2.2.2.2.1 z.2.2.2.2.2.2.2).bind fun x3=>
 bif !x3 then some (jM z 8)
 else some (qU6 z 0)
abbrev La:Type:=((List zR)×(List (List Int))×(List Int)×(List (List Int))×Int×Int×Int×Int×Int×Int×Int)⊕(Bool×Int×Int×Int×Int×Int×Int×Int×(List zR)×(List (List Int))×(List Int)×(List (List Int)))
abbrev Uo:Type:=Int→Int→List zR→List (List Int)→List Int→List (List Int)→Int→Int→Int→Int→Int→Int→Int→List zF→Option La
def Bf (k:Nat)(rec:Uo)(bX aQ:Int)(ab:List zR)(ag:List (List Int))(ah:List Int)(af:List (List Int))(az aI aJ aR aZ ba bb:Int)(r3:List zF):Option La:=
 bif decide (aQ < bX) then (bif zE aQ r3.length then ((vy k ab ag ah af [(r3.getD aQ.toNat (0,0,0,0,0,0,0))]).bind fun x1=>
   bif !x1 then(rec bX (zA (aQ+1)) ab ag ah af az aI aJ aR aZ ba bb r3)
   else(nr k ab ag ah af [(r3.getD aQ.toNat (0,0,0,0,0,0,0))]).bind fun x2=>
   bif decide (x2.2.2.2.2=0) then some (.inr (true,(kU (r3.getD aQ.toNat (0,0,0,0,0,0,0)) (vM x2))))
   else rec bX (zA (aQ+1)) ab ag ah af az aI aJ aR aZ ba bb r3)
  else none)
 else some (.inl (ab,ag,ah,af,az,aI,aJ,aR,aZ,ba,bb))
def Fc (k:Nat):Nat→Uo
 |0,_,_,_,_,_,_,_,_,_,_,_,_,_,_=>none
 |n+1,bX,aQ,ab,ag,ah,af,az,aI,aJ,aR,aZ,ba,bb,r3=>Bf k (Fc k n) bX aQ ab ag ah af az aI aJ aR aZ ba bb r3
def IX (k:Nat)(ae:List zR)(aw:List (List Int))(av:List Int)(au:List (List Int))(a1:List zF)(a2:Int):Option (Int×Int×Int×Int×Int×Int×Int×(List zR)×(List (List Int))×(List Int)×(List (List Int))×Bool):=
 (EY k a1 a2).bind fun x0=>
 (Fc k k (x0.length:Int) 0 ae aw av au 0 0 0 0 0 0 0 x0).bind fun z=>
 match z with
 |.inl z1=>some (0,0,0,0,0,0,0,(jM z1 false))
 |.inr z2=>some (vKe z2 z2.1)
abbrev Lb:Type:=(List zF)×(List zR)×(List (List Int))×(List Int)×(List (List Int))×(List zF)
abbrev Us:Type:=Int→List zF→List zR→List (List Int)→List Int→List (List Int)→List zF→Option Lb
def Bg (k:Nat)(rec:Us)(s2:Int)(s7:List zF)(ab:List zR)(ag:List (List Int))(ah:List Int)(af:List (List Int))(r1:List zF):Option Lb:=
 (IX k ab ag ah af s7 s2).bind fun x0=>
 bif !x0.2.2.2.2.2.2.2.2.2.2.2 then some (s7,ab,ag,ah,af,r1)
 else(ny k s7 x0.1).bind fun x1=>
 bif zX (r1.length + 1) 56 then (let y0:List zF:=(r1++[(jX x0)])
  rec s2 x1.1 x0.2.2.2.2.2.2.2.1 x0.2.2.2.2.2.2.2.2.1 x0.2.2.2.2.2.2.2.2.2.1 x0.2.2.2.2.2.2.2.2.2.2.1 y0)
 else none
def Fe (k:Nat):Nat→Us
 |0,_,_,_,_,_,_,_=>none
 |n+1,s2,s7,ab,ag,ah,af,r1=>Bg k (Fe k n) s2 s7 ab ag ah af r1
def IZ (k:Nat)(ae:List zR)(aw:List (List Int))(av:List Int)(au:List (List Int))(a1:List zF)(a2:Int):Option Gl:=
 (Fe k k a2 a1 ae aw av au []).bind fun z=>
 some (mG z (z.1,z.2.2.2.2.2))
abbrev Ld:Type:=(Int×Int×(List zR)×(List (List Int))×(List Int)×(List (List Int))×Int×Int×Int×Int×Int×Int×Int×Int×Int×Int×Int×Int×Int×Int×(List zF))⊕qUg
abbrev Uu:Type:=Int→Int→Int→Int→List zR→List (List Int)→List Int→List (List Int)→Int→Int→Int→Int→Int→Int→Int→Int→Int→Int→Int→Int→Int→Int→List zF→Int→Int→Int→Int→Int→Int→Int→Option Ld
def Bh (k:Nat)(rec:Uu)(bM cL ie aW:Int)(ab:List zR)(ag:List (List Int))(ah:List Int)(af:List (List Int))(az aI aJ aR aZ ba bb cz cB bE aU cm cn cp:Int)(r2:List zF)(cj cW de fx fy fz fB:Int):Option Ld:=
 bif decide (aW < ie) then (bif zE aW r2.length then (bif !(decide ((r2.getD aW.toNat (0,0,0,0,0,0,0)).2.1=de)) then(rec bM cL ie (zA (aW+1)) ab ag ah af az aI aJ aR aZ ba bb cz cB bE aU cm cn cp r2 cj cW de fx fy fz fB)
   else bif !(decide ((r2.getD aW.toNat (0,0,0,0,0,0,0)).2.2.1=cW)) then(rec bM cL ie (zA (aW+1)) ab ag ah af az aI aJ aR aZ ba bb cz cB bE aU cm cn cp r2 cj cW de fx fy fz fB)
   else bif decide (cW≥(r2.getD aW.toNat (0,0,0,0,0,0,0)).2.1) then(rec bM cL ie (zA (aW+1)) ab ag ah af az aI aJ aR aZ ba bb cz cB bE aU cm cn cp r2 cj cW de fx fy fz fB)
   else(vy k ab ag ah af [(cj,cW,de,fx,fy,fz,fB),(r2.getD aW.toNat (0,0,0,0,0,0,0))]).bind fun x1=>
   bif !x1 then(rec bM cL ie (zA (aW+1)) ab ag ah af az aI aJ aR aZ ba bb cz cB bE aU cm cn cp r2 cj cW de fx fy fz fB)
   else(nr k ab ag ah af [(cj,cW,de,fx,fy,fz,fB),(r2.getD aW.toNat (0,0,0,0,0,0,0))]).bind fun x2=>
   bif decide (x2.2.2.2.2=0) then some (.inr (true,cj,cW,de,fx,fy,fz,fB,(kU (r2.getD aW.toNat (0,0,0,0,0,0,0)) (vM x2))))
   else rec bM cL ie (zA (aW+1)) ab ag ah af az aI aJ aR aZ ba bb cz cB bE aU cm cn cp r2 cj cW de fx fy fz fB)
  else none)
 else some (.inl (bM,cL,ab,ag,ah,af,az,aI,aJ,aR,aZ,ba,bb,cz,cB,bE,aU,cm,cn,cp,r2))
def Ff (k:Nat):Nat→Uu
 |0,_,_,_,_,_,_,_,_,_,_,_,_,_,_,_,_,_,_,_,_,_,_,_,_,_,_,_,_,_,_=>none
 |n+1,bM,cL,ie,aW,ab,ag,ah,af,az,aI,aJ,aR,aZ,ba,bb,cz,cB,bE,aU,cm,cn,cp,r2,cj,cW,de,fx,fy,fz,fB=>Bh k (Ff k n) bM cL ie aW ab ag ah af az aI aJ aR aZ ba bb cz cB bE aU cm cn cp r2 cj cW de fx fy fz fB
abbrev Le:Type:=(Int×Int×Int×Int×Int×Int×Int×Int×Int×Int×Int×Int×Int×Int)⊕qUg
abbrev Ux:Type:=Int→Int→List zR→List (List Int)→List Int→List (List Int)→Int→Int→Int→Int→Int→Int→Int→Int→Int→Int→Int→Int→Int→Int→List zF→Option Le
def Bi (k:Nat)(rec:Ux)(bM cL:Int)(ab:List zR)(ag:List (List Int))(ah:List Int)(af:List (List Int))(az aI aJ aR aZ ba bb cz cB bE aU cm cn cp:Int)(r2:List zF):Option Le:=
 bif decide (cL < bM) then (bif zE cL r2.length then ((Ff k k bM cL (r2.length:Int) 0 ab ag ah af az aI aJ aR aZ ba bb cz cB bE aU cm cn cp r2 (r2.getD cL.toNat (0,0,0,0,0,0,0)).1 (r2.getD cL.toNat (0,0,0,0,0,0,0)).2.1 (r2.getD cL.toNat (0,0,0,0,0,0,0)).2.2.1 (r2.getD cL.toNat (0,0,0,0,0,0,0)).2.2.2.1 (r2.getD cL.toNat (0,0,0,0,0,0,0)).2.2.2.2.1 (r2.getD cL.toNat (0,0,0,0,0,0,0)).2.2.2.2.2.1 (r2.getD cL.toNat (0,0,0,0,0,0,0)).2.2.2.2.2.2).bind fun z=>
   match z with
   |.inl z1=>rec z1.1 (zA (z1.2.1+1)) z1.2.2.1 z1.2.2.2.1 z1.2.2.2.2.1 z1.2.2.2.2.2.1 z1.2.2.2.2.2.2.1 z1.2.2.2.2.2.2.2.1 z1.2.2.2.2.2.2.2.2.1 z1.2.2.2.2.2.2.2.2.2.1 z1.2.2.2.2.2.2.2.2.2.2.1 z1.2.2.2.2.2.2.2.2.2.2.2.1 z1.2.2.2.2.2.2.2.2.2.2.2.2.1 z1.2.2.2.2.2.2.2.2.2.2.2.2.2.1 z1.2.2.2.2.2.2.2.2.2.2.2.2.2.2.1 z1.2.2.2.2.2.2.2.2.2.2.2.2.2.2.2.1 z1.2.2.2.2.2.2.2.2.2.2.2.2.2.2.2.2.1 z1.2.2.2.2.2.2.2.2.2.2.2.2.2.2.2.2.2.1 z1.2.2.2.2.2.2.2.2.2.2.2.2.2.2.2.2.2.2.1 z1.2.2.2.2.2.2.2.2.2.2.2.2.2.2.2.2.2.2.2.1 z1.2.2.2.2.2.2.2.2.2.2.2.2.2.2.2.2.2.2.2.2
   |.inr z2=>some (.inr (z2.1,z2.2.1,z2.2.2.1,z2.2.2.2.1,z2.2.2.2.2.1,z2.2.2.2.2.2.1,z2.2.2.2.2.2.2.1,z2.2.2.2.2.2.2.2.1,z2.2.2.2.2.2.2.2.2.1,z2.2.2.2.2.2.2.2.2.2.1,z2.2.2.2.2.2.2.2.2.2.2.1,z2.2.2.2.2.2.2.2.2.2.2.2.1,z2.2.2.2.2.2.2.2.2.2.2.2.2.1,z2.2.2.2.2.2.2.2.2.2.2.2.2.2.1,z2.2.2.2.2.2.2.2.2.2.2.2.2.2.2.1,z2.2.2.2.2.2.2.2.2.2.2.2.2.2.2.2.1,z2.2.2.2.2.2.2.2.2.2.2.2.2.2.2.2.2.1,z2.2.2.2.2.2.2.2.2.2.2.2.2.2.2.2.2.2.1,z2.2.2.2.2.2.2.2.2.2.2.2.2.2.2.2.2.2.2)))
  else none)
 else some (.inl (az,aI,aJ,aR,aZ,ba,bb,cz,cB,bE,aU,cm,cn,cp))
def Fg (k:Nat):Nat→Ux
 |0,_,_,_,_,_,_,_,_,_,_,_,_,_,_,_,_,_,_,_,_,_=>none
 |n+1,bM,cL,ab,ag,ah,af,az,aI,aJ,aR,aZ,ba,bb,cz,cB,bE,aU,cm,cn,cp,r2=>Bi k (Fg k n) bM cL ab ag ah af az aI aJ aR aZ ba bb cz cB bE aU cm cn cp r2
def I5 (k:Nat)(ae:List zR)(aw:List (List Int))(av:List Int)(au:List (List Int))(a1:List zF)(a2:Int):Option (Int×Int×Int×Int×Int×Int×Int×Int×Int×Int×Int×Int×Int×Int×(List zR)×(List (List Int))×(List Int)×(List (List Int))×Bool):=
 (EY k a1 a2).bind fun x0=>
 (Fg k k (x0.length:Int) 0 ae aw av au 0 0 0 0 0 0 0 0 0 0 0 0 0 0 x0).bind fun z3=>
 match z3 with
 |.inl z4=>some (0,0,0,0,0,0,0,0,0,0,0,0,0,0,[],[],[],[],false)
 |.inr z5=>some (Uw z5 z5.1)
abbrev Lf:Type:=Int×(List zF)×(List zR)×(List (List Int))×(List Int)×(List (List Int))×(List zF)
abbrev UE:Type:=Int→List zF→Int→Int→List zR→List (List Int)→List Int→List (List Int)→List zF→List zF→Option Lf
def tt (k:Nat)(rec:UE)(s2:Int)(s7:List zF)(xl pw:Int)(ab:List zR)(ag:List (List Int))(ah:List Int)(af:List (List Int))(r1 r2:List zF):Option Lf:=
 bif decide (pw < xl) then (bif zE pw r2.length then ((ny k s7 (r2.getD pw.toNat (0,0,0,0,0,0,0)).1).bind fun x1=>
   bif zX (r1.length + 1) 56 then (let y0:List zF:=(r1++[(r2.getD pw.toNat (0,0,0,0,0,0,0))])
    rec s2 x1.1 xl (zA (pw+1)) ab ag ah af y0 r2)
   else none)
  else none)
 else some (s2,s7,ab,ag,ah,af,r1)
def rj (k:Nat):Nat→UE
 |0,_,_,_,_,_,_,_,_,_,_=>none
 |n+1,s2,s7,xl,pw,ab,ag,ah,af,r1,r2=>tt k (rj k n) s2 s7 xl pw ab ag ah af r1 r2
abbrev Lg:Type:=(List zF)×(List zR)×(List (List Int))×(List Int)×(List (List Int))×(List zF)
abbrev UG:Type:=Int→List zF→List zR→List (List Int)→List Int→List (List Int)→List zF→Option Lg
def Bj (k:Nat)(rec:UG)(s2:Int)(s7:List zF)(ab:List zR)(ag:List (List Int))(ah:List Int)(af:List (List Int))(r1:List zF):Option Lg:=
 (I5 k ab ag ah af s7 s2).bind fun x0=>
 bif !x0.2.2.2.2.2.2.2.2.2.2.2.2.2.2.2.2.2.2 then some (s7,ab,ag,ah,af,r1)
 else(rj k k s2 s7 2 0 x0.2.2.2.2.2.2.2.2.2.2.2.2.2.2.1 x0.2.2.2.2.2.2.2.2.2.2.2.2.2.2.2.1 x0.2.2.2.2.2.2.2.2.2.2.2.2.2.2.2.2.1 x0.2.2.2.2.2.2.2.2.2.2.2.2.2.2.2.2.2.1 r1 [(jX x0),(yYg x0)]).bind fun z=>
 rec z.1 z.2.1 z.2.2.1 z.2.2.2.1 z.2.2.2.2.1 z.2.2.2.2.2.1 z.2.2.2.2.2.2
def Fh (k:Nat):Nat→UG
 |0,_,_,_,_,_,_,_=>none
 |n+1,s2,s7,ab,ag,ah,af,r1=>Bj k (Fh k n) s2 s7 ab ag ah af r1
def I6 (k:Nat)(ae:List zR)(aw:List (List Int))(av:List Int)(au:List (List Int))(a1:List zF)(a2:Int):Option Gl:=
 (Fh k k a2 a1 ae aw av au []).bind fun z1=>
 some (mG z1 (z1.1,z1.2.2.2.2.2))
abbrev Lh:Type:=(List zF)×(List zR)×(List (List Int))×(List Int)×(List (List Int))×(List zF)
abbrev UK:Type:=Int→List zF→List zR→List (List Int)→List Int→List (List Int)→List zF→Option Lh
def Jb (k:Nat)(rec:UK)(s2:Int)(s7:List zF)(ab:List zR)(ag:List (List Int))(ah:List Int)(af:List (List Int))(r1:List zF):Option Lh:=
 (IZ k ab ag ah af s7 s2).bind fun x0=>
 (I6 k x0.1 x0.2.1 x0.2.2.1 x0.2.2.2.1 x0.2.2.2.2.1 s2).bind fun x1=>
 bif zX (r1.length + x0.2.2.2.2.2.length) 56 then (bif zX ((r1 ++ x0.2.2.2.2.2).length + x1.2.2.2.2.2.length) 56 then (let y0:List zF:=((r1++x0.2.2.2.2.2)++x1.2.2.2.2.2)
   bif decide ((x1.2.2.2.2.2.length:Int)=0) then some (x1.2.2.2.2.1,(jM x1 y0))
   else rec s2 x1.2.2.2.2.1 x1.1 x1.2.1 x1.2.2.1 x1.2.2.2.1 y0)
  else none)
 else none
def Fo (k:Nat):Nat→UK
 |0,_,_,_,_,_,_,_=>none
 |n+1,s2,s7,ab,ag,ah,af,r1=>Jb k (Fo k n) s2 s7 ab ag ah af r1
def Fp (k:Nat)(ae:List zR)(aw:List (List Int))(av:List Int)(au:List (List Int))(a1:List zF)(a2:Int):Option Gl:=
 (Fo k k a2 a1 ae aw av au []).bind fun z=>
 some (mG z (z.1,z.2.2.2.2.2))
def Qp (k:Nat)(a0:List Int):Option (List Int):=
 bif zX (0+a0.length) 8 then some a0
 else none
def Qr (k:Nat)(cS ay bF aH aG aT bg:Int)(a1:List Int):Option (Bool×(List Int)):=
 bif decide (ay<0) then some (false,a1)
 else bif decide (ay≥(a1.length:Int)) then some (false,a1)
 else bif zE ay a1.length then (bif decide ((a1.getD ay.toNat 0)<1) then some (false,a1)
  else bif zE ay a1.length then (bif zE ay a1.length then some (true,(a1.set ay.toNat (zA ((a1.getD ay.toNat 0)-1))))
   else none)
  else none)
 else none
abbrev Li:Type:=(List Int)×(List zF)
abbrev UM:Type:=List zF→Int→Int→List Int→List zF→Option Li
def Bo (k:Nat)(rec:UM)(s8:List zF)(s9 aC:Int)(r1:List Int)(r2:List zF):Option Li:=
 bif decide (aC < s9) then (bif zE aC s8.length then ((Qr k (s8.getD aC.toNat (0,0,0,0,0,0,0)).1 (s8.getD aC.toNat (0,0,0,0,0,0,0)).2.1 (s8.getD aC.toNat (0,0,0,0,0,0,0)).2.2.1 (s8.getD aC.toNat (0,0,0,0,0,0,0)).2.2.2.1 (s8.getD aC.toNat (0,0,0,0,0,0,0)).2.2.2.2.1 (s8.getD aC.toNat (0,0,0,0,0,0,0)).2.2.2.2.2.1 (s8.getD aC.toNat (0,0,0,0,0,0,0)).2.2.2.2.2.2 r1).bind fun x0=>
   bif x0.1 then (bif zX (r2.length + 1) 56 then (let y0:List zF:=(r2++[(s8.getD aC.toNat (0,0,0,0,0,0,0))])
     rec s8 s9 (zA (aC+1)) x0.2 y0)
    else none)
   else rec s8 s9 (zA (aC+1)) x0.2 r2)
  else none)
 else some (r1,r2)
def Bn (k:Nat):Nat→UM
 |0,_,_,_,_,_=>none
 |n+1,s8,s9,aC,r1,r2=>Bo k (Bn k n) s8 s9 aC r1 r2
def Qq (k:Nat)(a0:List zF)(cT:List Int):Option ((List zF)×(List Int)):=
 (Bn k k a0 (a0.length:Int) 0 cT []).bind fun z=>
 some (z.2,z.1)
def Bm (k:Nat)(a0:List zF)(a1:List Int):Option (List zF):=
 (Qp k a1).bind fun x0=>
 (Qq k a0 x0).bind fun x1=>
 some x1.1
abbrev Lj:Type:=Int×(List zR)×(List (List Int))×(List Int)×(List (List Int))×(List Int)×(List zF)
abbrev UP:Type:=Int→Int→Int→List zR→List (List Int)→List Int→List (List Int)→List Int→List zF→Option Lj
def Bq (k:Nat)(rec:UP)(s7 dG bM:Int)(ab:List zR)(ag:List (List Int))(ah:List Int)(af:List (List Int))(r1:List Int)(r2:List zF):Option Lj:=
 bif decide (bM < dG) then ((Fj k r2 bM).bind fun x1=>
  bif zX (r1.length+1) 8 then(rec s7 dG (zA (bM+1)) ab ag ah af (r1++[(x1.length:Int)]) r2)
  else none)
 else some (s7,ab,ag,ah,af,r1,r2)
def wg (k:Nat):Nat→UP
 |0,_,_,_,_,_,_,_,_,_=>none
 |n+1,s7,dG,bM,ab,ag,ah,af,r1,r2=>Bq k (wg k n) s7 dG bM ab ag ah af r1 r2
abbrev Ll:Type:=Int×(List zR)×(List (List Int))×(List Int)×(List (List Int))×(List Int)×(List zF)
abbrev UQ:Type:=Int→Int→Int→List zR→List (List Int)→List Int→List (List Int)→List Int→List zF→List Int→Option Ll
def Bt (k:Nat)(rec:UQ)(s7 Md l8:Int)(ab:List zR)(ag:List (List Int))(ah:List Int)(af:List (List Int))(r1:List Int)(r2:List zF)(r3:List Int):Option Ll:=
 bif decide (l8 < Md) then (bif zE l8 r3.length then (bif zE (r3.getD l8.toNat 0) r1.length then (bif zE (r3.getD l8.toNat 0) r1.length then (let y0:List Int:=(r1.set (r3.getD l8.toNat 0).toNat (zA ((r1.getD (r3.getD l8.toNat 0).toNat 0)-1)))
     rec s7 Md (zA (l8+1)) ab ag ah af y0 r2 r3)
    else none)
   else none)
  else none)
 else some (s7,ab,ag,ah,af,r1,r2)
def Br (k:Nat):Nat→UQ
 |0,_,_,_,_,_,_,_,_,_,_=>none
 |n+1,s7,Md,l8,ab,ag,ah,af,r1,r2,r3=>Bt k (Br k n) s7 Md l8 ab ag ah af r1 r2 r3
abbrev US:Type:=Int→List zR→List (List Int)→List Int→List (List Int)→List Int→List zF→Option (Int×(List Int))
def Bu (k:Nat)(rec:US)(s7:Int)(ab:List zR)(ag:List (List Int))(ah:List Int)(af:List (List Int))(r1:List Int)(r2:List zF):Option (Int×(List Int)):=
 (Bm k r2 r1).bind fun x2=>
 (vx k ab ag ah af x2).bind fun x3=>
 bif decide ((x3.length:Int)=0) then some ((zA (s7+1)),r1)
 else(Br k k (zA (s7+1)) (x3.length:Int) 0 ab ag ah af r1 r2 x3).bind fun z1=>
 rec z1.1 z1.2.1 z1.2.2.1 z1.2.2.2.1 z1.2.2.2.2.1 z1.2.2.2.2.2.1 z1.2.2.2.2.2.2
def Fl (k:Nat):Nat→US
 |0,_,_,_,_,_,_,_=>none
 |n+1,s7,ab,ag,ah,af,r1,r2=>Bu k (Fl k n) s7 ab ag ah af r1 r2
def I9 (k:Nat)(ae:List zR)(aw:List (List Int))(av:List Int)(au:List (List Int))(a1:List zF)(a2:Int):Option ((List Int)×Int):=
 (AK k a1 a2).bind fun x0=>
 (wg k k 0 (ae.length:Int) 0 ae aw av au [] x0).bind fun z=>
 (Fl k k z.1 z.2.1 z.2.2.1 z.2.2.2.1 z.2.2.2.2.1 z.2.2.2.2.2.1 z.2.2.2.2.2.2).bind fun z2=>
 some (z2.2,z2.1)
abbrev Lq:Type:=(List zF)×(List zR)×(List (List Int))×(List Int)×(List (List Int))×(List zF)
abbrev UT:Type:=List zF→Int→Int→List zR→List (List Int)→List Int→List (List Int)→List zF→Option Lq
def Bv (k:Nat)(rec:UT)(s7:List zF)(jx fa:Int)(ab:List zR)(ag:List (List Int))(ah:List Int)(af:List (List Int))(r1:List zF):Option Lq:=
 bif decide (fa < jx) then (bif zE fa r1.length then ((ny k s7 (r1.getD fa.toNat (0,0,0,0,0,0,0)).1).bind fun x4=>
   rec x4.1 jx (zA (fa+1)) ab ag ah af r1)
  else none)
 else some (s7,ab,ag,ah,af,r1)
def wh (k:Nat):Nat→UT
 |0,_,_,_,_,_,_,_,_=>none
 |n+1,s7,jx,fa,ab,ag,ah,af,r1=>Bv k (wh k n) s7 jx fa ab ag ah af r1
def Bw (k:Nat)(ae:List zR)(aw:List (List Int))(av:List Int)(au:List (List Int))(a1:List zF)(a2:Int):Option Gl:=
 (I9 k ae aw av au a1 a2).bind fun x0=>
 (AK k a1 a2).bind fun x1=>
 (Bm k x1 x0.1).bind fun x2=>
 (nr k ae aw av au x2).bind fun x3=>
 bif !(decide (x3.2.2.2.2=0)) then some (ae,aw,av,au,a1,[])
 else(wh k k a1 (x2.length:Int) 0 x3.1 x3.2.1 x3.2.2.1 x3.2.2.2.1 x2).bind fun z=>
 some (mG z (z.1,z.2.2.2.2.2))
def wi (k:Nat)(ae:List zR)(aw:List (List Int))(av:List Int)(au:List (List Int))(a1:List zF)(a2:Int)(a3:Bool):Option Gl:=
 (Fp k ae aw av au a1 a2).bind fun x0=>
 bif !a3 then some (x0.1,x0.2.1,x0.2.2.1,x0.2.2.2.1,x0.2.2.2.2.1,x0.2.2.2.2.2)
 else(Bw k x0.1 x0.2.1 x0.2.2.1 x0.2.2.2.1 x0.2.2.2.2.1 a2).bind fun x1=>
 bif decide ((x1.2.2.2.2.2.length:Int)=0) then some (rJ x1 x0.2.2.2.2.2)
 else(Fp k x1.1 x1.2.1 x1.2.2.1 x1.2.2.2.1 x1.2.2.2.2.1 a2).bind fun x2=>
 bif zX (x0.2.2.2.2.2.length + x1.2.2.2.2.2.length) 56 then (bif zX ((x0.2.2.2.2.2 ++ x1.2.2.2.2.2).length + x2.2.2.2.2.2.length) 56 then (let y0:List zF:=((x0.2.2.2.2.2++x1.2.2.2.2.2)++x2.2.2.2.2.2)
   some (rJ x2 y0))
  else none)
 else none
abbrev Lr:Type:=(List zF)×Int×Int×(List qA)
abbrev UW:Type:=List zF→Int→Int→Int→Int→List qA→Int→Int→Int→Int→Int→Int→Int→List Int→Option Lr
def tv (k:Nat)(rec:UW)(s8:List zF)(s9 aC bM cL:Int)(r0:List qA)(az aI aJ aR aZ ba bb:Int)(r2:List Int):Option Lr:=
 bif decide (cL < bM) then (bif zE cL r2.length then ((nG k (r2.getD cL.toNat 0) 18 [az,aI,aJ,aR]).bind fun x0=>
   bif zX (r0.length+1) 64 then(rec s8 s9 aC bM (zA (cL+1)) (r0++[x0]) az aI aJ aR aZ ba bb r2)
   else none)
  else none)
 else some (s8,s9,aC,r0)
def tu (k:Nat):Nat→UW
 |0,_,_,_,_,_,_,_,_,_,_,_,_,_,_=>none
 |n+1,s8,s9,aC,bM,cL,r0,az,aI,aJ,aR,aZ,ba,bb,r2=>tv k (tu k n) s8 s9 aC bM cL r0 az aI aJ aR aZ ba bb r2
abbrev Ls:Type:=List qA
abbrev UY:Type:=List zF→Int→Int→List qA→Option Ls
def By (k:Nat)(rec:UY)(s8:List zF)(s9 aC:Int)(r0:List qA):Option Ls:=
 bif decide (aC < s9) then (bif zE aC s8.length then ((tu k k s8 s9 aC 2 0 r0 (s8.getD aC.toNat (0,0,0,0,0,0,0)).1 (s8.getD aC.toNat (0,0,0,0,0,0,0)).2.1 (s8.getD aC.toNat (0,0,0,0,0,0,0)).2.2.1 (s8.getD aC.toNat (0,0,0,0,0,0,0)).2.2.2.1 (s8.getD aC.toNat (0,0,0,0,0,0,0)).2.2.2.2.1 (s8.getD aC.toNat (0,0,0,0,0,0,0)).2.2.2.2.2.1 (s8.getD aC.toNat (0,0,0,0,0,0,0)).2.2.2.2.2.2 [(s8.getD aC.toNat (0,0,0,0,0,0,0)).2.1,(s8.getD aC.toNat (0,0,0,0,0,0,0)).2.2.1]).bind fun z=>
   rec z.1 z.2.1 (zA (z.2.2.1+1)) z.2.2.2)
  else none)
 else some r0
def Bx (k:Nat):Nat→UY
 |0,_,_,_,_=>none
 |n+1,s8,s9,aC,r0=>By k (Bx k n) s8 s9 aC r0
def Je (k:Nat)(a0:List zF):Option (List qA):=
 (Bx k k a0 (a0.length:Int) 0 []).bind fun z1=>
 some z1
def rp (k:Nat)(gx:Int)(cq:List zR)(dj:List (List Int))(dm:List Int)(dp:List (List Int))(eL:List Int)(gy:List (List Int))(eM:List zF)(nU:List Int)(gz:Int)(kz a1:Bool):Option Wg:=
 (wi k cq dj dm dp eM gx a1).bind fun x0=>
 (Je k x0.2.2.2.2.2).bind fun x1=>
 some (gx,(jM x0 (eL,gy,x0.2.2.2.2.1,nU,gz,kz,x1)))
abbrev Lu:Type:=Int×(List yV)×Int×Int×Int×Int×(List zR)×(List (List Int))×(List Int)×(List (List Int))×(List Int)×(List (List Int))×(List zF)×(List Int)×Int×Bool×Int×Int×Bool×(List qA)×(List zF)
abbrev U3:Type:=List zF→Int→Int→Int→List yV→Int→Int→Int→Int→List zR→List (List Int)→List Int→List (List Int)→List Int→List (List Int)→List zF→List Int→Int→Bool→Int→Int→Bool→List qA→List zF→Option Lu
def BF (k:Nat)(rec:U3)(eE:List zF)(jy eF ab:Int)(ag:List yV)(ah af bm az:Int)(aI:List zR)(aJ:List (List Int))(aR:List Int)(aZ:List (List Int))(ba:List Int)(bb:List (List Int))(cz:List zF)(cB:List Int)(bE:Int)(aU:Bool)(bV nW:Int)(iV:Bool)(r3:List qA)(r4:List zF):Option Lu:=
 bif decide (eF < jy) then (bif zE eF eE.length then ((Qw k (eE.getD eF.toNat (0,0,0,0,0,0,0)).1 (eE.getD eF.toNat (0,0,0,0,0,0,0)).2.1 (eE.getD eF.toNat (0,0,0,0,0,0,0)).2.2.1 (eE.getD eF.toNat (0,0,0,0,0,0,0)).2.2.2.1 (eE.getD eF.toNat (0,0,0,0,0,0,0)).2.2.2.2.1 (eE.getD eF.toNat (0,0,0,0,0,0,0)).2.2.2.2.2.1 (eE.getD eF.toNat (0,0,0,0,0,0,0)).2.2.2.2.2.2 az).bind fun x2=>
   bif x2 then ((nG k (eE.getD eF.toNat (0,0,0,0,0,0,0)).2.1 21 [(eE.getD eF.toNat (0,0,0,0,0,0,0)).1]).bind fun x3=>
    bif zX (r3.length+1) 64 then(rec eE jy (zA (eF+1)) ab ag ah af bm az aI aJ aR aZ ba bb cz cB bE aU bV nW iV (r3++[x3]) r4)
    else none)
   else bif zX (r4.length + 1) 56 then (let y0:List zF:=(r4++[(eE.getD eF.toNat (0,0,0,0,0,0,0))])
    rec eE jy (zA (eF+1)) ab ag ah af bm az aI aJ aR aZ ba bb cz cB bE aU bV nW iV r3 y0)
   else none)
  else none)
 else some (ab,ag,ah,af,bm,az,aI,aJ,aR,aZ,ba,bb,cz,cB,bE,aU,bV,nW,iV,r3,r4)
def BE (k:Nat):Nat→U3
 |0,_,_,_,_,_,_,_,_,_,_,_,_,_,_,_,_,_,_,_,_,_,_,_,_=>none
 |n+1,eE,jy,eF,ab,ag,ah,af,bm,az,aI,aJ,aR,aZ,ba,bb,cz,cB,bE,aU,bV,nW,iV,r3,r4=>BF k (BE k n) eE jy eF ab ag ah af bm az aI aJ aR aZ ba bb cz cB bE aU bV nW iV r3 r4
def BG (k:Nat)(cY:Int)(dH:List yV)(dI cZ cg gH:Int)(cC:List zR)(dt:List (List Int))(du:List Int)(dv:List (List Int))(eR:List Int)(gI:List (List Int))(eS:List zF)(nX:List Int)(gJ:Int)(gK:Bool):Option Wg:=
 bif gK then some (gH,cC,dt,du,dv,eR,gI,eS,nX,gJ,gK,[])
 else(Ji k cY dH dI cZ cg (zA (gH+1))).bind fun x0=>
 bif x0 then ((Jh k (zA (gH+1)) cC dt du dv eR gI eS nX gJ gK).bind fun x1=>
  some (x1.1,x1.2.1,x1.2.2.1,x1.2.2.2.1,x1.2.2.2.2.1,x1.2.2.2.2.2.1,x1.2.2.2.2.2.2.1,x1.2.2.2.2.2.2.2.1,x1.2.2.2.2.2.2.2.2.1,x1.2.2.2.2.2.2.2.2.2.1,x1.2.2.2.2.2.2.2.2.2.2.1,x1.2.2.2.2.2.2.2.2.2.2.2))
 else(BE k k eS (eS.length:Int) 0 cY dH dI cZ cg (zA (gH+1)) cC dt du dv eR gI eS nX gJ gK 0 0 false [] []).bind fun z=>
 (Jj k z.1 z.2.1 z.2.2.1 z.2.2.2.1 z.2.2.2.2.1 z.2.2.2.2.2.1).bind fun x4=>
 (rp k z.2.2.2.2.2.1 z.2.2.2.2.2.2.1 z.2.2.2.2.2.2.2.1 z.2.2.2.2.2.2.2.2.1 z.2.2.2.2.2.2.2.2.2.1 z.2.2.2.2.2.2.2.2.2.2.1 z.2.2.2.2.2.2.2.2.2.2.2.1 z.2.2.2.2.2.2.2.2.2.2.2.2.2.2.2.2.2.2.2.2 z.2.2.2.2.2.2.2.2.2.2.2.2.2.1 z.2.2.2.2.2.2.2.2.2.2.2.2.2.2.1 z.2.2.2.2.2.2.2.2.2.2.2.2.2.2.2.1 x4).bind fun x5=>
 bif zX (z.2.2.2.2.2.2.2.2.2.2.2.2.2.2.2.2.2.2.2.1.length + x5.2.2.2.2.2.2.2.2.2.2.2.length) 64 then (let y1:List qA:=(z.2.2.2.2.2.2.2.2.2.2.2.2.2.2.2.2.2.2.2.1++x5.2.2.2.2.2.2.2.2.2.2.2)
  some (tQ x5 y1))
 else none
def qYx (k:Nat)(a0:jw)(a1:(Int×Int×Int×Int×Int×Int)):Option (Int×wP):=
 (yY k a1.2.1 0 (zA (a0.1-1))).bind fun x0=>
 bif !x0 then some (1,(vF a0 []))
 else(yY k a1.2.2.2.1 1 3).bind fun x1=>
 bif !x1 then some (1,(vF a0 []))
 else(BH k (vO a0) a0.2.2.2.2.2.1 (a1.1,a0.2.2.2.2.2.2.2.2.2.2.2.2.2.2.2.2,a1.2)).bind fun x2=>
 bif !(decide (x2=0)) then some (x2,(vF a0 []))
 else(A5 k a0.2.2.2.2.2.2.2.2.2.2.2.2.2.1 a1.1).bind fun x3=>
 bif !(decide (x3.2=0)) then some (x3.2,(vF a0 []))
 else(tl k a0.2.2.2.2.2.2.2.2.2.2.2.2.1 (a1.1,a0.2.2.2.2.2.2.2.2.2.2.2.2.2.2.2.2,a1.2)).bind fun x4=>
 bif !(decide (x4.2=0)) then some (x4.2,(vF a0 []))
 else some (0,(nT a0 (x4.1,x3.1,a0.2.2.2.2.2.2.2.2.2.2.2.2.2.2.1,a0.2.2.2.2.2.2.2.2.2.2.2.2.2.2.2.1,a0.2.2.2.2.2.2.2.2.2.2.2.2.2.2.2.2,[])))
def Lv (k:Nat)(a0:jw)(a1:zF):Option (Int×wP):=
 (SK k (vF a0 []) a1.2.1).bind fun x0=>
 bif !(decide (x0.2=0)) then some (x0.2,(vF a0 []))
 else bif decide (a1.1 = 2) then ((ny k a0.2.2.2.2.2.2.2.2.2.2.2.2.1 a1.2.1).bind fun x1=>
  (JG k (nT a0 (x1.1,a0.2.2.2.2.2.2.2.2.2.2.2.2.2)) 20 [a1.2.1]).bind fun x2=>
  some (x1.2.2.2.2.2.2.2.2,x2))
 else bif decide (a1.1 = 4) then ((yY k a1.2.2.1 1 3).bind fun x3=>
  bif !x3 then some (1,(vF a0 []))
  else(wo k (vO a0) a0.2.2.2.2.2.1 a1.2.2.1).bind fun x4=>
  bif !(decide (x4=0)) then some (x4,(vF a0 []))
  else(AY k a0.2.2.2.2.2.2.2.2.2.2.2.2.1 a1.2.1 a1.2.2.1).bind fun x5=>
  some (x5.2,(nT a0 (x5.1,(Wj a0 [])))))
 else bif decide (a1.2.2.1 = 0) then ((A3 k a0.2.2.2.2.2.2.2.2.2.2.2.2.1 a1.2.1).bind fun x6=>
  some (x6.2,(nT a0 (x6.1,(Wj a0 [])))))
 else bif decide (a1.2.2.1 = 1) then ((AZ k a0.2.2.2.2.2.2.2.2.2.2.2.2.1 a1.2.1).bind fun x7=>
  some (x7.2,(nT a0 (x7.1,(Wj a0 [])))))
 else some (1,(vF a0 []))
def Lw (k:Nat)(a0:jw)(a1:zF):Option (Int×wP):=
 (jR k a0.2.2.2.2.2.2.1 a0.2.2.2.2.2.2.2.1 a0.2.2.2.2.2.2.2.2.1 a0.2.2.2.2.2.2.2.2.2.1).bind fun x0=>
 bif decide (a1.1 = 5) then ((S0 k (vF a0 []) a1.2.1).bind fun x1=>
  bif !x1 then some (1,(vF a0 []))
  else(yY k a1.2.2.1 (-1) 1152921504606846976).bind fun x2=>
  bif !x2 then some (1,(vF a0 []))
  else bif zE a0.2.2.2.2.2.2.2.2.2.2.2.2.2.2.2.2 x0.2.1.length then (bif zE a1.2.1 (x0.2.1.getD a0.2.2.2.2.2.2.2.2.2.2.2.2.2.2.2.2.toNat []).length then (let y0:List (List Int):=(x0.2.1.set a0.2.2.2.2.2.2.2.2.2.2.2.2.2.2.2.2.toNat ((x0.2.1.getD a0.2.2.2.2.2.2.2.2.2.2.2.2.2.2.2.2.toNat []).set a1.2.1.toNat a1.2.2.1))
    some (0,(gq a0 (x0.1,y0,x0.2.2.1,x0.2.2.2,(Wk a0 [])))))
   else none)
  else none)
 else bif decide (a1.1 = 6) then ((yY k a1.2.1 (-1) 1152921504606846976).bind fun x3=>
  bif !x3 then some (1,(vF a0 []))
  else bif zE a0.2.2.2.2.2.2.2.2.2.2.2.2.2.2.2.2 x0.2.2.1.length then (let y1:List Int:=(x0.2.2.1.set a0.2.2.2.2.2.2.2.2.2.2.2.2.2.2.2.2.toNat a1.2.1)
   some (0,(gq a0 (x0.1,x0.2.1,y1,x0.2.2.2,(Wk a0 [])))))
  else none)
 else(yY k a1.2.1 0 1152921504606846976).bind fun x4=>
 bif !x4 then some (1,(vF a0 []))
 else bif zE a0.2.2.2.2.2.2.2.2.2.2.2.2.2.2.2.2 x0.1.length then (let y2:List zR:=(x0.1.set a0.2.2.2.2.2.2.2.2.2.2.2.2.2.2.2.2.toNat ((x0.1.getD a0.2.2.2.2.2.2.2.2.2.2.2.2.2.2.2.2.toNat (0,0,0)).1,(x0.1.getD a0.2.2.2.2.2.2.2.2.2.2.2.2.2.2.2.2.toNat (0,0,0)).2.1,a1.2.1))
  some (0,(gq a0 (y2,x0.2.1,x0.2.2.1,x0.2.2.2,(Wk a0 [])))))
 else none
def yF8 (k:Nat)(a0:jw)(a1 a2:Int):Option (Int×wP):=
 (Gc k (vF a0 []) a1).bind fun x0=>
 bif !x0 then some (1,(vF a0 []))
 else(yY k a2 0 1099511627776).bind fun x1=>
 bif !x1 then some (1,(vF a0 []))
 else(BI k a0.2.2.2.2.2.2.2.2.2.2.2.1).bind fun x2=>
 bif zE a0.2.2.2.2.2.2.2.2.2.2.2.2.2.2.2.2 x2.length then ((nC k (x2.getD a0.2.2.2.2.2.2.2.2.2.2.2.2.2.2.2.2.toNat []) a1 a2).bind fun x3=>
  bif zE a0.2.2.2.2.2.2.2.2.2.2.2.2.2.2.2.2 x2.length then (let y0:List (List Int):=(x2.set a0.2.2.2.2.2.2.2.2.2.2.2.2.2.2.2.2.toNat x3)
   bif zE a0.2.2.2.2.2.2.2.2.2.2.2.2.2.2.2.2 y0.length then ((oP k a0.2.1 a0.2.2.2.2.2.2.2.2.2.2.1 (y0.getD a0.2.2.2.2.2.2.2.2.2.2.2.2.2.2.2.2.toNat [])).bind fun x4=>
    bif zE a0.2.2.2.2.2.2.2.2.2.2.2.2.2.2.2.2 a0.2.2.2.2.2.2.1.length then (bif !x4.2 then some (8,(vF a0 []))
     else bif decide (x4.1>1152921504606846976) then some (8,(vF a0 []))
     else bif decide (x4.1 < (a0.2.2.2.2.2.2.1.getD a0.2.2.2.2.2.2.2.2.2.2.2.2.2.2.2.2.toNat (0, 0, 0)).2.1) then (bif decide ((zA ((a0.2.2.2.2.2.2.1.getD a0.2.2.2.2.2.2.2.2.2.2.2.2.2.2.2.2.toNat (0,0,0)).1+x4.1))<0) then some (9,(vF a0 []))
      else(jR k a0.2.2.2.2.2.2.1 a0.2.2.2.2.2.2.2.1 a0.2.2.2.2.2.2.2.2.1 a0.2.2.2.2.2.2.2.2.2.1).bind fun x5=>
      bif zE a0.2.2.2.2.2.2.2.2.2.2.2.2.2.2.2.2 x5.1.length then (let y1:List zR:=(x5.1.set a0.2.2.2.2.2.2.2.2.2.2.2.2.2.2.2.2.toNat ((x5.1.getD a0.2.2.2.2.2.2.2.2.2.2.2.2.2.2.2.2.toNat (0,0,0)).1,x4.1,(x5.1.getD a0.2.2.2.2.2.2.2.2.2.2.2.2.2.2.2.2.toNat (0,0,0)).2.2))
       some (0,(gq a0 (y1,x5.2.1,x5.2.2.1,x5.2.2.2,a0.2.2.2.2.2.2.2.2.2.2.1,y0,(qW9 a0 [])))))
      else none)
     else(jR k a0.2.2.2.2.2.2.1 a0.2.2.2.2.2.2.2.1 a0.2.2.2.2.2.2.2.2.1 a0.2.2.2.2.2.2.2.2.2.1).bind fun x6=>
     bif zE a0.2.2.2.2.2.2.2.2.2.2.2.2.2.2.2.2 x6.1.length then (let y2:List zR:=(x6.1.set a0.2.2.2.2.2.2.2.2.2.2.2.2.2.2.2.2.toNat ((x6.1.getD a0.2.2.2.2.2.2.2.2.2.2.2.2.2.2.2.2.toNat (0,0,0)).1,x4.1,(x6.1.getD a0.2.2.2.2.2.2.2.2.2.2.2.2.2.2.2.2.toNat (0,0,0)).2.2))
      some (0,(gq a0 (y2,x6.2.1,x6.2.2.1,x6.2.2.2,a0.2.2.2.2.2.2.2.2.2.2.1,y0,(qW9 a0 [])))))
     else none)
    else none)
   else none)
  else none)
 else none
def BJ (k:Nat)(a0:jw)(a1 a2 a3:Int):Option (Int×wP):=
 (yY k a2 0 (zA (a0.1-1))).bind fun x0=>
 bif !x0 then some (1,(vF a0 []))
 else(yY k a3 1 1099511627776).bind fun x1=>
 bif !x1 then some (1,(vF a0 []))
 else bif zE a2 a0.2.2.2.2.2.2.1.length then ((BK k (a0.2.2.2.2.2.2.1.getD a2.toNat (0,0,0)) a3).bind fun x2=>
  bif decide (a1 = 11) then ((BL k (a0.2.2.2.2.2.2.1.getD a2.toNat (0,0,0)) a3 3).bind fun x3=>
   (BM k (a0.2.2.2.2.2.2.1.getD a2.toNat (0,0,0)) 3).bind fun x4=>
   bif decide (x4<a3) then some (9,(vF a0 []))
   else bif decide ((zA (a0.2.2.2.2.2.2.2.2.2.2.2.2.2.2.1-a3))<0) then some (9,(vF a0 []))
   else bif !(decide (x3.2=0)) then some (x3.2,(vF a0 []))
   else bif decide ((zA (a0.2.2.2.2.2.2.2.2.2.2.2.2.2.2.1-a3))>1152921504606846976) then some (8,(vF a0 []))
   else(jR k a0.2.2.2.2.2.2.1 a0.2.2.2.2.2.2.2.1 a0.2.2.2.2.2.2.2.2.1 a0.2.2.2.2.2.2.2.2.2.1).bind fun x5=>
   bif zE a2 x5.1.length then some (0,(gq a0 ((x5.1.set a2.toNat x3.1),x5.2.1,x5.2.2.1,x5.2.2.2,(L9 a0 ((zA (a0.2.2.2.2.2.2.2.2.2.2.2.2.2.2.1-a3)),a0.2.2.2.2.2.2.2.2.2.2.2.2.2.2.2.1,a0.2.2.2.2.2.2.2.2.2.2.2.2.2.2.2.2,[])))))
   else none)
  else bif !(decide (x2.2=0)) then some (x2.2,(vF a0 []))
  else bif decide ((zA (a0.2.2.2.2.2.2.2.2.2.2.2.2.2.2.1+a3))>1152921504606846976) then some (8,(vF a0 []))
  else(jR k a0.2.2.2.2.2.2.1 a0.2.2.2.2.2.2.2.1 a0.2.2.2.2.2.2.2.2.1 a0.2.2.2.2.2.2.2.2.2.1).bind fun x6=>
  bif zE a2 x6.1.length then some (0,(gq a0 ((x6.1.set a2.toNat x2.1),x6.2.1,x6.2.2.1,x6.2.2.2,(L9 a0 ((zA (a0.2.2.2.2.2.2.2.2.2.2.2.2.2.2.1+a3)),a0.2.2.2.2.2.2.2.2.2.2.2.2.2.2.2.1,a0.2.2.2.2.2.2.2.2.2.2.2.2.2.2.2.2,[])))))
  else none)
 else none
abbrev Lx:Type:=(jw×(List Int)×(List zR)×(List (List Int))×(List Int)×(List (List Int)))⊕(Int×jw)
abbrev U6:Type:=List (List Int)→Int→Int→jw→List Int→List zR→List (List Int)→List Int→List (List Int)→Option Lx
def BN (k:Nat)(rec:U6)(fa:List (List Int))(gu iU:Int)(b0:jw)(r1:List Int)(r3:List zR)(m4:List (List Int))(r5:List Int)(m6:List (List Int)):Option Lx:=
 bif decide (iU < gu) then (bif zE iU fa.length then ((oP k b0.2.1 r1 (fa.getD iU.toNat [])).bind fun x4=>
   bif !x4.2 then some (.inr (8,b0))
   else bif decide (x4.1>1152921504606846976) then some (.inr (8,b0))
   else bif zE iU r3.length then (let y0:List zR:=(r3.set iU.toNat ((r3.getD iU.toNat (0,0,0)).1,x4.1,(r3.getD iU.toNat (0,0,0)).2.2))
    rec fa gu (zA (iU+1)) b0 r1 y0 m4 r5 m6)
   else none)
  else none)
 else some (.inl (b0,r1,r3,m4,r5,m6))
def ru (k:Nat):Nat→U6:=vC (fun _ _ _ _ _ _ _ _ _=>none) (BN k)
def Js (k:Nat)(a0:jw)(a1 a2:Int):Option (Int×wP):=
 (Gc k (vF a0 []) a1).bind fun x0=>
 bif !x0 then some (1,(vF a0 []))
 else(yY k a2 0 1048576).bind fun x1=>
 bif !x1 then some (1,(vF a0 []))
 else(nC k a0.2.2.2.2.2.2.2.2.2.2.1 a1 a2).bind fun x2=>
 (jR k a0.2.2.2.2.2.2.1 a0.2.2.2.2.2.2.2.1 a0.2.2.2.2.2.2.2.2.1 a0.2.2.2.2.2.2.2.2.2.1).bind fun x3=>
 (ru k k a0.2.2.2.2.2.2.2.2.2.2.2.1 (a0.2.2.2.2.2.2.2.2.2.2.2.1.length:Int) 0 a0 x2 x3.1 x3.2.1 x3.2.2.1 x3.2.2.2).bind fun z=>
 match z with
 |.inl z1=>some (0,(gq z1.1 (qWw z1 (z1.2.1,(QB z1.1 [])))))
 |.inr z2=>some (wV z2 [])
def JD (k:Nat)(a0:jw)(a1:zF):Option (Int×wP):=
 bif decide (a1.1 = 1) then ((qYx k a0 a1.2).bind fun x0=>
  some (x0.1,x0.2))
 else bif decide (a1.1 = 2) then ((Lv k a0 a1).bind fun x1=>
  some (x1.1,x1.2))
 else bif decide (a1.1 = 3) then ((Lv k a0 a1).bind fun x2=>
  some (x2.1,x2.2))
 else bif decide (a1.1 = 4) then ((Lv k a0 a1).bind fun x3=>
  some (x3.1,x3.2))
 else bif decide (a1.1 = 5) then ((Lw k a0 a1).bind fun x4=>
  some (x4.1,x4.2))
 else bif decide (a1.1 = 6) then ((Lw k a0 a1).bind fun x5=>
  some (x5.1,x5.2))
 else bif decide (a1.1 = 7) then ((Lw k a0 a1).bind fun x6=>
  some (x6.1,x6.2))
 else bif decide (a1.1 = 8) then ((yF8 k a0 a1.2.1 a1.2.2.1).bind fun x7=>
  some (x7.1,x7.2))
 else bif decide (a1.1 = 10) then ((BJ k a0 a1.1 a1.2.1 a1.2.2.1).bind fun x8=>
  some (x8.1,x8.2))
 else bif decide (a1.1 = 11) then ((BJ k a0 a1.1 a1.2.1 a1.2.2.1).bind fun x9=>
  some (x9.1,x9.2))
 else bif decide (a1.1 = 12) then ((Js k a0 a1.2.1 a1.2.2.1).bind fun eK=>
  some (eK.1,eK.2))
 else some (0,(vF a0 []))
def jm (k:Nat)(a0:vV)(a1:wI)(a2:qA):Option (wI×(List qA)×Int):=
 (tC k a0 a1 a2).bind fun x0=>
 bif !(decide (x0=0)) then some (a1,[],x0)
 else bif decide (a2.2.1 = 9) then ((FG k a1 a2.1).bind fun x1=>
  some (a1,x1,0))
 else bif !(decide (a2.1 = (-1))) then ((JG k (ft a0 (jJ a1 a2.1)) 15 []).bind fun x2=>
  (JC k x2 a2.2).bind fun x3=>
  bif !(decide (x3.1=0)) then some (a1,[],x3.1)
  else bif decide (a2.2.1 = 14) then ((BG k a0.1 a0.2.1 a0.2.2.1 a0.2.2.2.1 a0.2.2.2.2 a1.1 a1.2.1 a1.2.2.1 a1.2.2.2.1 a1.2.2.2.2.1 a1.2.2.2.2.2.1 a1.2.2.2.2.2.2.1 a1.2.2.2.2.2.2.2.1 a1.2.2.2.2.2.2.2.2.1 a1.2.2.2.2.2.2.2.2.2.1 a1.2.2.2.2.2.2.2.2.2.2).bind fun x4=>
   some ((vT x4),x4.2.2.2.2.2.2.2.2.2.2.2,0))
  else(rp k x3.2.2.2.2.2.2.1 x3.2.2.2.2.2.2.2.1 x3.2.2.2.2.2.2.2.2.1 x3.2.2.2.2.2.2.2.2.2.1 x3.2.2.2.2.2.2.2.2.2.2.1 x3.2.2.2.2.2.2.2.2.2.2.2.1 x3.2.2.2.2.2.2.2.2.2.2.2.2.1 x3.2.2.2.2.2.2.2.2.2.2.2.2.2.1 x3.2.2.2.2.2.2.2.2.2.2.2.2.2.2.1 x3.2.2.2.2.2.2.2.2.2.2.2.2.2.2.2.1 x3.2.2.2.2.2.2.2.2.2.2.2.2.2.2.2.2.1 (decide (a2.2.1=13))).bind fun x5=>
  bif zX (x3.2.2.2.2.2.2.2.2.2.2.2.2.2.2.2.2.2.2.length + x5.2.2.2.2.2.2.2.2.2.2.2.length) 64 then (let y0:List qA:=(x3.2.2.2.2.2.2.2.2.2.2.2.2.2.2.2.2.2.2++x5.2.2.2.2.2.2.2.2.2.2.2)
   bif decide (a2.2.1 = 1) then ((my k x5.2.2.2.2.2.2.2.1 a2.2.2.1).bind fun x6=>
    bif decide (x6 ≥ 0) then ((tA k (JE x3 y0) 19 [a2.2.2.1]).bind fun x7=>
     some ((vT x5),x7.2.2.2.2.2.2.2.2.2.2.2.2.2.2.2.2.2,0))
    else some ((vT x5),y0,0))
   else some ((vT x5),y0,0))
  else none)
 else(JD k (ft a0 (jJ a1 a2.1)) a2.2).bind fun x8=>
 bif !(decide (x8.1=0)) then some (a1,[],x8.1)
 else bif decide (a2.2.1 = 14) then ((BG k a0.1 a0.2.1 a0.2.2.1 a0.2.2.2.1 a0.2.2.2.2 a1.1 a1.2.1 a1.2.2.1 a1.2.2.2.1 a1.2.2.2.2.1 a1.2.2.2.2.2.1 a1.2.2.2.2.2.2.1 a1.2.2.2.2.2.2.2.1 a1.2.2.2.2.2.2.2.2.1 a1.2.2.2.2.2.2.2.2.2.1 a1.2.2.2.2.2.2.2.2.2.2).bind fun x9=>
  some ((vT x9),x9.2.2.2.2.2.2.2.2.2.2.2,0))
 else(rp k x8.2.2.2.2.2.2.1 x8.2.2.2.2.2.2.2.1 x8.2.2.2.2.2.2.2.2.1 x8.2.2.2.2.2.2.2.2.2.1 x8.2.2.2.2.2.2.2.2.2.2.1 x8.2.2.2.2.2.2.2.2.2.2.2.1 x8.2.2.2.2.2.2.2.2.2.2.2.2.1 x8.2.2.2.2.2.2.2.2.2.2.2.2.2.1 x8.2.2.2.2.2.2.2.2.2.2.2.2.2.2.1 x8.2.2.2.2.2.2.2.2.2.2.2.2.2.2.2.1 x8.2.2.2.2.2.2.2.2.2.2.2.2.2.2.2.2.1 (decide (a2.2.1=13))).bind fun eK=>
 bif zX (x8.2.2.2.2.2.2.2.2.2.2.2.2.2.2.2.2.2.2.length + eK.2.2.2.2.2.2.2.2.2.2.2.length) 64 then (let y1:List qA:=(x8.2.2.2.2.2.2.2.2.2.2.2.2.2.2.2.2.2.2++eK.2.2.2.2.2.2.2.2.2.2.2)
  bif decide (a2.2.1 = 1) then ((my k eK.2.2.2.2.2.2.2.1 a2.2.2.1).bind fun iW=>
   bif decide (iW ≥ 0) then ((tA k (JE x8 y1) 19 [a2.2.2.1]).bind fun nY=>
    some ((vT eK),nY.2.2.2.2.2.2.2.2.2.2.2.2.2.2.2.2.2,0))
   else some ((vT eK),y1,0))
  else some ((vT eK),y1,0))
 else none
def tG (k:Nat)(bh:jT)(dw:vD)(a1:List Int):Option (Int×jT×vD):=
 (JR k dw (zA (1-bh.1)) (zA (bh.2.1+1)) a1).bind fun x0=>
 bif decide (x0.1=0) then some (x0.1,((zA (1-bh.1)),(zA (bh.2.1+1)),0,false),x0.2)
 else some (x0.1,bh,x0.2)
def yNu (k:Nat)(a0:Int):Option Bool:=
 (yY k a0 0 1048576).bind fun x0=>
 some (!x0)
abbrev Vd:Type:=List Int→Int→Int→Option (Unit⊕Int)
def yPd (k:Nat)(rec:Vd)(s0:List Int)(s7 s8:Int):Option (Unit⊕Int):=
 bif decide (s8 < s7) then (bif zE s8 s0.length then ((yNu k (s0.getD s8.toNat 0)).bind fun x0=>
   bif x0 then some (.inr s8)
   else rec s0 s7 (zA (s8+1)))
  else none)
 else some (.inl ())
def LF (k:Nat):Nat→Vd
 |0,_,_,_=>none
 |n+1,s0,s7,s8=>yPd k (LF k n) s0 s7 s8
def qXu (k:Nat)(a0:List Int):Option Int:=
 (LF k k a0 (a0.length:Int) 0).bind fun z=>
 match z with
 |.inl z1=>some (-1)
 |.inr z2=>some z2
def qZk (k:Nat)(a0:List Int):Option Bool:=
 (qXu k a0).bind fun x0=>
 some (decide (x0≥0))
def yF0 (k:Nat)(a0:Int):Option Bool:=
 some (decide (a0>1099511627776))
abbrev Vf:Type:=List Int→Int→Int→Option (Unit⊕Int)
def qTi (k:Nat)(rec:Vf)(s0:List Int)(s7 s8:Int):Option (Unit⊕Int):=
 bif decide (s8 < s7) then (bif zE s8 s0.length then ((yF0 k (s0.getD s8.toNat 0)).bind fun x0=>
   bif x0 then some (.inr s8)
   else rec s0 s7 (zA (s8+1)))
  else none)
 else some (.inl ())
def LG (k:Nat):Nat→Vf
 |0,_,_,_=>none
 |n+1,s0,s7,s8=>qTi k (LG k n) s0 s7 s8
def yHo (k:Nat)(a0:List Int):Option Int:=
 (LG k k a0 (a0.length:Int) 0).bind fun z=>
 match z with
 |.inl z1=>some (-1)
 |.inr z2=>some z2
def qTy (k:Nat)(a0:List Int):Option Bool:=
 (yHo k a0).bind fun x0=>
 some (decide (x0≥0))
abbrev Vh:Type:=List (List Int)→Int→Int→vV→wI→Option (Unit⊕Bool)
def yIl (k:Nat)(rec:Vh)(jy:List (List Int))(eF ky:Int)(b0:vV)(b1:wI):Option (Unit⊕Bool):=
 bif decide (ky < eF) then (bif zE ky jy.length then ((oP k b0.2.1 b1.2.2.2.2.2.1 (jy.getD ky.toNat [])).bind fun x1=>
   bif !x1.2 then some (.inr false)
   else bif decide (x1.1>1152921504606846976) then some (.inr false)
   else bif zE ky b1.2.1.length then (bif !(decide (x1.1=(b1.2.1.getD ky.toNat (0,0,0)).2.1)) then some (.inr false)
    else(qTy k (jy.getD ky.toNat [])).bind fun x2=>
    bif x2 then some (.inr false)
    else rec jy eF (zA (ky+1)) b0 b1)
   else none)
  else none)
 else some (.inl ())
def Vj (k:Nat):Nat→Vh:=vC (fun _ _ _ _ _=>none) (yIl k)
def qWo (k:Nat)(a0:vV)(a1:wI):Option Bool:=
 bif !(decide ((a1.2.2.2.2.2.1.length:Int)=(a0.2.1.length:Int))) then some false
 else bif !(decide ((a1.2.2.2.2.2.2.1.length:Int)=a0.1)) then some false
 else(qZk k a1.2.2.2.2.2.1).bind fun x0=>
 bif x0 then some false
 else(Vj k k a1.2.2.2.2.2.2.1 (a1.2.2.2.2.2.2.1.length:Int) 0 a0 a1).bind fun z=>
 match z with
 |.inl z1=>some true
 |.inr z2=>some z2
abbrev Vk:Type:=List zF→Int→Option (Unit⊕Bool)
def qU8 (k:Nat)(rec:Vk)(s0:List zF)(s5:Int):Option (Unit⊕Bool):=
 bif decide (s5 > 0) then (bif zE s5 s0.length then (bif zE (zA (s5 - 1)) s0.length then ((AU k (s0.getD s5.toNat (0,0,0,0,0,0,0)).1 (s0.getD s5.toNat (0,0,0,0,0,0,0)).2.1 (s0.getD s5.toNat (0,0,0,0,0,0,0)).2.2.1 (s0.getD s5.toNat (0,0,0,0,0,0,0)).2.2.2.1 (s0.getD s5.toNat (0,0,0,0,0,0,0)).2.2.2.2.1 (s0.getD s5.toNat (0,0,0,0,0,0,0)).2.2.2.2.2.1 (s0.getD s5.toNat (0,0,0,0,0,0,0)).2.2.2.2.2.2 (s0.getD (zA (s5-1)).toNat (0,0,0,0,0,0,0)).1 (s0.getD (zA (s5-1)).toNat (0,0,0,0,0,0,0)).2.1 (s0.getD (zA (s5-1)).toNat (0,0,0,0,0,0,0)).2.2.1 (s0.getD (zA (s5-1)).toNat (0,0,0,0,0,0,0)).2.2.2.1 (s0.getD (zA (s5-1)).toNat (0,0,0,0,0,0,0)).2.2.2.2.1 (s0.getD (zA (s5-1)).toNat (0,0,0,0,0,0,0)).2.2.2.2.2.1 (s0.getD (zA (s5-1)).toNat (0,0,0,0,0,0,0)).2.2.2.2.2.2).bind fun x0=>
    bif decide (x0<0) then some (.inr false)
    else rec s0 (zA (s5-1)))
   else none)
  else none)
 else some (.inl ())
def Vm (k:Nat):Nat→Vk:=vC (fun _ _=>none) (qU8 k)
def qUb (k:Nat)(a0:List zF):Option Bool:=
 (Vm k k a0 (zA ((a0.length:Int)-1))).bind fun z=>
 match z with
 |.inl z1=>some true
 |.inr z2=>some z2
abbrev LI:Type:=(List zF)⊕Bool
abbrev Vn:Type:=List zF→List zF→Int→Int→Option LI
def yAa (k:Nat)(rec:Vn)(s0 s5:List zF)(s6 s7:Int):Option LI:=
 bif decide (s7 < s6) then (bif zE s7 s5.length then ((my k s0 (s5.getD s7.toNat (0,0,0,0,0,0,0)).1).bind fun x0=>
   bif !(decide (x0=s7)) then some (.inr false)
   else rec s0 s5 s6 (zA (s7+1)))
  else none)
 else some (.inl s0)
def LJ (k:Nat):Nat→Vn
 |0,_,_,_,_=>none
 |n+1,s0,s5,s6,s7=>yAa k (LJ k n) s0 s5 s6 s7
def yO3 (k:Nat)(a0:List zF):Option Bool:=
 (LJ k k a0 a0 (a0.length:Int) 0).bind fun z=>
 match z with
 | .inl z1 => bif decide ((z1.length : Int) ≤ 40) then ((qUb k z1).bind fun x1=>
   some x1)
  else some false
 |.inr z2=>some z2
abbrev Vp:Type:=List Int→Int→List Int→Int→Int→Option ((List Int)⊕Bool)
def qVm (k:Nat)(rec:Vp)(s0:List Int)(s3:Int)(s6:List Int)(s7 s8:Int):Option ((List Int)⊕Bool):=
 bif decide (s8 < s7) then (bif zE s8 s6.length then (bif decide ((s6.getD s8.toNat 0)≤s3) then some (.inr false)
   else rec s0 (s6.getD s8.toNat 0) s6 s7 (zA (s8+1)))
  else none)
 else some (.inl s0)
def Vr (k:Nat):Nat→Vp:=vC (fun _ _ _ _ _=>none) (qVm k)
def qUh (k:Nat)(a0:List Int):Option Bool:=
 (Vr k k a0 0 a0 (a0.length:Int) 0).bind fun z=>
 match z with
 |.inl z1=>some (decide ((z1.length:Int)≤200))
 |.inr z2=>some z2
def yC2 (k:Nat)(a0:List Int)(a1:Int):Option Bool:=
 (A4 k a0 a1).bind fun x0=>
 some x0.2
def yL0 (k:Nat)(a0:zF)(a1:wI):Option Bool:=
 (zm k a1.2.1 a1.2.2.1 a1.2.2.2.1 a1.2.2.2.2.1 a0.1 a0.2.1 a0.2.2.1 a0.2.2.2.1 a0.2.2.2.2.1 a0.2.2.2.2.2.1 a0.2.2.2.2.2.2).bind fun x0=>
 bif !x0 then some true
 else bif decide (a0.2.2.2.2.2.1<0) then some true
 else(yY k a0.2.2.2.2.2.2 a0.2.2.2.2.2.1 1048576).bind fun x1=>
 bif !x1 then some true
 else(yC2 k a1.2.2.2.2.2.2.2.2.1 a0.1).bind fun x2=>
 some (!x2)
abbrev Vs:Type:=List zF→Int→Int→Int→List zR→List (List Int)→List Int→List (List Int)→List Int→List (List Int)→List zF→List Int→Int→Bool→Option (Unit⊕Int)
def yR0 (k:Nat)(rec:Vs)(s0:List zF)(s7 s8 ab:Int)(ag:List zR)(ah:List (List Int))(af:List Int)(bm:List (List Int))(bz:List Int)(bA:List (List Int))(dJ:List zF)(dK:List Int)(dL:Int)(bZ:Bool):Option (Unit⊕Int):=
 bif decide (s8 < s7) then (bif zE s8 s0.length then ((yL0 k (s0.getD s8.toNat (0,0,0,0,0,0,0)) (ab,ag,ah,af,bm,bz,bA,dJ,dK,dL,bZ)).bind fun x0=>
   bif x0 then some (.inr s8)
   else rec s0 s7 (zA (s8+1)) ab ag ah af bm bz bA dJ dK dL bZ)
  else none)
 else some (.inl ())
def LK (k:Nat):Nat→Vs
 |0,_,_,_,_,_,_,_,_,_,_,_,_,_,_=>none
 |n+1,s0,s7,s8,ab,ag,ah,af,bm,bz,bA,dJ,dK,dL,bZ=>yR0 k (LK k n) s0 s7 s8 ab ag ah af bm bz bA dJ dK dL bZ
def qT2 (k:Nat)(a0:List zF)(eT:Int)(bR:List zR)(cD:List (List Int))(cE:List Int)(cF:List (List Int))(dy:List Int)(dZ:List (List Int))(eU:List zF)(gL:List Int)(ea:Int)(eV:Bool):Option Int:=
 (LK k k a0 (a0.length:Int) 0 eT bR cD cE cF dy dZ eU gL ea eV).bind fun z=>
 match z with
 |.inl z1=>some (-1)
 |.inr z2=>some z2
def qWk (k:Nat)(a0:List zF)(eT:Int)(bR:List zR)(cD:List (List Int))(cE:List Int)(cF:List (List Int))(dy:List Int)(dZ:List (List Int))(eU:List zF)(gL:List Int)(ea:Int)(eV:Bool):Option Bool:=
 (qT2 k a0 eT bR cD cE cF dy dZ eU gL ea eV).bind fun x0=>
 some (decide (x0≥0))
def yM0 (k:Nat)(a0:wI):Option Bool:=
 (yO3 k a0.2.2.2.2.2.2.2.1).bind fun x0=>
 bif x0 then ((qUh k a0.2.2.2.2.2.2.2.2.1).bind fun x1=>
  bif x1 then ((qWk k a0.2.2.2.2.2.2.2.1 a0.1 a0.2.1 a0.2.2.1 a0.2.2.2.1 a0.2.2.2.2.1 a0.2.2.2.2.2.1 a0.2.2.2.2.2.2.1 a0.2.2.2.2.2.2.2.1 a0.2.2.2.2.2.2.2.2.1 a0.2.2.2.2.2.2.2.2.2.1 a0.2.2.2.2.2.2.2.2.2.2).bind fun x2=>
   some (!x2))
  else some false)
 else some false
abbrev LL:Type:=vV×wI×(List Int)
abbrev Vu:Type:=List zR→Int→Int→vV→wI→List Int→Option LL
def qY9 (k:Nat)(rec:Vu)(l8:List zR)(s45 Me:Int)(b0:vV)(b1:wI)(r2:List Int):Option LL:=
 bif decide (Me < s45) then (bif zE Me l8.length then (bif zX (r2.length+1) 8 then(rec l8 s45 (zA (Me+1)) b0 b1 (r2++[(l8.getD Me.toNat (0,0,0)).1]))
   else none)
  else none)
 else some (b0,b1,r2)
def Vw (k:Nat):Nat→Vu:=vC (fun _ _ _ _ _ _=>none) (qY9 k)
def LM (k:Nat)(a0:vV)(a1:wI):Option Bool:=
 (yY k a1.1 0 a0.2.2.2.1).bind fun x0=>
 bif !x0 then some false
 else(Ep k a1.2.1 a1.2.2.1 a1.2.2.2.1 a1.2.2.2.2.1).bind fun x1=>
 bif !x1 then some false
 else bif !(decide ((a1.2.1.length:Int)=a0.1)) then some false
 else(qWo k a0 a1).bind fun x2=>
 bif !x2 then some false
 else(yM0 k a1).bind fun x3=>
 bif !x3 then some false
 else(Vw k k a1.2.1 (a1.2.1.length:Int) 0 a0 a1 []).bind fun z=>
 (E7 k z.2.2).bind fun x4=>
 bif !x4.2 then some false
 else bif !(decide (x4.1=z.2.1.2.2.2.2.2.2.2.2.2.1)) then some false
 else(yY k x4.1 0 1152921504606846976).bind fun x5=>
 bif !x5 then some false
 else(Ji k z.1.1 z.1.2.1 z.1.2.2.1 z.1.2.2.2.1 z.1.2.2.2.2 z.2.1.1).bind fun x6=>
 bif rV z.2.1.2.2.2.2.2.2.2.2.2.2 x6 then (bif !z.2.1.2.2.2.2.2.2.2.2.2.2 then some true
  else some (decide ((z.2.1.2.2.2.2.2.2.2.1.length:Int)=0)))
 else some false
abbrev LN:Type:=Int×Bool×tY×(List Int)×(List Int)×vV×jT×wI
abbrev Vy:Type:=Int→Bool→List (List Int)→Int→Int→tY→List Int→List Int→vV→jT→wI→Option LN
def yQk (k:Nat)(rec:Vy)(s2:Int)(bx:Bool)(Mh:List (List Int))(xo nZ:Int)(b0:tY)(r1 r2:List Int)(b3:vV)(b4:jT)(b5:wI):Option LN:=
 bif decide (nZ < xo) then (bif zE nZ Mh.length then ((Se k (Mh.getD nZ.toNat [])).bind fun x8=>
   bif decide (x8.2 = 0) then ((jm k b3 b5 x8.1).bind fun x9=>
    rec s2 bx Mh xo (zA (nZ+1)) b0 r1 r2 b3 b4 x9.1)
   else rec s2 bx Mh xo (zA (nZ+1)) b0 r1 r2 b3 b4 b5)
  else none)
 else some (s2,bx,b0,r1,r2,b3,b4,b5)
def Gf (k:Nat):Nat→Vy:=vC (fun _ _ _ _ _ _ _ _ _ _ _=>none) (yQk k)
def o9 (k:Nat)(a0:vV)(a1:vD)(a2:Int):Option ((Int×vD×mJ×jT)⊕(Int×vD)):=
 (xg k a0).bind fun x0=>
 bif !x0 then some (.inr (1,a1))
 else bif decide (a2<1) then some (.inr (1,a1))
 else bif decide (a2>1000) then some (.inr (1,a1))
 else(Rs k a1).bind fun x1=>
 (nL k a0).bind fun x2=>
 (jo k x2).bind fun x3=>
 (qSm k a1 x3).bind fun x4=>
 match x4 with
 |.inl x5=>bif !(decide (x5.2.2.1=0)) then some (.inr (x5.2.2.1,x5.2.2.2.1))
  else(Kz k x5.1).bind fun x6=>
  bif !x6.2 then ((nL k a0).bind fun x7=>
   (Gf k k a2 x1.2.2.2.2 x5.2.1 (x5.2.1.length:Int) 0 (x5.2.2.2.1.1,x5.2.2.2.1.2.2.1,x5.2.2.2.1.2.2.2.2) x5.2.2.2.1.2.1 x5.2.2.2.1.2.2.2.1 a0 x5.2.2.2.2 x7).bind fun z=>
   bif z.2.1 then ((jo k z.2.2.2.2.2.2.2).bind fun eK=>
    (tG k z.2.2.2.2.2.2.1 (z.2.2.1.1,z.2.2.2.1,z.2.2.1.2.1,z.2.2.2.2.1,z.2.2.1.2.2) eK).bind fun iW=>
    bif !(decide (iW.1=0)) then some (.inr (iW.1,iW.2.2))
    else some (.inl (0,iW.2.2,(ft z.2.2.2.2.2.1 (Cy z (z.1,false))),iW.2.1)))
   else some (.inl (0,(z.2.2.1.1,z.2.2.2.1,z.2.2.1.2.1,z.2.2.2.2.1,z.2.2.1.2.2),(ft z.2.2.2.2.2.1 (Cy z (z.1,false))),z.2.2.2.2.2.2.1)))
  else(LM k a0 x6.1).bind fun nY=>
  bif !nY then ((nL k a0).bind fun n9=>
   (Gf k k a2 x1.2.2.2.2 x5.2.1 (x5.2.1.length:Int) 0 (x5.2.2.2.1.1,x5.2.2.2.1.2.2.1,x5.2.2.2.1.2.2.2.2) x5.2.2.2.1.2.1 x5.2.2.2.1.2.2.2.1 a0 x5.2.2.2.2 n9).bind fun z1=>
   bif z1.2.1 then ((jo k z1.2.2.2.2.2.2.2).bind fun tZ=>
    (tG k z1.2.2.2.2.2.2.1 (z1.2.2.1.1,z1.2.2.2.1,z1.2.2.1.2.1,z1.2.2.2.2.1,z1.2.2.1.2.2) tZ).bind fun rT=>
    bif !(decide (rT.1=0)) then some (.inr (rT.1,rT.2.2))
    else some (.inl (0,rT.2.2,(ft z1.2.2.2.2.2.1 (Cy z1 (z1.1,false))),rT.2.1)))
   else some (.inl (0,(z1.2.2.1.1,z1.2.2.2.1,z1.2.2.1.2.1,z1.2.2.2.2.1,z1.2.2.1.2.2),(ft z1.2.2.2.2.2.1 (Cy z1 (z1.1,false))),z1.2.2.2.2.2.2.1)))
  else(Gf k k a2 x1.2.2.2.2 x5.2.1 (x5.2.1.length:Int) 0 (x5.2.2.2.1.1,x5.2.2.2.1.2.2.1,x5.2.2.2.1.2.2.2.2) x5.2.2.2.1.2.1 x5.2.2.2.1.2.2.2.1 a0 x5.2.2.2.2 x6.1).bind fun z2=>
  bif z2.2.1 then ((jo k z2.2.2.2.2.2.2.2).bind fun CA=>
   (tG k z2.2.2.2.2.2.2.1 (z2.2.2.1.1,z2.2.2.2.1,z2.2.2.1.2.1,z2.2.2.2.2.1,z2.2.2.1.2.2) CA).bind fun oc=>
   bif !(decide (oc.1=0)) then some (.inr (oc.1,oc.2.2))
   else some (.inl (0,oc.2.2,(ft z2.2.2.2.2.2.1 (Cy z2 (z2.1,false))),oc.2.1)))
  else some (.inl (0,(z2.2.2.1.1,z2.2.2.2.1,z2.2.2.1.2.1,z2.2.2.2.2.1,z2.2.2.1.2.2),(ft z2.2.2.2.2.2.1 (Cy z2 (z2.1,false))),z2.2.2.2.2.2.2.1))
 |.inr CB=>bif !(decide (CB.2.2.1=0)) then some (.inr (CB.2.2.1,CB.2.2.2))
  else(Kz k CB.1).bind fun Mi=>
  bif !Mi.2 then ((nL k a0).bind fun ua=>
   none)
  else(LM k a0 Mi.1).bind fun xp=>
  bif !xp then ((nL k a0).bind fun x22=>
   none)
  else none
def xa (k:Nat)(bh:mJ)(dw:jT)(kC:vD):Option (Bool×mJ×jT×vD):=
 some (bh.2.2.2.2.2.2.2.2.2.2.2.2.2.2.2.2.2,bh,dw,kC)
def Gg (k:Nat)(a0 a1:Int):Option (List qA):=
 some [(a0,16,a1,0,0,0,0,0)]
def QT (k:Nat)(a0:zF):Option (List Int):=
 (nK k a0).bind fun x0=>
 bif !x0 then some []
 else(qx k a0.1).bind fun x1=>
 bif (decide (0 ≤ x1)) && (decide (x1 ≤ 6)) then ((tE k (yB [a0.2.1,a0.2.2.1,a0.2.2.2.1,a0.2.2.2.2.1,a0.2.2.2.2.2.1,a0.2.2.2.2.2.2] 0 (x1.toNat-0))).bind fun x2=>
  bif zX (1+x2.length) 1 then some ([(IntKind.wrap .u8 (a0.1))]++x2)
  else none)
 else none
def JS (k:Nat)(a0:qA):Option (List Int):=
 (QT k a0.2).bind fun x0=>
 bif decide ((x0.length:Int)=0) then some []
 else(tE k [a0.1]).bind fun x1=>
 bif zX (x1.length+x0.length) 1 then some (x1++x0)
 else none
def w9 (k:Nat)(bh:jT)(dw:vD)(a1:List Int):Option (Int×jT×vD):=
 (FL k a1).bind fun x0=>
 bif !x0.2 then some (10,bh,dw)
 else bif bh.2.2.2 then some (10,bh,dw)
 else(rE k dw bh.1 x0.1).bind fun x1=>
 bif decide (x1.1=3) then some (10,bh,x1.2)
 else bif decide (x1.1 = 0) then ((BX k x1.2).bind fun x2=>
  bif decide (x2.1=0) then some (x2.1,(bh.1,bh.2.1,(zA (bh.2.2.1+1)),bh.2.2.2),x2.2)
  else some (x2.1,bh,x2.2))
 else bif decide (x1.1=0) then some (x1.1,(bh.1,bh.2.1,(zA (bh.2.2.1+1)),bh.2.2.2),x1.2)
 else some (x1.1,bh,x1.2)
def JT (k:Nat)(bh:mJ)(dw:jT)(kC:vD)(a1:List Int):Option (Int×mJ×jT×vD):=
 (w9 k dw kC a1).bind fun x0=>
 bif !(decide (x0.1=10)) then some (x0.1,bh,x0.2.1,x0.2.2)
 else(jo k (tH bh)).bind fun x1=>
 (tG k x0.2.1 x0.2.2 x1).bind fun x2=>
 bif !(decide (x2.1=0)) then some (x2.1,bh,x2.2.1,x2.2.2)
 else(w9 k x2.2.1 x2.2.2 a1).bind fun x3=>
 some (x3.1,bh,x3.2.1,x3.2.2)
def JU (k:Nat)(bh:jT)(dw:vD):Option (Int×jT×vD):=
 some (bh.2.2.1,bh,dw)
def FP (k:Nat)(bh:mJ)(dw:jT)(kC:vD)(a1:Int)(a2:List Int):Option ((List qA)×mJ×jT×vD):=
 (xa k bh dw kC).bind fun x0=>
 bif x0.1 then some ([],x0.2.1,x0.2.2.1,x0.2.2.2)
 else(lQ k a2).bind fun x1=>
 bif !(decide (x1.2 = 0)) then ((Gg k a1 x1.2).bind fun x2=>
  some (x2,x0.2.1,x0.2.2.1,x0.2.2.2))
 else(jm k (vO x0.2.1) (tH x0.2.1) (a1,x1.1)).bind fun x3=>
 bif !(decide (x3.2.2 = 0)) then ((Gg k a1 x3.2.2).bind fun x4=>
  some (x4,x0.2.1,x0.2.2.1,x0.2.2.2))
 else bif decide (x1.1.1=9) then some (x3.2.1,x0.2.1,x0.2.2.1,x0.2.2.2)
 else(JS k (a1,x1.1)).bind fun x5=>
 (JT k x0.2.1 x0.2.2.1 x0.2.2.2 x5).bind fun x6=>
 bif decide (x6.1 = 0) then ((JU k x6.2.2.1 x6.2.2.2).bind fun x7=>
  bif decide (x7.1 ≥ x6.2.1.2.2.2.2.2.2.2.2.2.2.2.2.2.2.2.2.1) then ((jo k x3.1).bind fun x8=>
   (tG k x7.2.1 x7.2.2 x8).bind fun x9=>
   bif decide (x9.1=11) then some (x3.2.1,(rJ x6.2.1 (jJ x3.1 (x6.2.1.2.2.2.2.2.2.2.2.2.2.2.2.2.2.2.2.1,true))),x9.2.1,x9.2.2)
   else some (x3.2.1,(rJ x6.2.1 (jJ x3.1 x6.2.1.2.2.2.2.2.2.2.2.2.2.2.2.2.2.2.2)),x9.2.1,x9.2.2))
  else some (x3.2.1,(rJ x6.2.1 (jJ x3.1 x6.2.1.2.2.2.2.2.2.2.2.2.2.2.2.2.2.2.2)),x7.2.1,x7.2.2))
 else bif decide (x6.1 = 10) then ((Gg k a1 10).bind fun eK=>
  some (eK,x6.2.1,x6.2.2.1,x6.2.2.2))
 else some ([],(Wi x6.2.1 true),x6.2.2.1,x6.2.2.2)
def JV (k:Nat)(a0:qA):Option Bool:=
 some (decide (a0.2.1=16))
abbrev VF:Type:=List qA→Int→Int→Option (Unit⊕Int)
def tI (k:Nat)(rec:VF)(s0:List qA)(s7 s8:Int):Option (Unit⊕Int):=
 bif decide (s8 < s7) then (bif zE s8 s0.length then ((JV k (s0.getD s8.toNat (0,0,0,0,0,0,0,0))).bind fun x0=>
   bif x0 then some (.inr s8)
   else rec s0 s7 (zA (s8+1)))
  else none)
 else some (.inl ())
def FQ (k:Nat):Nat→VF:=vC (fun _ _ _=>none) (tI k)
def QX (k:Nat)(a0:List qA):Option Int:=
 (FQ k k a0 (a0.length:Int) 0).bind fun z=>
 match z with
 |.inl z1=>some (-1)
 |.inr z2=>some z2
def QW (k:Nat)(a0:List qA):Option Bool:=
 (QX k a0).bind fun x0=>
 some (decide (x0≥0))
def B7 (k:Nat)(a0:List qA):Option Bool:=
 (QW k a0).bind fun x0=>
 some x0
def VH (k:Nat)(a0:vD)(a1:yV):Option vD:=
 some (rJ a0 (a1.1,a1.2,true,a0.2.2.2.2.2.2.2.2))
def VI (k:Nat)(a0:vD):Option vD:=
 bif (decide (0 ≤ a0.2.2.1)) && (decide (a0.2.2.1 ≤ (a0.2.1.length : Int))) then (bif (decide (0≤a0.2.2.2.2.1))&&(decide (a0.2.2.2.2.1≤(a0.2.2.2.1.length:Int))) then some (a0.1,(List.take (a0.2.2.1.toNat-0) a0.2.1),a0.2.2.1,(List.take (a0.2.2.2.2.1.toNat-0) a0.2.2.2.1),a0.2.2.2.2.1,a0.2.2.2.2.2.1,a0.2.2.2.2.2.2.1,false,false,0)
  else none)
 else none
def Gh (k:Nat):Option Bool:=
 some true
def yKw (k:Nat)(a1:Int)(a2:List Int):Option (List qA):=
 (Gh k).bind fun x0=>
 bif x0 then some []
 else(lQ k a2).bind fun x1=>
 bif !(decide (x1.2 = 0)) then ((Gg k a1 x1.2).bind fun x2=>
  some x2)
 else none
def VK (k:Nat):Option wI:=
 some (0,[],[],[],[],[],[],[],[],0,false)
def VL (k:Nat)(bh:mJ)(dw:jT)(kC:vD):Option (wI×mJ×jT×vD):=
 some ((tH bh),bh,dw,kC)
def yGu (k:Nat)(a1:Int):Option (List Int):=
 some []
def LS (k:Nat)(a1:Int):Option (Int×(List Int)×(List (List Int))):=
 (yGu k a1).bind fun x0=>
 (Rl k x0).bind fun x1=>
 bif decide ((x1.1.length:Int)=0) then some (0,[],[])
 else bif zE 0 x1.1.length then (bif decide (((x1.1.getD 0 []).length:Int)<8) then some (0,[],[])
  else bif zE 0 x1.1.length then (bif decide (8 ≤ ((x1.1.getD 0 []).length : Int)) then ((qw k (List.take 8 (x1.1.getD 0 []))).bind fun x2=>
    bif zE 0 x2.1.length then (bif decide ((x2.1.getD 0 0)<1) then some (0,[],[])
     else bif zE 0 x2.1.length then (bif decide ((x2.1.getD 0 0)>4611686018427387904) then some (0,[],[])
      else bif zE 0 x2.1.length then (bif zE 0 x1.1.length then (bif decide (8 ≤ ((x1.1.getD 0 []).length : Int)) then (bif decide (1≤(x1.1.length:Int)) then some ((x2.1.getD 0 0),(List.drop 8 (x1.1.getD 0 [])),(yB x1.1 1 (x1.1.length-1)))
         else none)
        else none)
       else none)
      else none)
     else none)
    else none)
   else none)
  else none)
 else none
def yOj (k:Nat):Option (Int×Int×(List Int)×(List (List Int))×Bool):=
 (LS k 0).bind fun x0=>
 bif decide (x0.1 > 0) then ((LS k 1).bind fun x1=>
  bif decide (x1.1>x0.1) then some (x1.1,1,x1.2.1,x1.2.2,true)
  else some (x0.1,0,x0.2.1,x0.2.2,true))
 else(LS k 1).bind fun x2=>
 bif decide (x2.1>0) then some (x2.1,1,x2.2.1,x2.2.2,true)
 else some (0,0,[],[],false)
def yCa (k:Nat)(a1:List Int):Option ((List Int)×(List (List Int))×Int):=
 some ([],[],11)
def LU (k:Nat)(a1:List Int):Option Int:=
 some 11
abbrev LV:Type:=Int×Bool×vV×wI
abbrev VM:Type:=Int→Bool→Int→Int→vV→wI→List (List Int)→Option LV
def yOa (k:Nat)(rec:VM)(s2:Int)(bx:Bool)(xo nZ:Int)(b0:vV)(b1:wI)(r2:List (List Int)):Option LV:=
 bif decide (nZ < xo) then (bif zE nZ r2.length then ((Se k (r2.getD nZ.toNat [])).bind fun x7=>
   bif decide (x7.2 = 0) then ((jm k b0 b1 x7.1).bind fun x8=>
    rec s2 bx xo (zA (nZ+1)) b0 x8.1 r2)
   else rec s2 bx xo (zA (nZ+1)) b0 b1 r2)
  else none)
 else some (s2,bx,b0,b1)
def Gj (k:Nat):Nat→VM:=vC (fun _ _ _ _ _ _ _=>none) (yOa k)
def qZr (k:Nat)(a0:vV)(a2:Int):Option Int:=
 (xg k a0).bind fun x0=>
 bif !x0 then some 1
 else bif decide (a2<1) then some 1
 else bif decide (a2>1000) then some 1
 else(yOj k).bind fun x1=>
 (nL k a0).bind fun x2=>
 (jo k x2).bind fun x3=>
 (yCa k x3).bind fun x4=>
 bif !(decide (x4.2.2=0)) then some x4.2.2
 else(Kz k x4.1).bind fun x5=>
 bif !x5.2 then ((nL k a0).bind fun x6=>
  (Gj k k a2 x1.2.2.2.2 (x4.2.1.length:Int) 0 a0 x6 x4.2.1).bind fun z=>
  bif z.2.1 then ((jo k z.2.2.2).bind fun x9=>
   (LU k x9).bind fun eK=>
   bif !(decide (eK=0)) then some eK
   else none)
  else none)
 else(LM k a0 x5.1).bind fun iW=>
 bif !iW then ((nL k a0).bind fun nY=>
  (Gj k k a2 x1.2.2.2.2 (x4.2.1.length:Int) 0 a0 nY x4.2.1).bind fun z1=>
  bif z1.2.1 then ((jo k z1.2.2.2).bind fun n9=>
   (LU k n9).bind fun tZ=>
   bif !(decide (tZ=0)) then some tZ
   else none)
  else none)
 else(Gj k k a2 x1.2.2.2.2 (x4.2.1.length:Int) 0 a0 x5.1 x4.2.1).bind fun z2=>
 bif z2.2.1 then ((jo k z2.2.2.2).bind fun rT=>
  (LU k rT).bind fun CA=>
  bif !(decide (CA=0)) then some CA
  else none)
 else none
abbrev LX:Type:=(mI×mI×(List (List qA))×(List qA))⊕(mI×mJ×jT×tY×(List Int)×(List Int)×mI×(List (List qA))×(List qA))
abbrev FJ:Type:=(Int×(List mH)×Int×Int×vV×mI×tY×(List Int)×(List Int)×mJ×jT×mI×(List (List qA))×(List qA))⊕(Int×(List mH)×Int×Int×vV×mI×tY×(List Int)×(List Int)×mI×(List (List qA))×(List qA))→Option LX
def w4 (k:Nat)(rec:FJ)(z:(Int×(List mH)×Int×Int×vV×mI×tY×(List Int)×(List Int)×mJ×jT×mI×(List (List qA))×(List qA))⊕(Int×(List mH)×Int×Int×vV×mI×tY×(List Int)×(List Int)×mI×(List (List qA))×(List qA))):Option LX:=match z with
 | .inl z => bif decide (z.2.2.2.1 < z.2.2.1) then (bif zE z.2.2.2.1 z.2.1.length then (bif decide ((z.2.1.getD z.2.2.2.1.toNat (0, 0, [], 0, 0)).1 = 1) then ((FP k z.2.2.2.2.2.2.2.2.2.1 z.2.2.2.2.2.2.2.2.2.2.1 (z.2.2.2.2.2.2.1.1,z.2.2.2.2.2.2.2.1,z.2.2.2.2.2.2.1.2.1,z.2.2.2.2.2.2.2.2.1,z.2.2.2.2.2.2.1.2.2) (z.2.1.getD z.2.2.2.1.toNat (0,0,[],0,0)).2.1 (z.2.1.getD z.2.2.2.1.toNat (0,0,[],0,0)).2.2.1).bind fun x4=>
     (lQ k (z.2.1.getD z.2.2.2.1.toNat (0,0,[],0,0)).2.2.1).bind fun x5=>
     bif decide (x5.2 = 0) then ((B7 k x4.1).bind fun x6=>
      bif !x6 then (bif decide ((x4.1.length : Int) > 0) then (bif zX (z.2.2.2.2.2.2.2.2.2.2.2.2.2.length + 1) 64 then (let y0:List qA:=(z.2.2.2.2.2.2.2.2.2.2.2.2.2++[((z.2.1.getD z.2.2.2.1.toNat (0,0,[],0,0)).2.1,x5.1)])
         bif zX (z.2.2.2.2.2.2.2.2.2.2.2.2.1.length + 1) 24 then (let y1:List (List qA):=(z.2.2.2.2.2.2.2.2.2.2.2.2.1++[x4.1])
          rec (.inl (z.1,z.2.1,z.2.2.1,(zA (z.2.2.2.1+1)),z.2.2.2.2.1,z.2.2.2.2.2.1,(x4.2.2.2.1,x4.2.2.2.2.2.1,x4.2.2.2.2.2.2.2),x4.2.2.2.2.1,x4.2.2.2.2.2.2.1,x4.2.1,x4.2.2.1,z.2.2.2.2.2.2.2.2.2.2.2.1,y1,y0)))
         else none)
        else none)
       else(xa k x4.2.1 x4.2.2.1 x4.2.2.2).bind fun x7=>
       bif !x7.1 then (bif zX (z.2.2.2.2.2.2.2.2.2.2.2.2.2.length + 1) 64 then (let y2:List qA:=(z.2.2.2.2.2.2.2.2.2.2.2.2.2++[((z.2.1.getD z.2.2.2.1.toNat (0,0,[],0,0)).2.1,x5.1)])
         bif zX (z.2.2.2.2.2.2.2.2.2.2.2.2.1.length + 1) 24 then (let y3:List (List qA):=(z.2.2.2.2.2.2.2.2.2.2.2.2.1++[x4.1])
          rec (.inl (z.1,z.2.1,z.2.2.1,(zA (z.2.2.2.1+1)),z.2.2.2.2.1,z.2.2.2.2.2.1,(x7.2.2.2.1,x7.2.2.2.2.2.1,x7.2.2.2.2.2.2.2),x7.2.2.2.2.1,x7.2.2.2.2.2.2.1,x7.2.1,x7.2.2.1,z.2.2.2.2.2.2.2.2.2.2.2.1,y3,y2)))
         else none)
        else none)
       else bif zX (z.2.2.2.2.2.2.2.2.2.2.2.2.1.length + 1) 24 then (let y4:List (List qA):=(z.2.2.2.2.2.2.2.2.2.2.2.2.1++[x4.1])
        rec (.inl (z.1,z.2.1,z.2.2.1,(zA (z.2.2.2.1+1)),z.2.2.2.2.1,z.2.2.2.2.2.1,(x7.2.2.2.1,x7.2.2.2.2.2.1,x7.2.2.2.2.2.2.2),x7.2.2.2.2.1,x7.2.2.2.2.2.2.1,x7.2.1,x7.2.2.1,z.2.2.2.2.2.2.2.2.2.2.2.1,y4,z.2.2.2.2.2.2.2.2.2.2.2.2.2)))
       else none)
      else bif zX (z.2.2.2.2.2.2.2.2.2.2.2.2.1.length + 1) 24 then (let y5:List (List qA):=(z.2.2.2.2.2.2.2.2.2.2.2.2.1++[x4.1])
       rec (.inl (z.1,z.2.1,z.2.2.1,(zA (z.2.2.2.1+1)),z.2.2.2.2.1,z.2.2.2.2.2.1,(x4.2.2.2.1,x4.2.2.2.2.2.1,x4.2.2.2.2.2.2.2),x4.2.2.2.2.1,x4.2.2.2.2.2.2.1,x4.2.1,x4.2.2.1,z.2.2.2.2.2.2.2.2.2.2.2.1,y5,z.2.2.2.2.2.2.2.2.2.2.2.2.2)))
      else none)
     else bif zX (z.2.2.2.2.2.2.2.2.2.2.2.2.1.length + 1) 24 then (let y6:List (List qA):=(z.2.2.2.2.2.2.2.2.2.2.2.2.1++[x4.1])
      rec (.inl (z.1,z.2.1,z.2.2.1,(zA (z.2.2.2.1+1)),z.2.2.2.2.1,z.2.2.2.2.2.1,(x4.2.2.2.1,x4.2.2.2.2.2.1,x4.2.2.2.2.2.2.2),x4.2.2.2.2.1,x4.2.2.2.2.2.2.1,x4.2.1,x4.2.2.1,z.2.2.2.2.2.2.2.2.2.2.2.1,y6,z.2.2.2.2.2.2.2.2.2.2.2.2.2)))
     else none)
    else bif decide ((z.2.1.getD z.2.2.2.1.toNat (0, 0, [], 0, 0)).1 = 2) then ((VH k (z.2.2.2.2.2.2.1.1,z.2.2.2.2.2.2.2.1,z.2.2.2.2.2.2.1.2.1,z.2.2.2.2.2.2.2.2.1,z.2.2.2.2.2.2.1.2.2) (z.2.1.getD z.2.2.2.1.toNat (0,0,[],0,0)).2.2.2).bind fun x8=>
     bif zX (z.2.2.2.2.2.2.2.2.2.2.2.2.1.length + 1) 24 then (let y7:List (List qA):=(z.2.2.2.2.2.2.2.2.2.2.2.2.1++[[]])
      rec (.inl (z.1,z.2.1,z.2.2.1,(zA (z.2.2.2.1+1)),z.2.2.2.2.1,z.2.2.2.2.2.1,(x8.1,x8.2.2.1,x8.2.2.2.2),x8.2.1,x8.2.2.2.1,z.2.2.2.2.2.2.2.2.2.1,z.2.2.2.2.2.2.2.2.2.2.1,z.2.2.2.2.2.2.2.2.2.2.2.1,y7,z.2.2.2.2.2.2.2.2.2.2.2.2.2)))
     else none)
    else bif decide ((z.2.1.getD z.2.2.2.1.toNat (0, 0, [], 0, 0)).1 = 3) then ((VI k (z.2.2.2.2.2.2.1.1,z.2.2.2.2.2.2.2.1,z.2.2.2.2.2.2.1.2.1,z.2.2.2.2.2.2.2.2.1,z.2.2.2.2.2.2.1.2.2)).bind fun x9=>
     (o9 k z.2.2.2.2.1 x9 z.1).bind fun eK=>
     match eK with
     | .inl iW => bif zX (z.2.2.2.2.2.2.2.2.2.2.2.2.1.length + 1) 24 then (let y8:List (List qA):=(z.2.2.2.2.2.2.2.2.2.2.2.2.1++[[]])
       rec (.inl (z.1,z.2.1,z.2.2.1,(zA (z.2.2.2.1+1)),z.2.2.2.2.1,z.2.2.2.2.2.1,(iW.2.1.1,iW.2.1.2.2.1,iW.2.1.2.2.2.2),iW.2.1.2.1,iW.2.1.2.2.2.1,iW.2.2.1,iW.2.2.2,z.2.2.2.2.2.2.2.2.2.2.2.1,y8,z.2.2.2.2.2.2.2.2.2.2.2.2.2)))
      else none
     | .inr nY => bif zX (z.2.2.2.2.2.2.2.2.2.2.2.2.1.length + 1) 24 then (let y9:List (List qA):=(z.2.2.2.2.2.2.2.2.2.2.2.2.1++[[]])
       rec (.inr (z.1,z.2.1,z.2.2.1,(zA (z.2.2.2.1+1)),z.2.2.2.2.1,z.2.2.2.2.2.1,(nY.2.1,nY.2.2.2.1,nY.2.2.2.2.2),nY.2.2.1,nY.2.2.2.2.1,z.2.2.2.2.2.2.2.2.2.2.2.1,y9,z.2.2.2.2.2.2.2.2.2.2.2.2.2)))
      else none)
    else bif zX (z.2.2.2.2.2.2.2.2.2.2.2.2.1.length + 1) 24 then (let y10:List (List qA):=(z.2.2.2.2.2.2.2.2.2.2.2.2.1++[[]])
     rec (.inl (z.1,z.2.1,z.2.2.1,(zA (z.2.2.2.1+1)),(yZb z (y10,z.2.2.2.2.2.2.2.2.2.2.2.2.2)))))
    else none)
   else none)
  else some (.inr (z.2.2.2.2.2.1,z.2.2.2.2.2.2.2.2.2.1,z.2.2.2.2.2.2.2.2.2.2.1,z.2.2.2.2.2.2.1,z.2.2.2.2.2.2.2.1,z.2.2.2.2.2.2.2.2.1,z.2.2.2.2.2.2.2.2.2.2.2.1,z.2.2.2.2.2.2.2.2.2.2.2.2.1,z.2.2.2.2.2.2.2.2.2.2.2.2.2))
 | .inr z1 => bif decide (z1.2.2.2.1 < z1.2.2.1) then (bif zE z1.2.2.2.1 z1.2.1.length then (bif decide ((z1.2.1.getD z1.2.2.2.1.toNat (0, 0, [], 0, 0)).1 = 1) then ((yKw k (z1.2.1.getD z1.2.2.2.1.toNat (0,0,[],0,0)).2.1 (z1.2.1.getD z1.2.2.2.1.toNat (0,0,[],0,0)).2.2.1).bind fun n9=>
     (lQ k (z1.2.1.getD z1.2.2.2.1.toNat (0,0,[],0,0)).2.2.1).bind fun tZ=>
     bif decide (tZ.2 = 0) then ((B7 k n9).bind fun rT=>
      bif !rT then (bif decide ((n9.length : Int) > 0) then (bif zX (z1.2.2.2.2.2.2.2.2.2.2.2.length + 1) 64 then (let y11:List qA:=(z1.2.2.2.2.2.2.2.2.2.2.2++[((z1.2.1.getD z1.2.2.2.1.toNat (0,0,[],0,0)).2.1,tZ.1)])
         bif zX (z1.2.2.2.2.2.2.2.2.2.2.1.length + 1) 24 then (let y12:List (List qA):=(z1.2.2.2.2.2.2.2.2.2.2.1++[n9])
          rec (.inr (z1.1,z1.2.1,z1.2.2.1,(zA (z1.2.2.2.1+1)),(Cz z1 (y12,y11)))))
         else none)
        else none)
       else(Gh k).bind fun CA=>
       bif !CA then (bif zX (z1.2.2.2.2.2.2.2.2.2.2.2.length + 1) 64 then (let y13:List qA:=(z1.2.2.2.2.2.2.2.2.2.2.2++[((z1.2.1.getD z1.2.2.2.1.toNat (0,0,[],0,0)).2.1,tZ.1)])
         bif zX (z1.2.2.2.2.2.2.2.2.2.2.1.length + 1) 24 then (let y14:List (List qA):=(z1.2.2.2.2.2.2.2.2.2.2.1++[n9])
          rec (.inr (z1.1,z1.2.1,z1.2.2.1,(zA (z1.2.2.2.1+1)),(Cz z1 (y14,y13)))))
         else none)
        else none)
       else bif zX (z1.2.2.2.2.2.2.2.2.2.2.1.length + 1) 24 then (let y15:List (List qA):=(z1.2.2.2.2.2.2.2.2.2.2.1++[n9])
        rec (.inr (z1.1,z1.2.1,z1.2.2.1,(zA (z1.2.2.2.1+1)),(Cz z1 (y15,z1.2.2.2.2.2.2.2.2.2.2.2)))))
       else none)
      else bif zX (z1.2.2.2.2.2.2.2.2.2.2.1.length + 1) 24 then (let y16:List (List qA):=(z1.2.2.2.2.2.2.2.2.2.2.1++[n9])
       rec (.inr (z1.1,z1.2.1,z1.2.2.1,(zA (z1.2.2.2.1+1)),(Cz z1 (y16,z1.2.2.2.2.2.2.2.2.2.2.2)))))
      else none)
     else bif zX (z1.2.2.2.2.2.2.2.2.2.2.1.length + 1) 24 then (let y17:List (List qA):=(z1.2.2.2.2.2.2.2.2.2.2.1++[n9])
      rec (.inr (z1.1,z1.2.1,z1.2.2.1,(zA (z1.2.2.2.1+1)),(Cz z1 (y17,z1.2.2.2.2.2.2.2.2.2.2.2)))))
     else none)
    else bif decide ((z1.2.1.getD z1.2.2.2.1.toNat (0, 0, [], 0, 0)).1 = 2) then ((VH k (z1.2.2.2.2.2.2.1.1,z1.2.2.2.2.2.2.2.1,z1.2.2.2.2.2.2.1.2.1,z1.2.2.2.2.2.2.2.2.1,z1.2.2.2.2.2.2.1.2.2) (z1.2.1.getD z1.2.2.2.1.toNat (0,0,[],0,0)).2.2.2).bind fun oc=>
     bif zX (z1.2.2.2.2.2.2.2.2.2.2.1.length + 1) 24 then (let y18:List (List qA):=(z1.2.2.2.2.2.2.2.2.2.2.1++[[]])
      rec (.inr (z1.1,z1.2.1,z1.2.2.1,(zA (z1.2.2.2.1+1)),z1.2.2.2.2.1,z1.2.2.2.2.2.1,(oc.1,oc.2.2.1,oc.2.2.2.2),oc.2.1,oc.2.2.2.1,z1.2.2.2.2.2.2.2.2.2.1,y18,z1.2.2.2.2.2.2.2.2.2.2.2)))
     else none)
    else bif decide ((z1.2.1.getD z1.2.2.2.1.toNat (0, 0, [], 0, 0)).1 = 3) then ((VI k (z1.2.2.2.2.2.2.1.1,z1.2.2.2.2.2.2.2.1,z1.2.2.2.2.2.2.1.2.1,z1.2.2.2.2.2.2.2.2.1,z1.2.2.2.2.2.2.1.2.2)).bind fun CB=>
     (o9 k z1.2.2.2.2.1 CB z1.1).bind fun Mi=>
     match Mi with
     | .inl ua => bif zX (z1.2.2.2.2.2.2.2.2.2.2.1.length + 1) 24 then (let y19:List (List qA):=(z1.2.2.2.2.2.2.2.2.2.2.1++[[]])
       rec (.inl (z1.1,z1.2.1,z1.2.2.1,(zA (z1.2.2.2.1+1)),z1.2.2.2.2.1,z1.2.2.2.2.2.1,(ua.2.1.1,ua.2.1.2.2.1,ua.2.1.2.2.2.2),ua.2.1.2.1,ua.2.1.2.2.2.1,ua.2.2.1,ua.2.2.2,z1.2.2.2.2.2.2.2.2.2.1,y19,z1.2.2.2.2.2.2.2.2.2.2.2)))
      else none
     | .inr xp => bif zX (z1.2.2.2.2.2.2.2.2.2.2.1.length + 1) 24 then (let y20:List (List qA):=(z1.2.2.2.2.2.2.2.2.2.2.1++[[]])
       rec (.inr (z1.1,z1.2.1,z1.2.2.1,(zA (z1.2.2.2.1+1)),z1.2.2.2.2.1,z1.2.2.2.2.2.1,(xp.2.1,xp.2.2.2.1,xp.2.2.2.2.2),xp.2.2.1,xp.2.2.2.2.1,z1.2.2.2.2.2.2.2.2.2.1,y20,z1.2.2.2.2.2.2.2.2.2.2.2)))
      else none)
    else bif zX (z1.2.2.2.2.2.2.2.2.2.2.1.length + 1) 24 then (let y21:List (List qA):=(z1.2.2.2.2.2.2.2.2.2.2.1++[[]])
     rec (.inr (z1.1,z1.2.1,z1.2.2.1,(zA (z1.2.2.2.1+1)),(Cz z1 (y21,z1.2.2.2.2.2.2.2.2.2.2.2)))))
    else none)
   else none)
  else some (.inl (z1.2.2.2.2.2.1,z1.2.2.2.2.2.2.2.2.2.1,z1.2.2.2.2.2.2.2.2.2.2.1,z1.2.2.2.2.2.2.2.2.2.2.2))
def xc (k:Nat):Nat→FJ:=vC (fun _=>none) (w4 k)
def B9 (k:Nat)(a0:vV)(a1 a2:Int)(a3:List mH):Option ((List (List qA))×(List qA)×Int×(List zR)×(List (List Int))×(List Int)×(List (List Int))×(List Int)×(List (List Int))×(List zF)×(List Int)×Int×Bool×Bool):=
 (QY k a1).bind fun x0=>
 match x0 with
 |.inl x1=>(o9 k a0 x1 a2).bind fun x2=>
  match x2 with
  |.inl x3=>bif !(decide (x3.1=0)) then some ([],[],0,[],[],[],[],[],[],[],[],0,false,false)
   else(xc k k (.inl (a2,a3,(a3.length:Int),0,a0,(0,0,false,false),(x3.2.1.1,x3.2.1.2.2.1,x3.2.1.2.2.2.2),x3.2.1.2.1,x3.2.1.2.2.2.1,x3.2.2.1,x3.2.2.2,(0,0,false,false),[],[]))).bind fun z2=>
   match z2 with
   |.inl z3=>(VK k).bind fun x22=>
    (Gh k).bind fun x23=>
    some (z3.2.2.1,z3.2.2.2,(jJ x22 (!x23)))
   |.inr z4=>(VL k z4.2.1 z4.2.2.1 (z4.2.2.2.1.1,z4.2.2.2.2.1,z4.2.2.2.1.2.1,z4.2.2.2.2.2.1,z4.2.2.2.1.2.2)).bind fun Mj=>
    (xa k Mj.2.1 Mj.2.2.1 Mj.2.2.2).bind fun x25=>
    some (z4.2.2.2.2.2.2.2.1,z4.2.2.2.2.2.2.2.2,(jJ Mj.1 (!x25.1)))
  |.inr CC=>bif !(decide (CC.1=0)) then some ([],[],0,[],[],[],[],[],[],[],[],0,false,false)
   else(xc k k (.inr (a2,a3,(a3.length:Int),0,a0,(0,0,false,false),(CC.2.1,CC.2.2.2.1,CC.2.2.2.2.2),CC.2.2.1,CC.2.2.2.2.1,(0,0,false,false),[],[]))).bind fun z5=>
   match z5 with
   |.inl z6=>(VK k).bind fun x27=>
    (Gh k).bind fun x28=>
    some (z6.2.2.1,z6.2.2.2,(jJ x27 (!x28)))
   |.inr z7=>(VL k z7.2.1 z7.2.2.1 (z7.2.2.2.1.1,z7.2.2.2.2.1,z7.2.2.2.1.2.1,z7.2.2.2.2.2.1,z7.2.2.2.1.2.2)).bind fun Mk=>
    (xa k Mk.2.1 Mk.2.2.1 Mk.2.2.2).bind fun x30=>
    some (z7.2.2.2.2.2.2.2.1,z7.2.2.2.2.2.2.2.2,(jJ Mk.1 (!x30.1)))
 |.inr x31=>(qZr k a0 a2).bind fun x32=>
  bif !(decide (x32=0)) then some ([],[],0,[],[],[],[],[],[],[],[],0,false,false)
  else none
def EI (k:Nat)(a0:Int):Option Int:=
 bif decide (a0<0) then some (-1)
 else bif decide (a0≥24) then some (-1)
 else bif zE a0 24 then some (List.getD [(-1),6,1,2,2,2,1,1,2,0,2,2,2,0,0,0,1,5,4,1,1,1,1,1] a0.toNat 0)
 else none
abbrev VR:Type:=Int→Int→zF→Option (Int⊕Bool)
def yF6 (k:Nat)(rec:VR)(s3 s4:Int)(b0:zF):Option (Int⊕Bool):=
 bif decide (s4 < 6) then (bif decide (s4 = 0) then (bif !(decide (b0.2.1=0)) then some (.inr false)
   else rec s3 (zA (s4+1)) b0)
  else bif decide (s4 = 1) then (bif !(decide (b0.2.2.1=0)) then some (.inr false)
   else rec s3 (zA (s4+1)) b0)
  else bif decide (s4 = 2) then (bif !(decide (b0.2.2.2.1=0)) then some (.inr false)
   else rec s3 (zA (s4+1)) b0)
  else bif decide (s4 = 3) then (bif !(decide (b0.2.2.2.2.1=0)) then some (.inr false)
   else rec s3 (zA (s4+1)) b0)
  else bif decide (s4 = 4) then (bif !(decide (b0.2.2.2.2.2.1=0)) then some (.inr false)
   else rec s3 (zA (s4+1)) b0)
  else bif decide (s4 = 5) then (bif !(decide (b0.2.2.2.2.2.2=0)) then some (.inr false)
   else rec s3 (zA (s4+1)) b0)
  else none)
 else some (.inl s3)
def EJ (k:Nat):Nat→VR:=vC (fun _ _ _=>none) (yF6 k)
def Ir (k:Nat)(a0:zF):Option Bool:=
 (EI k a0.1).bind fun x0=>
 (EJ k k x0 (wC false x0 0) a0).bind fun z=>
 match z with
 |.inl z1=>some (decide (z1≥0))
 |.inr z2=>some z2
abbrev LY:Type:=Int×Int×Int×Int×Int×Int×Int×Int×Int×Int×Int×Int×Int×Int
abbrev VU:Type:=List Int→Int→Int→Int→Int→Int→Int→Int→Int→Int→Int→Int→Int→Int→Int→Int→Option LY
def yOl (k:Nat)(rec:VU)(s1:List Int)(s6 ab ag ah af bm bz bA az aI aJ aR aZ ba bb:Int):Option LY:=
 bif decide (s6 < (s1.length : Int)) then (bif decide (s6 < 6) then (bif zE s6 s1.length then (bif decide (s6=0) then(rec s1 (zA (s6+1)) ab ag ah af bm bz bA az (s1.getD s6.toNat 0) aJ aR aZ ba bb)
    else bif decide (s6=1) then(rec s1 (zA (s6+1)) ab ag ah af bm bz bA az aI (s1.getD s6.toNat 0) aR aZ ba bb)
    else bif decide (s6=2) then(rec s1 (zA (s6+1)) ab ag ah af bm bz bA az aI aJ (s1.getD s6.toNat 0) aZ ba bb)
    else bif decide (s6=3) then(rec s1 (zA (s6+1)) ab ag ah af bm bz bA az aI aJ aR (s1.getD s6.toNat 0) ba bb)
    else bif decide (s6=4) then(rec s1 (zA (s6+1)) ab ag ah af bm bz bA az aI aJ aR aZ (s1.getD s6.toNat 0) bb)
    else bif decide (s6=5) then(rec s1 (zA (s6+1)) ab ag ah af bm bz bA az aI aJ aR aZ ba (s1.getD s6.toNat 0))
    else none)
   else none)
  else some (ab,ag,ah,af,bm,bz,bA,az,aI,aJ,aR,aZ,ba,bb))
 else some (ab,ag,ah,af,bm,bz,bA,az,aI,aJ,aR,aZ,ba,bb)
def LZ (k:Nat):Nat→VU
 |0,_,_,_,_,_,_,_,_,_,_,_,_,_,_,_,_=>none
 |n+1,s1,s6,ab,ag,ah,af,bm,bz,bA,az,aI,aJ,aR,aZ,ba,bb=>yOl k (LZ k n) s1 s6 ab ag ah af bm bz bA az aI aJ aR aZ ba bb
def yKy (k:Nat)(a0:Int)(a1:List Int):Option zF:=
 (LZ k k a1 0 0 0 0 0 0 0 0 a0 0 0 0 0 0 0).bind fun z=>
 some (z.2.2.2.2.2.2.2.1,z.2.2.2.2.2.2.2.2.1,z.2.2.2.2.2.2.2.2.2.1,z.2.2.2.2.2.2.2.2.2.2.1,z.2.2.2.2.2.2.2.2.2.2.2.1,z.2.2.2.2.2.2.2.2.2.2.2.2.1,z.2.2.2.2.2.2.2.2.2.2.2.2.2)
def ZV (k:Nat)(ae:List zR)(aw:List (List Int))(av:List Int)(au:List (List Int))(xm bP gv bQ bY gw kx:Int):Option Bool:=
 bif decide (bP ≥ 0) then (bif decide (bP < (ae.length : Int)) then (bif decide (gv ≥ 0) then (bif decide (gv < (ae.length : Int)) then (bif !(decide (bP = gv)) then (bif decide (bQ ≥ 1) then (bif decide (bQ ≤ 1099511627776) then (bif decide (bY≥1) then some (decide (bY≤3))
        else some false)
       else some false)
      else some false)
     else some false)
    else some false)
   else some false)
  else some false)
 else some false
abbrev qTw:Type:=(List zF)⊕Bool
abbrev qTx:Type:=List zF→Int→List zR→List (List Int)→List Int→List (List Int)→Option qTw
def Ew (k:Nat)(rec:qTx)(s1:List zF)(s5:Int)(ab:List zR)(ag:List (List Int))(ah:List Int)(af:List (List Int)):Option qTw:=
 bif decide (s5 < (s1.length : Int)) then (bif zE s5 s1.length then ((ZV k ab ag ah af (s1.getD s5.toNat (0,0,0,0,0,0,0)).1 (s1.getD s5.toNat (0,0,0,0,0,0,0)).2.1 (s1.getD s5.toNat (0,0,0,0,0,0,0)).2.2.1 (s1.getD s5.toNat (0,0,0,0,0,0,0)).2.2.2.1 (s1.getD s5.toNat (0,0,0,0,0,0,0)).2.2.2.2.1 (s1.getD s5.toNat (0,0,0,0,0,0,0)).2.2.2.2.2.1 (s1.getD s5.toNat (0,0,0,0,0,0,0)).2.2.2.2.2.2).bind fun x0=>
   bif !x0 then some (.inr false)
   else rec s1 (zA (s5+1)) ab ag ah af)
  else none)
 else some (.inl s1)
def Pr (k:Nat):Nat→qTx
 |0,_,_,_,_,_,_=>none
 |n+1,s1,s5,ab,ag,ah,af=>Ew k (Pr k n) s1 s5 ab ag ah af
def Pq (k:Nat)(ae:List zR)(aw:List (List Int))(av:List Int)(au:List (List Int))(a1:List zF):Option Bool:=
 (Pr k k a1 0 ae aw av au).bind fun z=>
 match z with
 |.inl z1=>some (decide ((z1.length:Int)≤64))
 |.inr z2=>some z2
abbrev qSp:Type:=List (List Int)→Int→List (List Int)→Option (List (List Int))
def Er (k:Nat)(rec:qSp)(s0:List (List Int))(s4:Int)(m0:List (List Int)):Option (List (List Int)):=
 bif decide (s4 < (s0.length : Int)) then (bif zE s4 s0.length then (bif zX (0 + (s0.getD s4.toNat []).length) 8 then (bif zX (m0.length+1) 24 then(rec s0 (zA (s4+1)) (m0++[(s0.getD s4.toNat [])]))
    else none)
   else none)
  else none)
 else some m0
def Pf (k:Nat):Nat→qSp
 |0,_,_,_=>none
 |n+1,s0,s4,m0=>Er k (Pf k n) s0 s4 m0
def Ib (k:Nat)(a0:List (List Int)):Option (List (List Int)):=
 (Pf k k a0 0 []).bind fun z=>
 some z
def Pl (k:Nat)(ae:List zR)(aw:List (List Int))(av:List Int)(au:List (List Int)):Option Gm:=
 bif zX (0 + ae.length) 24 then ((Ib k aw).bind fun x0=>
  bif zX (0 + av.length) 8 then ((Ib k au).bind fun x1=>
   some (ae,x0,av,x1))
  else none)
 else none
abbrev yH1:Type:=List zF→Int→Int→Int→Int→Option yV
def EB (k:Nat)(rec:yH1)(s0:List zF)(s1 s6 s7 s8:Int):Option yV:=
 bif decide (s8 < (s0.length : Int)) then (bif zE s8 s0.length then (bif !(decide ((s0.getD s8.toNat (0,0,0,0,0,0,0)).2.1=s1)) then(rec s0 s1 s6 s7 (zA (s8+1)))
   else bif zE s8 s0.length then (bif decide ((s0.getD s8.toNat (0, 0, 0, 0, 0, 0, 0)).2.2.2.2.1 = 3) then (bif zE s8 s0.length then(rec s0 s1 (zA (s6+(s0.getD s8.toNat (0,0,0,0,0,0,0)).2.2.2.1)) s7 (zA (s8+1)))
     else none)
    else bif zE s8 s0.length then(rec s0 s1 s6 (zA (s7+(s0.getD s8.toNat (0,0,0,0,0,0,0)).2.2.2.1)) (zA (s8+1)))
    else none)
   else none)
  else none)
 else some (s6,s7)
def Py (k:Nat):Nat→yH1
 |0,_,_,_,_,_=>none
 |n+1,s0,s1,s6,s7,s8=>EB k (Py k n) s0 s1 s6 s7 s8
def Px (k:Nat)(a0:List zF)(a1:Int):Option yV:=
 (Py k k a0 a1 0 0 0).bind fun z=>
 some (z.1,z.2)
def Pz (k:Nat)(a0:List zF)(a1:Int):Option Int:=
 (Px k a0 a1).bind fun x0=>
 some x0.2
def PA (k:Nat)(bo bD aS a1:Int):Option Int:=
 bif decide (a1≥aS) then some 0
 else some (zA (aS-a1))
abbrev yFl:Type:=List zF→Int→Int→Int→Int→Option Int
def EA (k:Nat)(rec:yFl)(s0:List zF)(s1 s2 s7 s8:Int):Option Int:=
 bif decide (s8 < (s0.length : Int)) then (bif zE s8 s0.length then (bif decide ((s0.getD s8.toNat (0, 0, 0, 0, 0, 0, 0)).2.1 = s1) then (bif zE s8 s0.length then (bif decide ((s0.getD s8.toNat (0, 0, 0, 0, 0, 0, 0)).2.2.1 = s2) then (bif zE s8 s0.length then(rec s0 s1 s2 (zA (s7+(s0.getD s8.toNat (0,0,0,0,0,0,0)).2.2.2.1)) (zA (s8+1)))
      else none)
     else rec s0 s1 s2 s7 (zA (s8+1)))
    else none)
   else rec s0 s1 s2 s7 (zA (s8+1)))
  else none)
 else some s7
def Pv (k:Nat):Nat→yFl
 |0,_,_,_,_,_=>none
 |n+1,s0,s1,s2,s7,s8=>EA k (Pv k n) s0 s1 s2 s7 s8
def Ii (k:Nat)(a0:List zF)(a1 a2:Int):Option Int:=
 (Pv k k a0 a1 a2 0 0).bind fun z=>
 some z
def Pw (k:Nat)(a0:List zF)(a1 a2:Int):Option Int:=
 (Ii k a0 a1 a2).bind fun x0=>
 (Ii k a0 a2 a1).bind fun x1=>
 some (zA (x0-x1))
abbrev qV9:Type:=List (List Int)→Int→Int→Option (Unit⊕Bool)
def Ef (k:Nat)(rec:qV9)(s0:List (List Int))(s1 s5:Int):Option (Unit⊕Bool):=
 bif decide (s5 < s1) then (bif zE s5 s0.length then (bif !(decide (((s0.getD s5.toNat []).length:Int)=s1)) then some (.inr false)
   else rec s0 s1 (zA (s5+1)))
  else none)
 else some (.inl ())
def O5 (k:Nat):Nat→qV9
 |0,_,_,_=>none
 |n+1,s0,s1,s5=>Ef k (O5 k n) s0 s1 s5
def H0 (k:Nat)(a0:List (List Int))(a1:Int):Option Bool:=
 bif !(decide ((a0.length:Int)=a1)) then some false
 else(O5 k k a0 a1 0).bind fun z=>
 match z with
 |.inl z1=>some true
 |.inr z2=>some z2
def O2 (k:Nat)(bo bD aS:Int):Option Bool:=
 bif decide (bo > (-4611686018427387904)) then (bif decide (bo < 4611686018427387904) then (bif decide (bD ≥ 0) then (bif decide (bD ≤ 2305843009213693952) then (bif decide (aS≥0) then some (decide (aS≤2305843009213693952))
     else some false)
    else some false)
   else some false)
  else some false)
 else some false
def HY (k:Nat)(a0:Int):Option Bool:=
 bif decide (a0≥(-1)) then some (decide (a0≤2305843009213693952))
 else some false
abbrev yCd:Type:=(Int×Int×(List zR)×(List (List Int))×(List Int)×(List (List Int)))⊕Bool
abbrev qTe:Type:=Int→Int→Int→List zR→List (List Int)→List Int→List (List Int)→Option yCd
def Eg (k:Nat)(rec:qTe)(s3 s4 s5:Int)(ab:List zR)(ag:List (List Int))(ah:List Int)(af:List (List Int)):Option yCd:=
 bif decide (s5 < s3) then (bif zE s4 ag.length then (bif zE s5 (ag.getD s4.toNat []).length then ((HY k ((ag.getD s4.toNat []).getD s5.toNat 0)).bind fun x4=>
    bif !x4 then some (.inr false)
    else bif zE s4 af.length then (bif zE s5 (af.getD s4.toNat []).length then (bif decide (((af.getD s4.toNat []).getD s5.toNat 0)≤(-72057594037927936)) then some (.inr false)
      else bif zE s4 af.length then (bif zE s5 (af.getD s4.toNat []).length then (bif decide (((af.getD s4.toNat []).getD s5.toNat 0)≥72057594037927936) then some (.inr false)
        else bif zE s4 af.length then (bif zE s5 (af.getD s4.toNat []).length then (bif zE s5 af.length then (bif zE s4 (af.getD s5.toNat []).length then (bif !(decide (((af.getD s4.toNat []).getD s5.toNat 0)=(zA (0-((af.getD s5.toNat []).getD s4.toNat 0))))) then some (.inr false)
            else rec s3 s4 (zA (s5+1)) ab ag ah af)
           else none)
          else none)
         else none)
        else none)
       else none)
      else none)
     else none)
    else none)
   else none)
  else none)
 else some (.inl (s3,s4,ab,ag,ah,af))
def H2 (k:Nat):Nat→qTe
 |0,_,_,_,_,_,_,_=>none
 |n+1,s3,s4,s5,ab,ag,ah,af=>Eg k (H2 k n) s3 s4 s5 ab ag ah af
abbrev yMn:Type:=Int→Int→List zR→List (List Int)→List Int→List (List Int)→Option (Unit⊕Bool)
def Eh (k:Nat)(rec:yMn)(s3 s4:Int)(ab:List zR)(ag:List (List Int))(ah:List Int)(af:List (List Int)):Option (Unit⊕Bool):=
 bif decide (s4 < s3) then (bif zE s4 ab.length then ((O2 k (ab.getD s4.toNat (0,0,0)).1 (ab.getD s4.toNat (0,0,0)).2.1 (ab.getD s4.toNat (0,0,0)).2.2).bind fun x2=>
   bif !x2 then some (.inr false)
   else bif zE s4 ah.length then ((HY k (ah.getD s4.toNat 0)).bind fun x3=>
    bif !x3 then some (.inr false)
    else(H2 k k s3 s4 0 ab ag ah af).bind fun z=>
    match z with
    |.inl z1=>rec z1.1 (zA (z1.2.1+1)) z1.2.2.1 z1.2.2.2.1 z1.2.2.2.2.1 z1.2.2.2.2.2
    |.inr z2=>some (.inr z2))
   else none)
  else none)
 else some (.inl ())
def H3 (k:Nat):Nat→yMn
 |0,_,_,_,_,_,_=>none
 |n+1,s3,s4,ab,ag,ah,af=>Eh k (H3 k n) s3 s4 ab ag ah af
def O7 (k:Nat)(ae:List zR)(aw:List (List Int))(av:List Int)(au:List (List Int)):Option Bool:=
 bif decide ((ae.length:Int)<1) then some false
 else bif decide ((ae.length:Int)>6) then some false
 else(H0 k aw (ae.length:Int)).bind fun x0=>
 bif !x0 then some false
 else(H0 k au (ae.length:Int)).bind fun x1=>
 bif !x1 then some false
 else bif !(decide ((av.length:Int)=(ae.length:Int))) then some false
 else(H3 k k (ae.length:Int) 0 ae aw av au).bind fun z3=>
 match z3 with
 |.inl z4=>some true
 |.inr z5=>some z5
abbrev yPx:Type:=(List zF)×Int×(List zR)×(List (List Int))×(List Int)×(List (List Int))×(List zR)×(List (List Int))×(List Int)×(List (List Int))
abbrev yEd:Type:=List zF→Int→Int→List zR→List (List Int)→List Int→List (List Int)→List zR→List (List Int)→List Int→List (List Int)→Option yPx
def EC (k:Nat)(rec:yEd)(s1:List zF)(s7 s8:Int)(ab:List zR)(ag:List (List Int))(ah:List Int)(af:List (List Int))(r3:List zR)(m4:List (List Int))(r5:List Int)(m6:List (List Int)):Option yPx:=
 bif decide (s8 < (r3.length : Int)) then ((Pw k s1 s7 s8).bind fun x4=>
  bif zE s7 r3.length then (bif zE s7 r3.length then (let y1:List zR:=(r3.set s7.toNat ((zA ((r3.getD s7.toNat (0,0,0)).1-x4)),(r3.getD s7.toNat (0,0,0)).2))
    bif zE s7 m6.length then (bif zE s7 m6.length then (bif zE s8 (m6.getD s7.toNat []).length then (bif zE s8 (m6.getD s7.toNat []).length then (let y2:List (List Int):=(m6.set s7.toNat ((m6.getD s7.toNat []).set s8.toNat (zA (((m6.getD s7.toNat []).getD s8.toNat 0)+x4))))
        rec s1 s7 (zA (s8+1)) ab ag ah af y1 m4 r5 y2)
       else none)
      else none)
     else none)
    else none)
   else none)
  else none)
 else some (s1,s7,ab,ag,ah,af,r3,m4,r5,m6)
def Ik (k:Nat):Nat→yEd
 |0,_,_,_,_,_,_,_,_,_,_,_=>none
 |n+1,s1,s7,s8,ab,ag,ah,af,r3,m4,r5,m6=>EC k (Ik k n) s1 s7 s8 ab ag ah af r3 m4 r5 m6
abbrev yFs:Type:=(List zR)×(List (List Int))×(List Int)×(List (List Int))×(List zR)×(List (List Int))×(List Int)×(List (List Int))
abbrev yKp:Type:=List zF→Int→List zR→List (List Int)→List Int→List (List Int)→List zR→List (List Int)→List Int→List (List Int)→Option yFs
def EF (k:Nat)(rec:yKp)(s1:List zF)(s7:Int)(ab:List zR)(ag:List (List Int))(ah:List Int)(af:List (List Int))(r3:List zR)(m4:List (List Int))(r5:List Int)(m6:List (List Int)):Option yFs:=
 bif decide (s7 < (r3.length : Int)) then (bif zE s7 r3.length then ((Pz k s1 s7).bind fun x2=>
   (PA k (r3.getD s7.toNat (0,0,0)).1 (r3.getD s7.toNat (0,0,0)).2.1 (r3.getD s7.toNat (0,0,0)).2.2 x2).bind fun x3=>
   bif zE s7 r3.length then (let y0:List zR:=(r3.set s7.toNat ((r3.getD s7.toNat (0,0,0)).1,(r3.getD s7.toNat (0,0,0)).2.1,x3))
    (Ik k k s1 s7 0 ab ag ah af y0 m4 r5 m6).bind fun z=>
    rec z.1 (zA (z.2.1+1)) z.2.2.1 z.2.2.2.1 z.2.2.2.2.1 z.2.2.2.2.2.1 z.2.2.2.2.2.2.1 z.2.2.2.2.2.2.2.1 z.2.2.2.2.2.2.2.2.1 z.2.2.2.2.2.2.2.2.2)
   else none)
  else none)
 else some (ab,ag,ah,af,r3,m4,r5,m6)
def Im (k:Nat):Nat→yKp
 |0,_,_,_,_,_,_,_,_,_,_=>none
 |n+1,s1,s7,ab,ag,ah,af,r3,m4,r5,m6=>EF k (Im k n) s1 s7 ab ag ah af r3 m4 r5 m6
def PE (k:Nat)(ae:List zR)(aw:List (List Int))(av:List Int)(au:List (List Int))(a1:List zF):Option ((List zR)×(List (List Int))×(List Int)×(List (List Int))×Int):=
 (Pq k ae aw av au a1).bind fun x0=>
 bif !x0 then some (ae,aw,av,au,1)
 else(Pl k ae aw av au).bind fun x1=>
 (Im k k a1 0 ae aw av au x1.1 x1.2.1 x1.2.2.1 x1.2.2.2).bind fun z1=>
 (O7 k z1.2.2.2.2.1 z1.2.2.2.2.2.1 z1.2.2.2.2.2.2.1 z1.2.2.2.2.2.2.2).bind fun x5=>
 bif !x5 then some (jM z1 8)
 else some (qU6 z1 0)
def tK (k:Nat)(a0 a1:Int)(a2:List Int):Option qA:=
 (yKy k a1 a2).bind fun x0=>
 some (a0,x0)
abbrev L1:Type:=(List Int)×Int×(List Int)
abbrev VX:Type:=List Int→Int→Int→List Int→Option L1
def Iu (k:Nat)(rec:VX)(s0:List Int)(s4 s5:Int)(r0:List Int):Option L1:=
 bif decide (s5 ≥ 0) then (bif zE s4 s0.length then (bif !(decide ((IntKind.wrap .u64 (s5)) < 0)) then (bif zX (r0.length+1) 1 then(rec s0 s4 (zA (s5-8)) (r0++[(IntKind.wrap .u8 ((shr .u64 (IntKind.wrap .u64 ((s0.getD s4.toNat 0))) (IntKind.wrap .u64 (s5)))))]))
    else none)
   else none)
  else none)
 else some (s0,s4,r0)
def zx (k:Nat):Nat→VX:=vC (fun _ _ _ _=>none) (Iu k)
abbrev VZ:Type:=List Int→Int→List Int→Option (List Int)
def zy (k:Nat)(rec:VZ)(s0:List Int)(s4:Int)(r0:List Int):Option (List Int):=
 bif decide (s4 < (s0.length : Int)) then ((zx k k s0 s4 56 r0).bind fun z=>
  rec z.1 (zA (z.2.1+1)) z.2.2)
 else some r0
def vp (k:Nat):Nat→VZ:=vC (fun _ _ _=>none) (zy k)
def Is (k:Nat)(a0:List Int):Option (List Int):=
 (vp k k a0 0 []).bind fun z1=>
 some z1
def Iv (k:Nat)(a0:zF):Option (List Int):=
 (Ir k a0).bind fun x0=>
 bif !x0 then some []
 else(EI k a0.1).bind fun x1=>
 bif (decide (0 ≤ x1)) && (decide (x1 ≤ 6)) then ((Is k (yB [a0.2.1,a0.2.2.1,a0.2.2.2.1,a0.2.2.2.2.1,a0.2.2.2.2.2.1,a0.2.2.2.2.2.2] 0 (x1.toNat-0))).bind fun x2=>
  bif zX (1+x2.length) 1 then some ([(IntKind.wrap .u8 (a0.1))]++x2)
  else none)
 else none
def pc (k:Nat)(a0:qA):Option mH:=
 (Iv k a0.2).bind fun x0=>
 some (1,a0.1,x0,0,0)
end Go.Ab.Gi
