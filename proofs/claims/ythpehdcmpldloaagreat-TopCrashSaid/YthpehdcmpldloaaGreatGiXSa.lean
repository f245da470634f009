/- part 6 -/
import Derived.Test.YthpehdcmpldloaaGreatGiAbD
set_option linter.unusedVariables false
set_option maxRecDepth 100000
abbrev Go.Ab.Ty.i:Go.Ab.Ty:=.int .i64
abbrev Go.Ab.CS.i:Go.Ab.CS:=.int .i64
abbrev Go.Ab.PC.i:Go.Ab.PC:=.int .i64
abbrev Go.Ab.RC.i:Go.Ab.RC:=.int .i64
namespace Go.Ab.Gi
abbrev AC:=List Int
abbrev EQ:=List AC
abbrev jF:Type:=AC×Bool
abbrev jB:Go.Ab.Ty:=.pair .i .i
abbrev vX:Type:=Int×AC×Int×AC×Int×Int×Int×Bool×Bool×Int
abbrev fy:Type:=Int×Bool
abbrev oI:Type:=Int×Int×AC×Int×Int
abbrev pM:Type:=Int×Int×Bool×Bool
abbrev yK:Type:=Int×Int×Bool
abbrev fS:Type:=Int×Int×Int×Bool
abbrev tt:Type:=Int×Int×Int×Int×Int×Bool×Bool×Int
abbrev qE:Type:=Int×Int×Int×Int×Int×Int×Int×Int
abbrev zC:Type:=Int×Int×Int×Int×Int×Int×Int
abbrev MW:Type:=Int×Int×Int×Int×Int×Int
abbrev zJ:Type:=Int×Int×Int
abbrev wC:Type:=Int×Int
abbrev qOi:Type:=(List zC)×Int×Int×Int×Int×Int×Int×Int×Int
abbrev tq:Type:=(List zJ)×EQ×AC×EQ×(List zC)×(List zC)
abbrev zh:Type:=(List zJ)×EQ×AC×EQ
abbrev qS:Go.Ab.Ty:=.pair .i jB
abbrev vSl:Go.Ab.Ty:=.pair (.sl (.int .u8)) jB
abbrev yW8:Type:=Bool×Int×Int×Int×Int×Int×Int×Int×Int×Int×Int×Int×Int×Int×Int×(List zJ)×EQ×AC×EQ
abbrev Su:Type:=Int×(List zJ)×EQ×AC×EQ×AC×EQ×(List zC)×AC×Int×Bool×(List qE)
abbrev yI:Type:=Int×(List zJ)×EQ×AC×EQ×AC×EQ×(List zC)×AC×Int×Bool
abbrev vn:Type:=Int×(List wC)×Int×Int×Int×Int×(List zJ)×EQ×AC×EQ×AC×EQ×(List zC)×AC×Int×Bool×Int×(List qE)×Int
abbrev jT:Type:=Int×(List wC)×Int×Int×Int×Int×(List zJ)×EQ×AC×EQ×AC×EQ×(List zC)×AC×Int×Bool×Int×(List qE)
abbrev nH:Type:=Int×(List wC)×Int×Int×Int×Int×(List zJ)×EQ×AC×EQ×AC×EQ×(List zC)×AC×Int×Bool×Int×Bool
abbrev rJ:Type:=Int×(List wC)×Int×Int×Int×Int×(List zJ)×EQ×AC×EQ×AC×EQ×(List zC)×AC×Int×Bool×Int×Int
abbrev lO:Type:=Int×(List wC)×Int×Int×Int×Int×(List zJ)×EQ×AC×EQ×AC×EQ×(List zC)×AC×Int×Bool×Int
abbrev vD:Type:=Int×(List wC)×Int×Int×Int
abbrev vWr:Go.Ab.Ty:=.pair .i qS
abbrev vQf:Go.Ab.Ty:=.pair .i vSl
abbrev vPc:Go.Ab.Ty:=.pair .i vWr
abbrev yt:Go.Ab.Ty:=.pair .i vQf
abbrev adO:Go.Ab.Ty:=.pair .i vPc
abbrev zG:Go.Ab.Ty:=.pair .i adO
abbrev qZ:Go.Ab.Ty:=.pair .i zG
abbrev qV1:List Go.Ab.CS:=[.dat false .i,.dat false .i,.dat false (.sl .i)]
abbrev jV:List Go.Ab.CS:=[.dat false qS,.dat false (.sl .i),.dat false .i,.dat false (.sl .i)]
abbrev pH:List Go.Ab.CS:=[.dat true (.int .u8),.bool]
abbrev wH:List Go.Ab.CS:=[.dat true qS,.dat true (.sl .i),.dat true .i,.dat true (.sl .i)]
abbrev zd:List Go.Ab.CS:=[.i,.dat false qS,.dat false (.sl .i),.dat false .i,.dat false (.sl .i),.dat false .i,.dat false (.sl .i),.dat false zG,.dat false .i,.i,.bool]
abbrev rr:List Go.Ab.CS:=[.i,.dat false jB,.i,.i,.i]
abbrev jb:List Go.Ab.CS:=[.i,.dat true qS,.dat true (.sl .i),.dat true .i,.dat true (.sl .i),.dat true .i,.dat true (.sl .i),.dat true zG,.dat true .i,.i,.bool]
abbrev Ig:List Go.Ab.CS:=[.i,.dat true jB,.i,.i,.i]
abbrev qWs:List Go.Ab.CS:=[.i,.dat true jB,.i,.i,.i,.i,.dat true qS,.dat true (.sl .i),.dat true .i,.dat true (.sl .i),.dat true .i,.dat true (.sl .i),.dat true zG,.dat true .i,.i,.bool,.i,.lit (.osl 1001001 none)]
abbrev qQm:List Go.Ab.CS:=[.i,.dat true jB,.i,.i,.i,.i,.dat true qS,.dat true (.sl .i),.dat true .i,.dat true (.sl .i),.dat true .i,.dat true (.sl .i),.dat true zG,.dat true .i,.i,.bool,.i,.lit .nsl]
abbrev qU5:List Go.Ab.CS:=[.i,.dat true jB,.i,.i,.i,.i,.dat true qS,.dat true (.sl .i),.dat true .i,.dat true (.sl .i),.dat true .i,.dat true (.sl .i),.dat true zG,.dat true .i,.i,.bool,.i,.lit .nsl,.i]
abbrev wE:List Go.Ab.CS:=[.i,.i,.i,.i,.i,.i,.i]
abbrev ySz:List Go.Ab.CS:=[.i,.i,.i,.i,.i,.i,.i,.i,.i,.i,.i,.i,.i,.i,.dat true qS,.dat true (.sl .i),.dat true .i,.dat true (.sl .i)]
abbrev RG:List Go.Ab.CS:=[.i,.i,.i,.i,.i,.i,.i,.i,.i,.i,.i,.i,.i,.i,.lit .nsl,.lit .nsl,.lit .nsl,.lit .nsl]
abbrev vGm:List Go.Ab.CS:=[.i,.lit (.osl 1001001 none),.i,.lit (.osl 1001002 none),.i,.i,.i,.bool,.bool,.i]
abbrev yY7:List Go.Ab.CS:=[.i,.lit (.osl 1001002 none),.lit (.osl 1001003 none),.lit (.osl 1001004 none),.lit (.osl 1001005 none),.lit (.osl 1001006 none),.lit (.osl 1001007 none),.lit .nsl,.lit .nsl,.i,.bool]
abbrev qKq:List Go.Ab.CS:=[.i,.lit (.osl 1001003 none),.i,.lit (.osl 1001004 none),.i,.i,.i,.bool,.bool,.i]
abbrev qOu:List Go.Ab.CS:=[.i,.lit (.osl 1001003 none),.lit (.osl 1001004 none),.lit (.osl 1001005 none),.lit (.osl 1001006 none),.lit (.osl 1001007 none),.lit (.osl 1001008 none),.lit (.osl 1001009 none),.lit .nsl,.i,.bool]
abbrev yXr:List Go.Ab.CS:=[.i,.lit (.osl 1001003 none),.lit (.osl 1001004 none),.lit (.osl 1001005 none),.lit (.osl 1001006 none),.lit (.osl 1001007 none),.lit (.osl 1001008 none),.lit .nsl,.lit .nsl,.i,.bool]
abbrev Rc:List Go.Ab.CS:=[.i,.lit (.osl 1001003 none),.lit (.osl 1001004 none),.lit (.osl 1001005 none),.lit (.osl 1001006 none),.lit (.osl 1001007 none),.lit .nsl,.lit .nsl,.lit .nsl,.i,.bool]
abbrev Rk:List Go.Ab.CS:=[.i,.lit (.osl 1001004 none),.lit .nsl,.lit .nsl,.lit .nsl,.lit .nsl,.lit .nsl,.lit .nsl,.lit .nsl,.i,.bool]
abbrev jX:List Go.Ab.CS:=[.i,.lit .nsl,.lit .nsl,.lit .nsl,.lit .nsl,.lit .nsl,.lit .nsl,.lit .nsl,.lit .nsl,.i,.bool]
abbrev qMj:List Go.Ab.CS:=[.lit (.osl 1001002 none),.lit (.osl 1001003 none),.lit (.osl 1001004 none)]
abbrev tp:List Go.Ab.CS:=[.lit (.osl 1001003 none),.lit (.osl 1001004 none),.lit (.osl 1001005 none),.lit (.osl 1001006 none)]
abbrev yS3:List Go.Ab.CS:=[.lit (.osl 1001004 none),.lit (.osl 1001005 none),.lit (.osl 1001006 none),.lit (.osl 1001007 none)]
abbrev yS6:List Go.Ab.CS:=[.lit (.ptr 1001006 0),.i,.dat true jB,.i,.i,.i,.i,.dat true qS,.dat true (.sl .i),.dat true .i,.dat true (.sl .i),.dat true .i,.dat true (.sl .i),.dat true zG,.dat true .i,.i,.bool,.i,.bool]
abbrev Sq:List Go.Ab.CS:=[.lit .nsl,.lit .nsl,.i,.lit .nsl,.lit .nsl,.lit .nsl,.lit .nsl,.lit .nsl,.lit .nsl,.lit .nsl,.lit .nsl,.i,.bool,.bool]
abbrev oG:List Go.Ab.CS:=[.lit .nsl,.lit .nsl,.lit .nsl,.lit .nsl]
abbrev RE:List Go.Ab.PC:=[.dat false .i,.dat false .i,.dat false (.sl .i)]
abbrev eH:List Go.Ab.PC:=[.dat false qS,.dat false (.sl .i),.dat false .i,.dat false (.sl .i)]
abbrev lh:List Go.Ab.PC:=[.dat true qS,.dat true (.sl .i),.dat true .i,.dat true (.sl .i)]
abbrev Mv:List Go.Ab.PC:=[.i,.dat false (.int .u8),.i,.dat false (.int .u8),.i,.i,.i,.bool,.bool,.i]
abbrev pJ:List Go.Ab.PC:=[.i,.dat false qS,.dat false (.sl .i),.dat false .i,.dat false (.sl .i),.dat false .i,.dat false (.sl .i),.dat false zG,.dat false .i,.i,.bool]
abbrev kk:List Go.Ab.PC:=[.i,.dat false jB,.i,.i,.i]
abbrev qJe:List Go.Ab.PC:=[.i,.dat false jB,.i,.i,.i,.i,.dat false qS,.dat false (.sl .i),.dat false .i,.dat false (.sl .i),.dat false .i,.dat false (.sl .i),.dat false zG,.dat false .i,.i,.bool,.i,.dat false qZ]
abbrev yHj:List Go.Ab.PC:=[.i,.dat false jB,.i,.i,.i,.i,.dat false qS,.dat false (.sl .i),.dat false .i,.dat false (.sl .i),.dat false .i,.dat false (.sl .i),.dat false zG,.dat false .i,.i,.bool,.i,.dat false qZ,.i]
abbrev yu:List Go.Ab.PC:=[.i,.dat true qS,.dat true (.sl .i),.dat true .i,.dat true (.sl .i),.dat true .i,.dat true (.sl .i),.dat true zG,.dat true .i,.i,.bool]
abbrev MH:List Go.Ab.PC:=[.i,.dat true jB,.i,.i,.i]
abbrev oF:List Go.Ab.PC:=[.i,.i,.i]
abbrev MA:List Go.Ab.PC:=[.i,.i,.i,.i,.i,.i]
abbrev vR:List Go.Ab.PC:=[.i,.i,.i,.i,.i,.i,.i]
abbrev CL:List Go.Ab.PC:=[.i,.i,.i,.i,.i,.i,.i,.i]
abbrev nF:List Go.Ab.RC:=[.fro qS,.fro (.sl .i),.fro .i,.fro (.sl .i)]
abbrev yX:List Go.Ab.RC:=[.i]
abbrev yv:List Go.Ab.RC:=[.i,.fro qS,.fro (.sl .i),.fro .i,.fro (.sl .i),.fro .i,.fro (.sl .i),.fro zG,.fro .i,.i,.bool]
abbrev lL:List Go.Ab.RC:=[.i,.fro jB,.i,.i,.i,.i,.fro qS,.fro (.sl .i),.fro .i,.fro (.sl .i),.fro .i,.fro (.sl .i),.fro zG,.fro .i,.i,.bool,.i,.own qZ]
abbrev CQ:List Go.Ab.RC:=[.i,.fro jB,.i,.i,.i,.i,.fro qS,.fro (.sl .i),.fro .i,.fro (.sl .i),.fro .i,.fro (.sl .i),.fro zG,.fro .i,.i,.bool,.i,.own qZ,.i]
abbrev pI:List Go.Ab.RC:=[.i,.i,.i,.i,.i,.i,.i]
abbrev qPt:List Go.Ab.RC:=[.i,.i,.i,.i,.i,.i,.i,.i]
abbrev jc:List Go.Ab.RC:=[.i,.own (.int .u8),.i,.own (.int .u8),.i,.i,.i,.bool,.bool,.i]
abbrev qP8:List Go.Ab.RC:=[.i,.own qS,.mat,.own .i,.mat,.own .i,.mat,.own zG,.own .i,.i,.bool]
abbrev vDa:List Go.Ab.RC:=[.i,.own qS,.own (.sl .i),.own .i,.own (.sl .i),.own .i,.own (.sl .i),.own zG,.own .i,.i,.bool]
abbrev RZ:List Go.Ab.RC:=[.link 1,.i,.fro jB,.i,.i,.i,.i,.fro qS,.fro (.sl .i),.fro .i,.fro (.sl .i),.fro .i,.fro (.sl .i),.fro zG,.fro .i,.i,.bool,.i,.bool]
abbrev R0:List Go.Ab.RC:=[.link 2,.i,.i,.i,.bool]
abbrev RX:List Go.Ab.XC:=[.link 1,.p .i,.p (.dat true jB),.p .i,.p .i,.p .i,.p .i,.p (.dat true qS),.p (.dat true (.sl .i)),.p (.dat true .i),.p (.dat true (.sl .i)),.p (.dat true .i),.p (.dat true (.sl .i)),.p (.dat true zG),.p (.dat true .i),.p .i,.p .bool,.p .i,.p .bool]
abbrev qKn:List Go.Ab.XC:=[.link 1,.p .i,.p .i,.p .i,.p .bool]
abbrev RY:List Go.Ab.XC:=[.link 2,.p .i,.p .i,.p .i,.p .bool]
abbrev H3:List Go.Ab.XC:=[.p (.dat true (.int .u8)),.p .bool]
abbrev lK:List Go.Ab.XC:=[.p .i,.own (.int .u8),.p .i,.own (.int .u8),.p .i,.p .i,.p .i,.p .bool,.p .bool,.p .i]
abbrev yy:List Go.Ab.XC:=[.p .i,.p (.dat true jB),.p .i,.p .i,.p .i,.p .i,.p (.dat true qS),.p (.dat true (.sl .i)),.p (.dat true .i),.p (.dat true (.sl .i)),.p (.dat true .i),.p (.dat true (.sl .i)),.p (.dat true zG),.p (.dat true .i),.p .i,.p .bool,.p .i,.own qZ]
abbrev yw:List Go.Ab.XC:=[.p .i,.p (.dat true jB),.p .i,.p .i,.p .i,.p .i,.p (.dat true qS),.p (.dat true (.sl .i)),.p (.dat true .i),.p (.dat true (.sl .i)),.p (.dat true .i),.p (.dat true (.sl .i)),.p (.dat true zG),.p (.dat true .i),.p .i,.p .bool,.p .i,.p (.nil)]
abbrev CP:List Go.Ab.XC:=[.p .i,.p (.dat true jB),.p .i,.p .i,.p .i,.p .i,.p (.dat true qS),.p (.dat true (.sl .i)),.p (.dat true .i),.p (.dat true (.sl .i)),.p (.dat true .i),.p (.dat true (.sl .i)),.p (.dat true zG),.p (.dat true .i),.p .i,.p .bool,.p .i,.p (.nil),.p .i]
section
variable {A B C D E F G H I J K L M N O P Q R S U V W X Z a b Aa Ab Ac Ad Ae Af Ag Ah Ai Aj Ak Al Am An Ao Ap Aq Ar As At T Y:Type}
abbrev fk (x:A×B×C×D)(t:T):=(x.1,x.2.1,x.2.2.1,x.2.2.2,t)
abbrev jI (x:A×B×C×D×E)(t:T):=(x.1,fk x.2 t)
abbrev oH (x:A×B×C×D×E×F)(t:T):=(x.1,jI x.2 t)
abbrev gi (x:A×B×C×D×E×F×G)(t:T):=(x.1,oH x.2 t)
abbrev CK (x:A×B×C×D×E×F×G×H)(t:T):=(x.1,gi x.2 t)
abbrev Rt (x:A×B×C×D×E×F×G×H×I)(t:T):=(x.1,CK x.2 t)
abbrev iE (x:A×B×C×D×E×F×G×H×I×J)(t:T):=(x.1,Rt x.2 t)
abbrev vY (x:A×B×C×D×E×F×G×H×I×J×K)(t:T):=(x.1,iE x.2 t)
abbrev Ia (x:A×B×C×D×E×F×G×H×I×J×K×L)(t:T):=(x.1,vY x.2 t)
abbrev vZl (x:A×B×C×D×E×F×G×H×I×J×K×L×M)(t:T):=(x.1,Ia x.2 t)
abbrev RH (x:A×B×C×D×E×F×G×H×I×J×K×L×M×N)(t:T):=(x.1,vZl x.2 t)
abbrev yKy (x:A×B×C×D×E×F×G×H×I×J×K×L×M×N×O)(t:T):=(x.1,RH x.2 t)
abbrev vI2 (x:A×B×C×D×E×F×G×H×I×J×K×L×M×N×O×P)(t:T):=(x.1,yKy x.2 t)
abbrev vU (x:A×B×C×D×E×F×G×H×I×J×K×L×M×N×O×P×Q)(t:T):=(x.1,vI2 x.2 t)
abbrev jN (x:A×B×C×D×E×F×G×H×I×J×K×L×M×N×O×P×Q×R)(t:T):=(x.1,vU x.2 t)
abbrev zc (x:A×B×C×D×E×F×G×H×I×J×K×L×M×N×O×P×Q×R×S)(t:T):=(x.1,jN x.2 t)
abbrev wS (x:A×B×C×D×E):=(x.1,x.2.1,x.2.2.1,x.2.2.2.1)
abbrev yR (x:A×B×C×D×E×F):=(x.1,wS x.2)
abbrev nG (x:A×B×C×D×E×F×G):=(x.1,yR x.2)
abbrev vV (x:A×B×C×D×E×F×G×H):=(x.1,nG x.2)
abbrev lJ (x:A×B×C×D×E×F×G×H×I):=(x.1,vV x.2)
abbrev Ru (x:A×B×C×D×E×F×G×H×I×J):=(x.1,lJ x.2)
abbrev fR (x:A×B×C×D×E×F×G×H×I×J×K):=(x.1,Ru x.2)
abbrev qQ (x:A×B×C×D×E×F×G×H×I×J×K×L):=(x.1,fR x.2)
abbrev Ib (x:A×B×C×D×E×F×G×H×I×J×K×L×M):=(x.1,qQ x.2)
abbrev vVb (x:A×B×C×D×E×F×G×H×I×J×K×L×M×N):=(x.1,Ib x.2)
abbrev qU0 (x:A×B×C×D×E×F×G×H×I×J×K×L×M×N×O):=(x.1,vVb x.2)
abbrev ySv (x:A×B×C×D×E×F×G×H×I×J×K×L×M×N×O×P):=(x.1,qU0 x.2)
abbrev adP (x:A×B×C×D×E×F×G×H×I×J×K×L×M×N×O×P×Q):=(x.1,ySv x.2)
abbrev lM (x:A×B×C×D×E×F×G×H×I×J×K×L×M×N×O×P×Q×R):=(x.1,adP x.2)
abbrev eG (x:A×B×C×D×E×F×G×H×I×J×K×L×M×N×O×P×Q×R×S):=(x.1,lM x.2)
abbrev RI (x:A×B×C×D×E×F×G×H×I×J×K×L×M×N×O×P×Q×R×S×U):=(x.1,eG x.2)
abbrev wA (x:A×B×C×D×E)(t:T):=(x.1,x.2.1,x.2.2.1,x.2.2.2.1,t)
abbrev pL (x:A×B×C×D×E×F)(t:T):=(x.1,wA x.2 t)
abbrev jK (x:A×B×C×D×E×F×G)(t:T):=(x.1,pL x.2 t)
abbrev ki (x:A×B×C×D×E×F×G×H)(t:T):=(x.1,jK x.2 t)
abbrev yF6 (x:A×B×C×D×E×F×G×H×I)(t:T):=(x.1,ki x.2 t)
abbrev qUg (x:A×B×C×D×E×F×G×H×I×J)(t:T):=(x.1,yF6 x.2 t)
abbrev adQ (x:A×B×C×D×E×F×G×H×I×J×K)(t:T):=(x.1,qUg x.2 t)
abbrev zb (x:A×B×C×D×E×F×G×H×I×J×K×L)(t:T):=(x.1,adQ x.2 t)
abbrev kp (x:A×B×C×D×E×F×G×H×I×J×K×L×M)(t:T):=(x.1,zb x.2 t)
abbrev adR (x:A×B×C×D×E×F×G×H×I×J×K×L×M×N)(t:T):=(x.1,kp x.2 t)
abbrev qJh (x:A×B×C×D×E×F×G×H×I×J×K×L×M×N×O)(t:T):=(x.1,adR x.2 t)
abbrev adS (x:A×B×C×D×E×F×G×H×I×J×K×L×M×N×O×P)(t:T):=(x.1,qJh x.2 t)
abbrev vP5 (x:A×B×C×D×E×F×G×H×I×J×K×L×M×N×O×P×Q)(t:T):=(x.1,adS x.2 t)
abbrev yE (x:A×B×C×D×E×F×G×H×I×J×K×L×M×N×O×P×Q×R)(t:T):=(x.1,vP5 x.2 t)
abbrev yXs (x:A×B×C×D×E×F×G×H×I×J×K×L×M×N×O×P×Q×R×S)(t:T):=(x.1,yE x.2 t)
abbrev vM (f:A→B→C→D→Y)(x:A×B×C×D×E):Y:=f x.1 x.2.1 x.2.2.1 x.2.2.2.1
abbrev lN (f:A→B→C→D→E→Y)(x:A×B×C×D×E×F):Y:=vM (f x.1) x.2
abbrev ko (f:A→B→C→D→E→F→Y)(x:A×B×C×D×E×F×G):Y:=lN (f x.1) x.2
abbrev mE (f:A→B→C→D→E→F→G→Y)(x:A×B×C×D×E×F×G×H):Y:=ko (f x.1) x.2
abbrev mD (f:A→B→C→D→E→F→G→H→Y)(x:A×B×C×D×E×F×G×H×I):Y:=mE (f x.1) x.2
abbrev RD (f:A→B→C→D→E→F→G→H→I→Y)(x:A×B×C×D×E×F×G×H×I×J):Y:=mD (f x.1) x.2
abbrev vQ4 (f:A→B→C→D→E→F→G→H→I→J→Y)(x:A×B×C×D×E×F×G×H×I×J×K):Y:=RD (f x.1) x.2
abbrev tn (f:A→B→C→D→E→F→G→H→I→J→K→Y)(x:A×B×C×D×E×F×G×H×I×J×K×L):Y:=vQ4 (f x.1) x.2
abbrev MG (f:A→B→C→D→E→F→G→H→I→J→K→L→Y)(x:A×B×C×D×E×F×G×H×I×J×K×L×M):Y:=tn (f x.1) x.2
abbrev yCo (f:A→B→C→D→E→F→G→H→I→J→K→L→M→Y)(x:A×B×C×D×E×F×G×H×I×J×K×L×M×N):Y:=MG (f x.1) x.2
abbrev H5 (f:A→B→C→D→E→F→G→H→I→J→K→L→M→N→Y)(x:A×B×C×D×E×F×G×H×I×J×K×L×M×N×O):Y:=yCo (f x.1) x.2
abbrev vJs (f:A→B→C→D→E→F→G→H→I→J→K→L→M→N→O→Y)(x:A×B×C×D×E×F×G×H×I×J×K×L×M×N×O×P):Y:=H5 (f x.1) x.2
abbrev yIj (f:A→B→C→D→E→F→G→H→I→J→K→L→M→N→O→P→Y)(x:A×B×C×D×E×F×G×H×I×J×K×L×M×N×O×P×Q):Y:=vJs (f x.1) x.2
abbrev adT (f:A→B→C→D→E→F→G→H→I→J→K→L→M→N→O→P→Q→Y)(x:A×B×C×D×E×F×G×H×I×J×K×L×M×N×O×P×Q×R):Y:=yIj (f x.1) x.2
abbrev vM1 (f:A→B→C→D→E→F→G→H→I→J→K→L→M→N→O→P→Q→R→Y)(x:A×B×C×D×E×F×G×H×I×J×K×L×M×N×O×P×Q×R×S):Y:=adT (f x.1) x.2
abbrev vI5 (f:A→B→C→D→E→F→G→H→I→J→K→L→M→N→O→P→Q→R→S→Y)(x:A×B×C×D×E×F×G×H×I×J×K×L×M×N×O×P×Q×R×S×U):Y:=vM1 (f x.1) x.2
abbrev qNu (x:A×B×C×D×E×F×G×H×I×J×K×L×M×N×O×P×Q)(t:T):=fk x.2.2.2.2.2.2.2.2.2.2.2.2.2 t
abbrev B8 (x:A×B×C×D×E×F)(t:T):=fk x.2.2 t
abbrev vUx (x:A×B×C×D×E×F×G)(t:T):=fk x.2.2.2 t
abbrev yLp (x:A×B×C×D×E×F×G×H)(t:T):=fk x.2.2.2.2 t
abbrev acE (x:A×B×C×D×E×F×G×H×I)(t:T):=fk x.2.2.2.2.2 t
abbrev abG (x:A×B×C×D×E×F×G×H×I×J×K×L)(t:T):=fk x.2.2.2.2.2.2.2.2 t
abbrev yJs (x:A×B×C×D×E×F×G×H×I×J×K×L×M×N×O×P×Q)(t:T):=jI x.2.2.2.2.2.2.2.2.2.2.2.2 t
abbrev YP (x:A×B×C×D×E×F×G×H×I×J×K×L×M×N×O×P×Q)(t:T):=oH x.2.2.2.2.2.2.2.2.2.2.2 t
abbrev yDq (x:A×B×C×D×E×F×G×H)(t:T):=oH x.2.2 t
abbrev qZm (x:A×B×C×D×E×F×G×H×I×J×K×L×M×N×O×P×Q)(t:T):=gi x.2.2.2.2.2.2.2.2.2.2 t
abbrev yPm (x:A×B×C×D×E×F×G×H)(t:T):=gi x.2 t
abbrev MF (x:A×B×C×D×E×F×G×H×I×J×K)(t:T):=gi x.2.2.2.2 t
abbrev yUl (x:A×B×C×D×E×F×G×H×I×J×K×L×M×N)(t:T):=gi x.2.2.2.2.2.2.2 t
abbrev yOs (x:A×B×C×D×E×F×G×H×I×J×K×L×M×N×O)(t:T):=gi x.2.2.2.2.2.2.2.2 t
abbrev adU (x:A×B×C×D×E×F×G×H×I×J×K×L)(t:T):=vY x.2 t
abbrev Im (x:A×B×C×D×E×F×G×H×I×J×K×L×M×N×O×P×Q×R)(t:T):=vY x.2.2.2.2.2.2.2 t
abbrev vRu (x:A×B×C×D×E×F×G×H×I×J×K×L×M×N×O)(t:T):=RH x.2 t
abbrev qOc (x:A×B×C×D×E×F×G×H×I×J×K×L×M×N×O×P×Q×R×S)(t:T):=jN x.2 t
abbrev vW9 (x:A×B×C×D×E×F×G×H×I×J×K×L×M×N×O×P×Q×R×S×U):=wS x.2.2.2.2.2.2.2.2.2.2.2.2.2.2.2
abbrev Ie (x:A×B×C×D×E×F):=wS x.2
abbrev R1 (x:A×B×C×D×E×F×G×H×I×J×K×L×M×N×O×P×Q×R×S×U×V×W×X×Z×a):=wS x.2.2.2.2.2.2.2.2.2.2.2.2.2.2.2.2.2.2.2.2
abbrev qJk (x:A×B×C×D×E×F×G×H×I×J×K×L×M×N×O×P×Q×R×S×U×V×W×X×Z×a×b):=wS x.2.2.2.2.2.2.2.2.2.2.2.2.2.2.2.2.2.2.2.2.2
abbrev qJx (x:A×B×C×D×E×F×G):=wS x.2.2
abbrev adg (x:A×B×C×D×E×F×G×H×I×J×K×L×M×N×O×P×Q×R×S×U×V×W×X×Z×a×b×Aa×Ab×Ac×Ad×Ae×Af×Ag×Ah×Ai×Aj):=wS x.2.2.2.2.2.2.2.2.2.2.2.2.2.2.2.2.2.2.2.2.2.2.2.2.2.2.2.2.2.2.2
abbrev acj (x:A×B×C×D×E×F×G×H×I×J×K×L×M×N×O×P×Q×R×S×U×V×W×X×Z×a×b×Aa×Ab×Ac×Ad×Ae×Af×Ag×Ah×Ai×Aj×Ak):=wS x.2.2.2.2.2.2.2.2.2.2.2.2.2.2.2.2.2.2.2.2.2.2.2.2.2.2.2.2.2.2.2.2
abbrev vEm (x:A×B×C×D×E×F×G×H×I×J×K×L×M×N×O×P×Q×R×S×U×V×W×X×Z×a):=nG x.2.2.2.2.2.2.2.2.2.2.2.2.2.2.2.2.2.2
abbrev vPr (x:A×B×C×D×E×F×G×H×I×J×K×L×M×N×O×P×Q×R×S×U×V×W×X×Z×a×b):=nG x.2.2.2.2.2.2.2.2.2.2.2.2.2.2.2.2.2.2.2
abbrev vA1 (x:A×B×C×D×E×F×G×H×I×J×K×L×M×N×O×P×Q×R×S×U×V×W×X×Z×a×b×Aa):=nG x.2.2.2.2.2.2.2.2.2.2.2.2.2.2.2.2.2.2.2.2
abbrev H7 (x:A×B×C×D×E×F×G×H×I×J×K×L×M×N×O×P×Q×R×S×U×V×W×X×Z×a×b):=vV x.2.2.2.2.2.2.2.2.2.2.2.2.2.2.2.2.2.2
abbrev ade (x:A×B×C×D×E×F×G×H×I×J×K×L×M×N×O×P×Q×R×S×U×V×W×X×Z×a×b×Aa):=vV x.2.2.2.2.2.2.2.2.2.2.2.2.2.2.2.2.2.2.2
abbrev Rr (x:A×B×C×D×E×F×G×H×I):=vV x.2
abbrev qR3 (x:A×B×C×D×E×F×G×H×I×J×K×L×M×N):=vV x.2.2.2.2.2.2
abbrev yCg (x:A×B×C×D×E×F×G×H×I×J×K×L×M×N×O):=vV x.2.2.2.2.2.2.2
abbrev yAh (x:A×B×C×D×E×F×G×H×I×J×K×L×M×N×O×P×Q×R×S×U×V×W×X×Z×a):=lJ x.2.2.2.2.2.2.2.2.2.2.2.2.2.2.2.2
abbrev vSo (x:A×B×C×D×E×F×G×H×I×J×K×L×M×N):=lJ x.2.2.2.2.2
abbrev H2 (x:A×B×C×D×E×F×G×H×I×J×K×L):=fR x.2
abbrev R2 (x:A×B×C×D×E×F×G×H×I×J×K×L×M×N×O×P×Q×R×S×U×V×W×X×Z×a×b×Aa×Ab×Ac×Ad×Ae×Af×Ag×Ah×Ai):=fR x.2.2.2.2.2.2.2.2.2.2.2.2.2.2.2.2.2.2.2.2.2.2.2.2
abbrev qQz (x:A×B×C×D×E×F×G×H×I×J×K×L×M×N×O×P×Q×R×S×U×V×W×X×Z×a×b×Aa×Ab×Ac×Ad×Ae×Af×Ag×Ah×Ai×Aj):=fR x.2.2.2.2.2.2.2.2.2.2.2.2.2.2.2.2.2.2.2.2.2.2.2.2.2
abbrev yIt (x:A×B×C×D×E×F×G×H×I×J×K×L×M):=fR x.2.2
abbrev adh (x:A×B×C×D×E×F×G×H×I×J×K×L×M×N×O×P×Q×R×S×U×V×W×X×Z×a×b×Aa×Ab×Ac×Ad×Ae×Af×Ag×Ah×Ai×Aj×Ak×Al×Am×An×Ao×Ap×Aq×Ar×As×At):=fR x.2.2.2.2.2.2.2.2.2.2.2.2.2.2.2.2.2.2.2.2.2.2.2.2.2.2.2.2.2.2.2.2.2.2.2
abbrev yGk (x:A×B×C×D×E×F×G×H×I×J×K×L×M×N×O):=fR x.2.2.2.2
abbrev RP (x:A×B×C×D×E×F×G×H×I×J×K×L×M×N×O×P):=fR x.2.2.2.2.2
abbrev qX9 (x:A×B×C×D×E×F×G×H×I×J×K×L×M×N×O×P×Q):=fR x.2.2.2.2.2.2
abbrev vHo (x:A×B×C×D×E×F×G×H×I×J×K×L×M×N×O×P×Q×R×S×U×V×W×X):=qQ x.2.2.2.2.2.2.2.2.2.2.2
abbrev rq (x:A×B×C×D×E×F×G×H×I×J×K×L×M×N×O×P×Q):=qQ x.2.2.2.2.2
abbrev ach (x:A×B×C×D×E×F×G×H×I×J×K×L×M×N×O×P×Q×R×S):=qQ x.2.2.2.2.2.2.2
abbrev vMc (x:A×B×C×D×E×F×G×H×I×J×K×L×M×N×O×P×Q×R×S×U×V×W×X×Z×a×b×Aa×Ab×Ac×Ad×Ae):=eG x.2.2.2.2.2.2.2.2.2.2.2.2
abbrev vSz (x:A×B×C×D×E×F×G×H×I×J×K×L×M×N×O×P×Q×R×S×U×V×W×X×Z×a×b×Aa×Ab×Ac×Ad×Ae×Af):=eG x.2.2.2.2.2.2.2.2.2.2.2.2.2
abbrev kl (x:A×B×C×D×E×F×G×H×I×J×K×L×M×N×O×P×Q×R×S×U):=eG x.2
abbrev qW1 (x:A×B×C×D×E×F×G×H×I×J×K×L×M×N×O×P×Q×R×S×U×V):=eG x.2.2
abbrev CR (x:A×B×C×D×E×F×G×H×I×J×K×L×M×N×O×P×Q×R×S×U×V):=RI x.2
abbrev Ij (x:A×B×C×D×E×F×G×H×I×J×K×L×M×N×O)(t:T):=wA x.2.2.2.2.2.2.2.2.2.2 t
abbrev Sv (x:A×B×C×D×E×F×G×H×I×J×K×L×M×N×O×P×Q×R)(t:T):=wA x.2.2.2.2.2.2.2.2.2.2.2.2.2 t
abbrev iG (x:A×B×C×D×E×F)(t:T):=wA x.2 t
abbrev Ro (x:A×B×C×D×E×F×G)(t:T):=wA x.2.2 t
abbrev abo (x:A×B×C×D×E×F×G×H×I×J)(t:T):=wA x.2.2.2.2.2 t
abbrev yC7 (x:A×B×C×D×E×F×G×H×I×J×K×L×M×N×O×P×Q×R)(t:T):=pL x.2.2.2.2.2.2.2.2.2.2.2.2 t
abbrev yO2 (x:A×B×C×D×E×F×G×H×I×J×K×L×M×N×O×P×Q×R)(t:T):=jK x.2.2.2.2.2.2.2.2.2.2.2 t
abbrev Ik (x:A×B×C×D×E×F×G×H×I×J×K)(t:T):=jK x.2.2.2.2 t
abbrev qUh (x:A×B×C×D×E×F×G×H×I×J×K×L×M×N×O×P×Q×R)(t:T):=ki x.2.2.2.2.2.2.2.2.2.2 t
abbrev vXy (x:A×B×C×D×E×F×G×H×I×J×K×L×M×N×O×P×Q×R×S×U)(t:T):=ki x.2.2.2.2.2.2.2.2.2.2.2.2 t
abbrev qZe (x:A×B×C×D×E×F×G×H×I)(t:T):=ki x.2 t
abbrev acH (x:A×B×C×D×E×F×G×H×I×J×K×L×M)(t:T):=ki x.2.2.2.2.2 t
abbrev adB (x:A×B×C×D×E×F×G×H×I×J×K×L×M)(t:T):=yF6 x.2.2.2.2 t
abbrev vPv (x:A×B×C×D×E×F×G×H×I×J×K×L×M×N×O×P×Q)(t:T):=zb x.2.2.2.2.2 t
abbrev vI8 (x:A×B×C×D×E×F×G×H×I×J×K×L×M×N×O×P×Q×R×S×U×V)(t:T):=qJh x.2.2.2.2.2.2 t
abbrev Hs (x:A×B×C×D×E×F×G×H×I×J×K×L×M×N×O×P×Q×R×S)(t:T):=yE x.2 t
end
abbrev qJf:Type:=(List oI)×Int
abbrev qQp:Type:=List oI→Int→Int→Option qJf
def HW (k:Nat)(rec:qQp)(s0:List oI)(s3 s4:Int):Option qJf:=
 bif decide (s4 < (s0.length : Int)) then (bif decide (s4 < 200) then (bif zB s4 s0.length then(rec s0 (zA (s3+((s0.getD s4.toNat (0,0,[],0,0)).2.2.1.length:Int))) (zA (s4+1)))
   else none)
  else some (s0,s3))
 else some (s0,s3)
def HV (k:Nat):Nat→qQp:=yD (fun _ _ _=>none) (HW k)
def Q5 (k:Nat)(a0:List oI):Option Bool:=
 (HV k k a0 0 0).bind fun z=>
 bif decide ((z.1.length:Int)>100) then some true
 else some (decide (z.2>8000))
def Mq (k:Nat)(a0:Int):Option vD:=
 bif decide ((yN .i64 a0 3)=1) then some (4,[(100,1000),(7,0)],12,20,100)
 else bif decide ((yN .i64 a0 3)=2) then some (3,[],20,20,4)
 else bif decide ((yN .i64 a0 3)=3) then some (3,[(100,1000),(7,0)],0,6,1)
 else some (3,[(100,1000),(7,0)],12,20,4)
def Q2 (k:Nat)(a0:Int):Option vX:=
 bif decide (a0<0) then none
 else bif decide (a0>200000) then none
 else some (a0,[],0,[],0,0,0,false,false,0)
def tm (k:Nat)(a0 a1 a2:Int):Option Bool:=
 bif decide (a0≥a1) then some (decide (a0≤a2))
 else some false
def yN4 (k:Nat)(a0:wC):Option Bool:=
 (tm k a0.1 0 1048576).bind fun x0=>
 bif !x0 then some true
 else(tm k a0.2 0 10000).bind fun x1=>
 some (!x1)
abbrev qLc:Type:=List wC→Int→Int→Option (Unit⊕Int)
def yP7 (k:Nat)(rec:qLc)(s0:List wC)(s7 s8:Int):Option (Unit⊕Int):=
 bif decide (s8 < s7) then (bif zB s8 s0.length then ((yN4 k (s0.getD s8.toNat (0,0))).bind fun x0=>
   bif x0 then some (.inr s8)
   else rec s0 s7 (zA (s8+1)))
  else none)
 else some (.inl ())
def qUf (k:Nat):Nat→qLc:=yD (fun _ _ _=>none) (yP7 k)
def yFc (k:Nat)(a0:List wC):Option Int:=
 (qUf k k a0 (a0.length:Int) 0).bind fun z=>
 match z with
 |.inl z1=>some (-1)
 |.inr z2=>some z2
def yGm (k:Nat)(a0:List wC):Option Bool:=
 (yFc k a0).bind fun x0=>
 some (decide (x0≥0))
def nD (k:Nat)(a0:vD):Option Bool:=
 (tm k a0.1 1 6).bind fun x0=>
 bif x0 then ((tm k a0.2.2.2.1 1 1048576).bind fun x1=>
  bif x1 then ((tm k a0.2.2.1 0 a0.2.2.2.1).bind fun x2=>
   bif x2 then ((tm k a0.2.2.2.2 1 1048576).bind fun x3=>
    bif decide ((a0.2.1.length : Int) ≤ 3) then (bif x3 then ((yGm k a0.2.1).bind fun x4=>
      some (!x4))
     else some false)
    else some false)
   else bif decide ((a0.2.1.length:Int)≤3) then some false
   else some false)
  else bif decide ((a0.2.1.length:Int)≤3) then some false
  else some false)
 else(tm k a0.2.2.2.1 1 1048576).bind fun x5=>
 bif x5 then ((tm k a0.2.2.1 0 a0.2.2.2.1).bind fun x6=>
  bif x6 then ((tm k a0.2.2.2.2 1 1048576).bind fun x7=>
   some false)
  else some false)
 else some false
def Q9 (k:Nat)(a0:Int):Option Bool:=
 bif decide (a0≥0) then some (decide (a0<2))
 else some false
def Cx (k:Nat)(a0:AC):Option AC:=
 bif zL (0+a0.length) 1 then some a0
 else none
def ZN (k:Nat)(a0:vX)(a1:Int):Option AC:=
 (Q9 k a1).bind fun x0=>
 bif !x0 then some []
 else bif decide (a1 = 0) then ((Cx k a0.2.1).bind fun x1=>
  some x1)
 else bif decide (a1 = 1) then ((Cx k a0.2.2.2.1).bind fun x2=>
  some x2)
 else none
abbrev qVe:Type:=AC×EQ
abbrev qVz:Type:=AC→EQ→Option qVe
def ED (k:Nat)(rec:qVz)(s0:AC)(r0:EQ):Option qVe:=
 bif decide ((s0.length : Int) ≥ 2) then (bif zB 0 s0.length then (bif zB 1 s0.length then (bif decide ((wM .i64 (shl .i64 (zA ((s0.getD 0 0))) 8) (zA ((s0.getD 1 0))))>60000) then some (s0,r0)
    else bif decide ((wM .i64 (shl .i64 (zA ((s0.getD 0 0))) 8) (zA ((s0.getD 1 0))))>(zA ((s0.length:Int)-2))) then some (s0,r0)
    else bif (decide (2 ≤ (zA (2 + (wM .i64 (shl .i64 (zA ((s0.getD 0 0))) 8) (zA ((s0.getD 1 0)))))))) && (decide ((zA (2 + (wM .i64 (shl .i64 (zA ((s0.getD 0 0))) 8) (zA ((s0.getD 1 0)))))) ≤ (s0.length : Int))) then (bif zL (0 + (qR s0 2 ((zA (2 + (wM .i64 (shl .i64 (zA ((s0.getD 0 0))) 8) (zA ((s0.getD 1 0)))))).toNat - 2)).length) 1 then (let y0:AC:=(qR s0 2 ((zA (2+(wM .i64 (shl .i64 (zA ((s0.getD 0 0))) 8) (zA ((s0.getD 1 0)))))).toNat-2))
      bif zL (r0.length + 1) 24 then (bif (decide (0≤(zA (2+(wM .i64 (shl .i64 (zA ((s0.getD 0 0))) 8) (zA ((s0.getD 1 0))))))))&&(decide ((zA (2+(wM .i64 (shl .i64 (zA ((s0.getD 0 0))) 8) (zA ((s0.getD 1 0))))))≤(s0.length:Int))) then(rec (List.drop (zA (2+(wM .i64 (shl .i64 (zA ((s0.getD 0 0))) 8) (zA ((s0.getD 1 0)))))).toNat s0) (r0++[y0]))
       else none)
      else none)
     else none)
    else none)
   else none)
  else none)
 else some (s0,r0)
def EC (k:Nat):Nat→qVz:=yD (fun _ _=>none) (ED k)
def OJ (k:Nat)(a0:AC):Option (EQ×Int):=
 (EC k k a0 []).bind fun z=>
 some (z.2,(z.1.length:Int))
abbrev qKz:Type:=AC×Int×AC
abbrev qQ8:Type:=AC→Int→AC→Int→Int→AC→Option qKz
def Ox (k:Nat)(rec:qQ8)(s0:AC)(s5:Int)(bZ:AC)(bn lq:Int)(r0:AC):Option qKz:=
 bif decide (lq < bn) then (bif zB lq bZ.length then(rec s0 (wM .u64 (shl .u64 s5 8) (IntKind.wrap .u64 ((bZ.getD lq.toNat 0)))) bZ bn (zA (lq+1)) r0)
  else none)
 else some (s0,s5,r0)
def Ep (k:Nat):Nat→qQ8:=yD (fun _ _ _ _ _ _=>none) (Ox k)
def Es (k:Nat)(rec:AC→AC→Option AC)(s0 r0:AC):Option AC:=
 bif decide ((s0.length : Int) > 0) then (bif decide (8 ≤ (s0.length : Int)) then ((Ep k k s0 0 (List.take 8 s0) ((List.take 8 s0).length:Int) 0 r0).bind fun z=>
   bif zL (z.2.2.length + 1) 8 then (bif decide (8≤(z.1.length:Int)) then(rec (List.drop 8 z.1) (z.2.2++[(zA (z.2.1))]))
    else none)
   else none)
  else none)
 else some r0
def Er (k:Nat):Nat→AC→AC→Option AC:=yD (fun _ _=>none) (Es k)
def sQ (k:Nat)(a0:AC):Option (AC×Int):=
 bif !(decide ((Int.tmod (a0.length:Int) 8)=0)) then some ([],2)
 else(Er k k a0 []).bind fun z1=>
 some (z1,0)
def yl (k:Nat)(a0:vX)(a1:Int):Option (Int×AC×EQ):=
 (ZN k a0 a1).bind fun x0=>
 (OJ k x0).bind fun x1=>
 bif decide ((x1.1.length:Int)=0) then some (0,[],[])
 else bif zB 0 x1.1.length then (bif decide (((x1.1.getD 0 []).length:Int)<8) then some (0,[],[])
  else bif zB 0 x1.1.length then (bif decide (8 ≤ ((x1.1.getD 0 []).length : Int)) then ((sQ k (List.take 8 (x1.1.getD 0 []))).bind fun x2=>
    bif zB 0 x2.1.length then (bif decide ((x2.1.getD 0 0)<1) then some (0,[],[])
     else bif zB 0 x2.1.length then (bif decide ((x2.1.getD 0 0)>4611686018427387904) then some (0,[],[])
      else bif zB 0 x2.1.length then (bif zB 0 x1.1.length then (bif decide (8 ≤ ((x1.1.getD 0 []).length : Int)) then (bif decide (1≤(x1.1.length:Int)) then some ((x2.1.getD 0 0),(List.drop 8 (x1.1.getD 0 [])),(qR x1.1 1 (x1.1.length-1)))
         else none)
        else none)
       else none)
      else none)
     else none)
    else none)
   else none)
  else none)
 else none
def Mb (k:Nat)(a0:vX):Option (Int×Int×AC×EQ×Bool):=
 (yl k a0 0).bind fun x0=>
 bif decide (x0.1 > 0) then ((yl k a0 1).bind fun x1=>
  bif decide (x1.1>x0.1) then some (x1.1,1,x1.2.1,x1.2.2,true)
  else some (x0.1,0,x0.2.1,x0.2.2,true))
 else(yl k a0 1).bind fun x2=>
 bif decide (x2.1>0) then some (x2.1,1,x2.2.1,x2.2.2,true)
 else some (0,0,[],[],false)
def Kp (k:Nat)(a0:Int):Option Bool:=
 bif decide (a0≥0) then some (decide (a0≤6))
 else some false
abbrev qSk:Type:=Int→Int→Int→AC→Option AC
def Fj (k:Nat)(rec:qSk)(s1 bB bG:Int)(r0:AC):Option AC:=
 bif decide (bG < bB) then (bif zB bG r0.length then(rec s1 bB (zA (bG+1)) (r0.set bG.toNat s1))
  else none)
 else some r0
def Kq (k:Nat):Nat→qSk
 |0,_,_,_,_=>none
 |n+1,s1,bB,bG,r0=>Fj k (Kq k n) s1 bB bG r0
def BB (k:Nat)(a0 a1:Int):Option AC:=
 (Kp k a0).bind fun x0=>
 bif !x0 then some []
 else bif qb a0 a0 8 then ((Kq k k a1 ((List.replicate a0.toNat (0:Int)).length:Int) 0 (List.replicate a0.toNat (0:Int))).bind fun z=>
  some z)
 else none
abbrev qMw:Type:=Int→Int→Int→Int→EQ→Option EQ
def Fl (k:Nat)(rec:qMw)(s0 s1 bB bG:Int)(m0:EQ):Option EQ:=
 bif decide (bG < bB) then ((BB k s0 s1).bind fun x1=>
  bif zB bG m0.length then(rec s0 s1 bB (zA (bG+1)) (m0.set bG.toNat x1))
  else none)
 else some m0
def Kr (k:Nat):Nat→qMw
 |0,_,_,_,_,_=>none
 |n+1,s0,s1,bB,bG,m0=>Fl k (Kr k n) s0 s1 bB bG m0
def Fk (k:Nat)(a0 a1:Int):Option EQ:=
 (Kp k a0).bind fun x0=>
 bif !x0 then some []
 else bif qb a0 a0 24 then ((Kr k k a0 a1 ((List.replicate a0.toNat ([]:AC)).length:Int) 0 (List.replicate a0.toNat ([]:AC))).bind fun z=>
  some z)
 else none
abbrev qNx:Type:=Int×vD×yK×yK×(List zJ)×EQ×AC×EQ×AC
abbrev qN1:Type:=Int→List wC→Int→Int→vD→yK→yK→List zJ→EQ→AC→EQ→AC→Option qNx
def yIw (k:Nat)(rec:qN1)(s3:Int)(cL:List wC)(s21 SH:Int)(b0:vD)(b1 b2:yK)(r3:List zJ)(m4:EQ)(r5:AC)(m6:EQ)(r7:AC):Option qNx:=
 bif decide (SH < s21) then (bif zB SH cL.length then (bif zL (r7.length+1) 8 then(rec s3 cL s21 (zA (SH+1)) b0 b1 b2 r3 m4 r5 m6 (r7++[(cL.getD SH.toNat (0,0)).1]))
   else none)
  else none)
 else some (s3,b0,b1,b2,r3,m4,r5,m6,r7)
def qRt (k:Nat):Nat→qN1:=yD (fun _ _ _ _ _ _ _ _ _ _ _ _=>none) (yIw k)
abbrev qO0:Type:=yK×yK×(List zJ)×EQ×AC×EQ×AC×EQ
abbrev qVf:Type:=Int→Int→vD→yK→yK→List zJ→EQ→AC→EQ→AC→EQ→Option qO0
def yKv (k:Nat)(rec:qVf)(C3 tv:Int)(b0:vD)(b1 b2:yK)(r3:List zJ)(m4:EQ)(r5:AC)(m6:EQ)(r7:AC)(m8:EQ):Option qO0:=
 bif decide (tv < C3) then (bif qb (b0.2.1.length : Int) (b0.2.1.length : Int) 8 then (bif zL (m8.length+1) 24 then(rec C3 (zA (tv+1)) b0 b1 b2 r3 m4 r5 m6 r7 (m8++[(List.replicate b0.2.1.length (0:Int))]))
   else none)
  else none)
 else some (b1,b2,r3,m4,r5,m6,r7,m8)
def qL8 (k:Nat):Nat→qVf:=yD (fun _ _ _ _ _ _ _ _ _ _ _=>none) (yKv k)
def rp (k:Nat)(a0:vD):Option yI:=
 bif qb a0.1 a0.1 24 then ((Fk k a0.1 (-1)).bind fun x0=>
  (BB k a0.1 (-1)).bind fun x1=>
  (Fk k a0.1 0).bind fun x2=>
  (qRt k k a0.1 a0.2.1 (a0.2.1.length:Int) 0 a0 (0,0,false) (0,0,false) (List.replicate a0.1.toNat ((0,0,0):Int×Int×Int)) x0 x1 x2 []).bind fun z=>
  (qL8 k k z.1 0 z.2.1 z.2.2.1 z.2.2.2.1 z.2.2.2.2.1 z.2.2.2.2.2.1 z.2.2.2.2.2.2.1 z.2.2.2.2.2.2.2.1 z.2.2.2.2.2.2.2.2 []).bind fun z1=>
  some (z1.2.1.1,(yDq z1 ([],[],z1.2.1.2))))
 else none
def OH (k:Nat)(a0:Bool):Option Int:=
 bif a0 then some 1
 else some 0
abbrev qWg:Type:=AC×Int×Int×AC
abbrev qOd:Type:=Int→Int→AC→Int→Int→AC→Option qWg
def OD (k:Nat)(rec:qOd)(s5 s6:Int)(aQ:AC)(bA bB:Int)(r0:AC):Option qWg:=
 bif decide (s6 ≥ 0) then (bif !(decide ((zA (8 * s6)) < 0)) then (bif zL (r0.length+1) 1 then(rec s5 (zA (s6-1)) aQ bA bB (r0++[(IntKind.wrap .u8 ((shr .i64 s5 (zA (8*s6)))))]))
   else none)
  else none)
 else some (aQ,bA,bB,r0)
def xr (k:Nat):Nat→qOd:=yD (fun _ _ _ _ _ _=>none) (OD k)
abbrev qX1:Type:=AC→Int→Int→AC→Option AC
def Ev (k:Nat)(rec:qX1)(aQ:AC)(bA bB:Int)(r0:AC):Option AC:=
 bif decide (bB < bA) then (bif zB bB aQ.length then ((xr k k (aQ.getD bB.toNat 0) 7 aQ bA bB r0).bind fun z=>
   rec z.1 z.2.1 (zA (z.2.2.1+1)) z.2.2.2)
  else none)
 else some r0
def Br (k:Nat):Nat→qX1:=yD (fun _ _ _ _=>none) (Ev k)
def xu (k:Nat)(a0:AC):Option AC:=
 bif qb 0 (zA (8 * (a0.length : Int))) 1 then ((Br k k a0 (a0.length:Int) 0 []).bind fun z1=>
  some z1)
 else none
def OE (k:Nat)(a0:AC):Option AC:=
 (xu k [(a0.length:Int)]).bind fun x0=>
 (xu k a0).bind fun x1=>
 bif zL (x0.length+x1.length) 1 then some (x0++x1)
 else none
abbrev qUj:Type:=EQ→Int→Int→AC→Option AC
def Ez (k:Nat)(rec:qUj)(s6:EQ)(s7 s8:Int)(r0:AC):Option AC:=
 bif decide (s8 < s7) then (bif zB s8 s6.length then ((OE k (s6.getD s8.toNat [])).bind fun x0=>
   bif zL (r0.length+x0.length) 1 then(rec s6 s7 (zA (s8+1)) (r0++x0))
   else none)
  else none)
 else some r0
def Ey (k:Nat):Nat→qUj:=yD (fun _ _ _ _=>none) (Ez k)
def JR (k:Nat)(a0:EQ):Option AC:=
 (Ey k k a0 (a0.length:Int) 0 []).bind fun z=>
 some z
abbrev qZf:Type:=yI×zh×EQ
abbrev qRa:Type:=List zJ→Int→Int→yI→zh→EQ→Option qZf
def EA (k:Nat)(rec:qRa)(lP:List zJ)(gM jm:Int)(b0:yI)(b1:zh)(r2:EQ):Option qZf:=
 bif decide (jm < gM) then (bif zB jm lP.length then (bif zL (r2.length + 1) 24 then (let y0:EQ:=(r2++[[(lP.getD jm.toNat (0,0,0)).1,(lP.getD jm.toNat (0,0,0)).2.1,(lP.getD jm.toNat (0,0,0)).2.2]])
    rec lP gM (zA (jm+1)) b0 b1 y0)
   else none)
  else none)
 else some (b0,b1,r2)
def Bt (k:Nat):Nat→qRa:=yD (fun _ _ _ _ _ _=>none) (EA k)
abbrev yA0:Type:=yI×EQ
abbrev qUy:Type:=List zC→Int→Int→yI→EQ→Option yA0
def EB (k:Nat)(rec:qUy)(vr:List zC)(s80 tw:Int)(b0:yI)(r1:EQ):Option yA0:=
 bif decide (tw < s80) then (bif zB tw vr.length then (bif zL (r1.length + 1) 24 then (let y3:EQ:=(r1++[[(vr.getD tw.toNat (0,0,0,0,0,0,0)).1,(vr.getD tw.toNat (0,0,0,0,0,0,0)).2.1,(vr.getD tw.toNat (0,0,0,0,0,0,0)).2.2.1,(vr.getD tw.toNat (0,0,0,0,0,0,0)).2.2.2.1,(vr.getD tw.toNat (0,0,0,0,0,0,0)).2.2.2.2.1,(vr.getD tw.toNat (0,0,0,0,0,0,0)).2.2.2.2.2.1,(vr.getD tw.toNat (0,0,0,0,0,0,0)).2.2.2.2.2.2]])
    rec vr s80 (zA (tw+1)) b0 y3)
   else none)
  else none)
 else some (b0,r1)
def Bu (k:Nat):Nat→qUy:=yD (fun _ _ _ _ _=>none) (EB k)
def mn (k:Nat)(a0:yI):Option AC:=
 (OH k a0.2.2.2.2.2.2.2.2.2.2).bind fun x0=>
 (Bt k k a0.2.1 (a0.2.1.length:Int) 0 a0 (Ie a0) [[a0.1,a0.2.2.2.2.2.2.2.2.2.1,x0,(a0.2.1.length:Int),(a0.2.2.1.length:Int),(a0.2.2.2.1.length:Int),(a0.2.2.2.2.1.length:Int),(a0.2.2.2.2.2.2.1.length:Int),(a0.2.2.2.2.2.2.2.1.length:Int)]]).bind fun z=>
 bif zL (z.2.2.length + z.2.1.2.1.length) 24 then (bif zL ((z.2.2 ++ z.2.1.2.1).length + 1) 24 then (let y1:EQ:=((z.2.2++z.2.1.2.1)++[z.2.1.2.2.1])
   bif zL (y1.length + z.2.1.2.2.2.length) 24 then (bif zL ((y1 ++ z.2.1.2.2.2).length + 1) 24 then (let y2:EQ:=((y1++z.2.1.2.2.2)++[z.1.2.2.2.2.2.1])
     bif zL (y2.length + z.1.2.2.2.2.2.2.1.length) 24 then ((Bu k k z.1.2.2.2.2.2.2.2.1 (z.1.2.2.2.2.2.2.2.1.length:Int) 0 z.1 (y2++z.1.2.2.2.2.2.2.1)).bind fun z1=>
      bif zL (z1.2.length + 1) 24 then (let y4:EQ:=(z1.2++[z1.1.2.2.2.2.2.2.2.2.1])
       (JR k y4).bind fun x1=>
       some x1)
      else none)
     else none)
    else none)
   else none)
  else none)
 else none
def JP (k:Nat)(a0:AC):Option jF:=
 bif decide ((a0.length:Int)>60000) then some ([],false)
 else bif zL (2+a0.length) 1 then some (([(IntKind.wrap .u8 ((shr .i64 (a0.length:Int) 8))),(IntKind.wrap .u8 ((a0.length:Int)))]++a0),true)
 else none
def ZL (k:Nat)(a0:vX):Option Int:=
 some a0.1
def Rj (k:Nat)(a0:vX):Option Bool:=
 some a0.2.2.2.2.2.2.2.2.1
def la (k:Nat)(a0:vX):Option (Bool×vX):=
 bif !a0.2.2.2.2.2.2.2.1 then some (false,(qUg a0 (zA (a0.2.2.2.2.2.2.2.2.2+1))))
 else bif decide (a0.2.2.2.2.2.2.2.2.2<a0.2.2.2.2.2.1) then some (false,(qUg a0 (zA (a0.2.2.2.2.2.2.2.2.2+1))))
 else bif (decide (0 ≤ (zA (a0.2.2.1 + (wN true (wN false a0.2.2.2.2.2.2.1 0) (zA ((a0.2.1.length : Int) - a0.2.2.1))))))) && (decide ((zA (a0.2.2.1 + (wN true (wN false a0.2.2.2.2.2.2.1 0) (zA ((a0.2.1.length : Int) - a0.2.2.1))))) ≤ (a0.2.1.length : Int))) then (bif (decide (0≤(zA (a0.2.2.2.2.1+(wN true (zA ((wN false a0.2.2.2.2.2.2.1 0)-(wN true (wN false a0.2.2.2.2.2.2.1 0) (zA ((a0.2.1.length:Int)-a0.2.2.1))))) (zA ((a0.2.2.2.1.length:Int)-a0.2.2.2.2.1)))))))&&(decide ((zA (a0.2.2.2.2.1+(wN true (zA ((wN false a0.2.2.2.2.2.2.1 0)-(wN true (wN false a0.2.2.2.2.2.2.1 0) (zA ((a0.2.1.length:Int)-a0.2.2.1))))) (zA ((a0.2.2.2.1.length:Int)-a0.2.2.2.2.1)))))≤(a0.2.2.2.1.length:Int))) then some (true,a0.1,(List.take ((zA (a0.2.2.1+(wN true (wN false a0.2.2.2.2.2.2.1 0) (zA ((a0.2.1.length:Int)-a0.2.2.1))))).toNat-0) a0.2.1),(zA (a0.2.2.1+(wN true (wN false a0.2.2.2.2.2.2.1 0) (zA ((a0.2.1.length:Int)-a0.2.2.1))))),(List.take ((zA (a0.2.2.2.2.1+(wN true (zA ((wN false a0.2.2.2.2.2.2.1 0)-(wN true (wN false a0.2.2.2.2.2.2.1 0) (zA ((a0.2.1.length:Int)-a0.2.2.1))))) (zA ((a0.2.2.2.1.length:Int)-a0.2.2.2.2.1))))).toNat-0) a0.2.2.2.1),(zA (a0.2.2.2.2.1+(wN true (zA ((wN false a0.2.2.2.2.2.2.1 0)-(wN true (wN false a0.2.2.2.2.2.2.1 0) (zA ((a0.2.1.length:Int)-a0.2.2.1))))) (zA ((a0.2.2.2.1.length:Int)-a0.2.2.2.2.1))))),a0.2.2.2.2.2.1,a0.2.2.2.2.2.2.1,a0.2.2.2.2.2.2.2.1,true,a0.2.2.2.2.2.2.2.2.2)
  else none)
 else none
def QS (k:Nat)(a0:vX)(a1:Int):Option (Int×vX):=
 (Rj k a0).bind fun x0=>
 bif x0 then some (11,a0)
 else(Q9 k a1).bind fun x1=>
 bif !x1 then some (1,a0)
 else(la k a0).bind fun x2=>
 bif x2.1 then some (11,x2.2)
 else bif decide (a1 = 0) then (bif decide (a1=0) then some (0,x2.2.1,[],0,x2.2.2.2.2)
  else bif decide (a1=1) then some (0,x2.2.1,[],x2.2.2.2.1,x2.2.2.2.2.1,0,x2.2.2.2.2.2.2)
  else none)
 else bif decide (a1 = 1) then (bif decide (a1=0) then some (0,x2.2.1,x2.2.2.1,0,[],x2.2.2.2.2.2)
  else bif decide (a1=1) then some (0,x2.2.1,x2.2.2.1,x2.2.2.2.1,[],0,x2.2.2.2.2.2.2)
  else none)
 else none
def yk (k:Nat)(a0:vX)(a1:Int)(a2:AC):Option (Int×vX):=
 (Rj k a0).bind fun x0=>
 bif x0 then some (11,a0)
 else(Q9 k a1).bind fun x1=>
 bif !x1 then some (1,a0)
 else bif decide (a1 = 0) then (bif decide ((a2.length:Int)>(zA (a0.1-(a0.2.1.length:Int)))) then some (3,a0)
  else(la k a0).bind fun x2=>
  bif x2.1 then some (11,x2.2)
  else bif decide (a1 = 0) then (bif zL (x2.2.2.1.length+a2.length) 1 then some (0,x2.2.1,(x2.2.2.1++a2),x2.2.2.2)
   else none)
  else bif decide (a1 = 1) then (bif zL (x2.2.2.2.2.1.length+a2.length) 1 then some (0,x2.2.1,x2.2.2.1,x2.2.2.2.1,(x2.2.2.2.2.1++a2),x2.2.2.2.2.2)
   else none)
  else none)
 else bif decide (a1 = 1) then (bif decide ((a2.length:Int)>(zA (a0.1-(a0.2.2.2.1.length:Int)))) then some (3,a0)
  else(la k a0).bind fun x3=>
  bif x3.1 then some (11,x3.2)
  else bif decide (a1 = 0) then (bif zL (x3.2.2.1.length+a2.length) 1 then some (0,x3.2.1,(x3.2.2.1++a2),x3.2.2.2)
   else none)
  else bif decide (a1 = 1) then (bif zL (x3.2.2.2.2.1.length+a2.length) 1 then some (0,x3.2.1,x3.2.2.1,x3.2.2.2.1,(x3.2.2.2.2.1++a2),x3.2.2.2.2.2)
   else none)
  else none)
 else none
def vg (k:Nat)(a0:vX):Option (Int×vX):=
 (Rj k a0).bind fun x0=>
 bif x0 then some (11,a0)
 else(la k a0).bind fun x1=>
 bif x1.1 then some (11,x1.2)
 else some (0,x1.2.1,x1.2.2.1,(x1.2.2.1.length:Int),x1.2.2.2.2.1,(x1.2.2.2.2.1.length:Int),x1.2.2.2.2.2.2)
def L7 (k:Nat)(a0:vX)(a1 a2:Int)(a3:AC):Option (Int×vX):=
 (xu k [a2]).bind fun x0=>
 bif zL (x0.length + a3.length) 1 then ((JP k (x0++a3)).bind fun x1=>
  bif !x1.2 then some (10,a0)
  else bif decide (a2>4611686018427387904) then some (10,a0)
  else(ZL k a0).bind fun x2=>
  bif decide ((x1.1.length:Int)>x2) then some (10,a0)
  else(QS k a0 a1).bind fun x3=>
  bif !(decide (x3.1=0)) then some (x3.1,x3.2)
  else(yk k x3.2 a1 x1.1).bind fun x4=>
  bif !(decide (x4.1=0)) then some (x4.1,x4.2)
  else(vg k x4.2).bind fun x5=>
  some (x5.1,x5.2))
 else none
def QT (k:Nat)(a0:vX)(a1:AC):Option ((AC×EQ×Int×vX×fS)⊕(AC×EQ×Int×vX)):=
 (Mb k a0).bind fun x0=>
 bif x0.2.2.2.2 then some (.inl (x0.2.2.1,x0.2.2.2.1,0,a0,x0.2.1,x0.1,(x0.2.2.2.1.length:Int),true))
 else(L7 k a0 0 1 a1).bind fun x1=>
 bif !(decide (x1.1=0)) then some (.inr ([],[],x1.1,x1.2))
 else bif zL (0+a1.length) 1 then some (.inl (a1,[],0,x1.2,0,1,0,false))
 else none
def OI (k:Nat)(a0:AC):Option (AC×AC×Bool):=
 bif decide ((a0.length:Int)<8) then some ([],[],false)
 else bif decide (8 ≤ (a0.length : Int)) then ((sQ k (List.take 8 a0)).bind fun x0=>
  bif decide (8 ≤ (a0.length : Int)) then (bif zB 0 x0.1.length then (bif decide ((x0.1.getD 0 0)<0) then some ([],[],false)
    else bif zB 0 x0.1.length then (bif decide ((x0.1.getD 0 0)>(zA (Int.tdiv ((List.drop 8 a0).length:Int) 8))) then some ([],[],false)
     else bif zB 0 x0.1.length then (bif (decide (0 ≤ (zA (8 * (x0.1.getD 0 0))))) && (decide ((zA (8 * (x0.1.getD 0 0))) ≤ ((List.drop 8 a0).length : Int))) then ((sQ k (List.take (zA (8*(x0.1.getD 0 0))).toNat (List.drop 8 a0))).bind fun x1=>
       bif (decide (0≤(zA (8*(x0.1.getD 0 0)))))&&(decide ((zA (8*(x0.1.getD 0 0)))≤((List.drop 8 a0).length:Int))) then some (x1.1,(List.drop (zA (8*(x0.1.getD 0 0))).toNat (List.drop 8 a0)),true)
       else none)
      else none)
     else none)
    else none)
   else none)
  else none)
 else none
def ym (k:Nat)(a0:jF):Option (AC×jF):=
 (OI k a0.1).bind fun x0=>
 bif a0.2 then some (x0.1,x0.2.1,true)
 else some (x0.1,x0.2.1,(!x0.2.2))
def HE (k:Nat)(a0:jF)(a1:Int):Option (AC×jF):=
 (ym k a0).bind fun x0=>
 bif !(decide ((x0.1.length : Int) = a1)) then (bif qb a1 a1 8 then some ((List.replicate a1.toNat (0:Int)),x0.2.1,true)
  else none)
 else some (x0.1,x0.2)
abbrev qLk:Type:=jF×EQ
abbrev qY6:Type:=Int→jF→EQ→Option qLk
def QU (k:Nat)(rec:qY6)(s1:Int)(b0:jF)(r1:EQ):Option qLk:=
 bif decide (s1 > 0) then (bif !b0.2 then ((ym k b0).bind fun x0=>
   bif zL (r1.length+1) 24 then(rec (zA (s1-1)) x0.2 (r1++[x0.1]))
   else none)
  else some (b0,r1))
 else some (b0,r1)
def Me (k:Nat):Nat→qY6:=yD (fun _ _ _=>none) (QU k)
def HF (k:Nat)(a0:jF)(a1:Int):Option (EQ×jF):=
 (Me k k a1 a0 []).bind fun z=>
 some (z.2,z.1)
def ZT (k:Nat)(a0 a1:AC):Option Bool:=
 some (rR a0 a1)
abbrev yBn:Type:=AC×yK×jF×AC×yK×(List zJ)
abbrev qUp:Type:=AC→Int→yK→jF→AC→yK→List zJ→Option yBn
def QV (k:Nat)(rec:qUp)(s0:AC)(s7:Int)(b0:yK)(b1:jF)(r2:AC)(b3:yK)(r4:List zJ):Option yBn:=
 bif decide (s7 > 0) then (bif !b1.2 then ((HE k b1 3).bind fun x1=>
   bif zB 0 x1.1.length then (bif zB 1 x1.1.length then (bif zB 2 x1.1.length then (bif zL (r4.length + 1) 24 then (let y0:List zJ:=(r4++[((x1.1.getD 0 0),(x1.1.getD 1 0),(x1.1.getD 2 0))])
       rec s0 (zA (s7-1)) b0 x1.2 r2 b3 y0)
      else none)
     else none)
    else none)
   else none)
  else some (s0,b0,b1,r2,b3,r4))
 else some (s0,b0,b1,r2,b3,r4)
def HG (k:Nat):Nat→qUp:=yD (fun _ _ _ _ _ _ _=>none) (QV k)
abbrev qVu:Type:=AC×yK×jF×yK×(List zJ)×EQ×AC×EQ×AC×EQ×(List zC)
abbrev qWh:Type:=AC→Int→yK→jF→yK→List zJ→EQ→AC→EQ→AC→EQ→List zC→Option qVu
def QW (k:Nat)(rec:qWh)(s0:AC)(s9:Int)(b0:yK)(b1:jF)(b2:yK)(r3:List zJ)(r4:EQ)(r5:AC)(r6:EQ)(r7:AC)(r8:EQ)(r9:List zC):Option qVu:=
 bif decide (s9 > 0) then (bif !b1.2 then ((HE k b1 7).bind fun x7=>
   bif zB 0 x7.1.length then (bif zB 1 x7.1.length then (bif zB 2 x7.1.length then (bif zB 3 x7.1.length then (bif zB 4 x7.1.length then (bif zB 5 x7.1.length then (bif zB 6 x7.1.length then (bif zL (r9.length + 1) 56 then (let y1:List zC:=(r9++[((x7.1.getD 0 0),(x7.1.getD 1 0),(x7.1.getD 2 0),(x7.1.getD 3 0),(x7.1.getD 4 0),(x7.1.getD 5 0),(x7.1.getD 6 0))])
           rec s0 (zA (s9-1)) b0 x7.2 b2 r3 r4 r5 r6 r7 r8 y1)
          else none)
         else none)
        else none)
       else none)
      else none)
     else none)
    else none)
   else none)
  else some (s0,b0,b1,b2,r3,r4,r5,r6,r7,r8,r9))
 else some (s0,b0,b1,b2,r3,r4,r5,r6,r7,r8,r9)
def HH (k:Nat):Nat→qWh:=yD (fun _ _ _ _ _ _ _ _ _ _ _ _=>none) (QW k)
def Mh (k:Nat)(a0:AC):Option (yI×Bool):=
 (HE k (a0,false) 9).bind fun x0=>
 bif zB 0 x0.1.length then (bif zB 1 x0.1.length then (bif zB 2 x0.1.length then (bif zB 3 x0.1.length then ((HG k k a0 (x0.1.getD 3 0) (0,0,false) x0.2 x0.1 ((x0.1.getD 0 0),(x0.1.getD 1 0),(decide ((x0.1.getD 2 0)=1))) []).bind fun z=>
     bif zB 4 z.2.2.2.1.length then ((HF k z.2.2.1 (z.2.2.2.1.getD 4 0)).bind fun x2=>
      (ym k x2.2).bind fun x3=>
      bif zB 6 z.2.2.2.1.length then ((HF k x3.2 (z.2.2.2.1.getD 6 0)).bind fun x4=>
       (ym k x4.2).bind fun x5=>
       bif zB 7 z.2.2.2.1.length then ((HF k x5.2 (z.2.2.2.1.getD 7 0)).bind fun x6=>
        bif zB 8 z.2.2.2.1.length then ((HH k k z.1 (z.2.2.2.1.getD 8 0) z.2.1 x6.2 z.2.2.2.2.1 z.2.2.2.2.2 x2.1 x3.1 x4.1 x5.1 x6.1 []).bind fun z1=>
         (ym k z1.2.2.1).bind fun x8=>
         bif x8.2.2 then some ((0,[],[],[],[],[],[],[],[],0,false),false)
         else(mn k (z1.2.2.2.1.1,(MF z1 (x8.1,z1.2.2.2.1.2)))).bind fun x9=>
         (ZT k x9 z1.1).bind fun bW=>
         bif !bW then some ((0,[],[],[],[],[],[],[],[],0,false),false)
         else some ((z1.2.2.2.1.1,(MF z1 (x8.1,z1.2.2.2.1.2))),true))
        else none)
       else none)
      else none)
     else none)
    else none)
   else none)
  else none)
 else none
def uu (k:Nat)(a0:Int):Option Int:=
 bif decide (a0=9) then some 0
 else bif decide (a0=13) then some 0
 else bif decide (a0=14) then some 0
 else bif decide (a0=15) then some 0
 else bif decide (a0=2) then some 1
 else bif decide (a0=6) then some 1
 else bif decide (a0=7) then some 1
 else bif decide (a0=16) then some 1
 else bif decide (a0=19) then some 1
 else bif decide (a0=20) then some 1
 else bif decide (a0=21) then some 1
 else bif decide (a0=22) then some 1
 else bif decide (a0=23) then some 1
 else bif decide (a0=3) then some 2
 else bif decide (a0=4) then some 2
 else bif decide (a0=5) then some 2
 else bif decide (a0=8) then some 2
 else bif decide (a0=10) then some 2
 else bif decide (a0=11) then some 2
 else bif decide (a0=12) then some 2
 else bif decide (a0=18) then some 4
 else bif decide (a0=17) then some 5
 else bif decide (a0=1) then some 6
 else some (-1)
def uv (k:Nat)(a0:AC):Option (zC×Int):=
 bif decide ((a0.length:Int)=0) then some ((0,0,0,0,0,0,0),2)
 else bif decide (1 ≤ (a0.length : Int)) then ((sQ k (List.drop 1 a0)).bind fun x0=>
  bif !(decide (x0.2=0)) then some ((0,0,0,0,0,0,0),2)
  else bif zB 0 a0.length then ((uu k (zA ((a0.getD 0 0)))).bind fun x1=>
   bif !(decide ((x0.1.length:Int)=x1)) then some ((0,0,0,0,0,0,0),2)
   else bif zB 0 a0.length then some (((zA ((a0.getD 0 0))),(bif (Nat.blt 0 x0.1.length) then(x0.1.getD 0 0) else 0),(bif (Nat.blt 1 x0.1.length) then(x0.1.getD 1 0) else 0),(bif (Nat.blt 2 x0.1.length) then(x0.1.getD 2 0) else 0),(bif (Nat.blt 3 x0.1.length) then(x0.1.getD 3 0) else 0),(bif (Nat.blt 4 x0.1.length) then(x0.1.getD 4 0) else 0),(bif (Nat.blt 5 x0.1.length) then(x0.1.getD 5 0) else 0)),0)
   else none)
  else none)
 else none
def tc (k:Nat)(a0:AC):Option (qE×Int):=
 bif decide ((a0.length:Int)<8) then some ((0,0,0,0,0,0,0,0),2)
 else bif decide (8 ≤ (a0.length : Int)) then ((sQ k (List.take 8 a0)).bind fun x0=>
  bif decide (8 ≤ (a0.length : Int)) then ((uv k (List.drop 8 a0)).bind fun x1=>
   bif !(decide (x1.2=0)) then some ((0,0,0,0,0,0,0,0),2)
   else bif zB 0 x0.1.length then some (((x0.1.getD 0 0),x1.1),0)
   else none)
  else none)
 else none
def P9 (k:Nat)(a0:Int):Option Bool:=
 bif decide (a0≥10) then some (decide (a0≤14))
 else some false
def Lf (k:Nat)(a0:Int):Option Bool:=
 bif decide (a0≥1) then some (decide (a0≤14))
 else some false
abbrev qWq:Type:=AC→Int→Int→Option (Unit⊕Bool)
def lF (k:Nat)(rec:qWq)(bB:AC)(bG ba:Int):Option (Unit⊕Bool):=
 bif decide (ba < bG) then (bif zB ba bB.length then (bif !(decide ((bB.getD ba.toNat 0)=0)) then some (.inr false)
   else rec bB bG (zA (ba+1)))
  else none)
 else some (.inl ())
def mw (k:Nat):Nat→qWq:=yD (fun _ _ _=>none) (lF k)
def lG (k:Nat)(a0:zC):Option Bool:=
 (uu k a0.1).bind fun x0=>
 bif decide (x0<0) then some false
 else bif (decide (0 ≤ x0)) && (decide (x0 ≤ 6)) then ((mw k k (qR [a0.2.1,a0.2.2.1,a0.2.2.2.1,a0.2.2.2.2.1,a0.2.2.2.2.2.1,a0.2.2.2.2.2.2] x0.toNat (6-x0.toNat)) ((qR [a0.2.1,a0.2.2.1,a0.2.2.2.1,a0.2.2.2.2.1,a0.2.2.2.2.2.1,a0.2.2.2.2.2.2] x0.toNat (6-x0.toNat)).length:Int) 0).bind fun z=>
  match z with
  |.inl z1=>some true
  |.inr z2=>some z2)
 else none
def uS (k:Nat)(a0:vD)(a1:yI)(a2:qE):Option Int:=
 (P9 k a2.2.1).bind fun x0=>
 bif decide (a2.1 ≥ 0) then ((Lf k a2.2.1).bind fun x1=>
  bif !x1 then some 5
  else(lG k a2.2).bind fun x2=>
  bif !x2 then some 5
  else bif x0 then (bif !(decide (a2.1=(-1))) then some 5
   else bif !x0 then (bif !(decide (a2.1<a0.1)) then some 5
    else bif a1.2.2.2.2.2.2.2.2.2.2 then (bif !(decide (a2.2.1=9)) then some 7
     else some 0)
    else some 0)
   else bif a1.2.2.2.2.2.2.2.2.2.2 then (bif !(decide (a2.2.1=9)) then some 7
    else some 0)
   else some 0)
  else bif !x0 then (bif !(decide (a2.1<a0.1)) then some 5
   else bif a1.2.2.2.2.2.2.2.2.2.2 then (bif !(decide (a2.2.1=9)) then some 7
    else some 0)
   else some 0)
  else bif a1.2.2.2.2.2.2.2.2.2.2 then (bif !(decide (a2.2.1=9)) then some 7
   else some 0)
  else some 0)
 else(Lf k a2.2.1).bind fun x3=>
 bif !x3 then some 5
 else(lG k a2.2).bind fun x4=>
 bif !x4 then some 5
 else bif x0 then (bif !(decide (a2.1=(-1))) then some 5
  else bif !x0 then some 5
  else bif a1.2.2.2.2.2.2.2.2.2.2 then (bif !(decide (a2.2.1=9)) then some 7
   else some 0)
  else some 0)
 else bif !x0 then some 5
 else bif a1.2.2.2.2.2.2.2.2.2.2 then (bif !(decide (a2.2.1=9)) then some 7
  else some 0)
 else some 0
def X7 (k:Nat)(cf bg bD ct bQ cc bT a1:Int):Option Bool:=
 some (decide (bg=a1))
abbrev qNg:Type:=List zC
abbrev qJ4:Type:=List zC→Int→Int→Int→List zC→Option qNg
def Gk (k:Nat)(rec:qJ4)(s8:List zC)(s9 aw af:Int)(r1:List zC):Option qNg:=
 bif decide (aw < s9) then (bif zB aw s8.length then ((X7 k (s8.getD aw.toNat (0,0,0,0,0,0,0)).1 (s8.getD aw.toNat (0,0,0,0,0,0,0)).2.1 (s8.getD aw.toNat (0,0,0,0,0,0,0)).2.2.1 (s8.getD aw.toNat (0,0,0,0,0,0,0)).2.2.2.1 (s8.getD aw.toNat (0,0,0,0,0,0,0)).2.2.2.2.1 (s8.getD aw.toNat (0,0,0,0,0,0,0)).2.2.2.2.2.1 (s8.getD aw.toNat (0,0,0,0,0,0,0)).2.2.2.2.2.2 af).bind fun x0=>
   bif x0 then (bif zL (r1.length + 1) 56 then (let y0:List zC:=(r1++[(s8.getD aw.toNat (0,0,0,0,0,0,0))])
     rec s8 s9 (zA (aw+1)) af y0)
    else none)
   else rec s8 s9 (zA (aw+1)) af r1)
  else none)
 else some r1
def K4 (k:Nat):Nat→qJ4
 |0,_,_,_,_,_=>none
 |n+1,s8,s9,aw,af,r1=>Gk k (K4 k n) s8 s9 aw af r1
def X6 (k:Nat)(a0:List zC)(cW:Int):Option (List zC):=
 (K4 k k a0 (a0.length:Int) 0 cW []).bind fun z=>
 some z
def K3 (k:Nat)(a0:List zC)(a1:Int):Option (List zC):=
 (X6 k a0 a1).bind fun x0=>
 some x0
def yGs (k:Nat)(a0:(Int×Int×Int×Int×Int×Int×Bool×Int))(a1:Int)(a2:AC):Option jT:=
 some (a0.1,[],(iG a0 ([],[],[],[],[],[],[],[],a0.2.2.2.2.2.1,a0.2.2.2.2.2.2.1,a0.2.2.2.2.2.2.2,[(a0.2.2.2.2.2.2.2,a1,(bif (Nat.blt 0 a2.length) then(a2.getD 0 0) else 0),(bif (Nat.blt 1 a2.length) then(a2.getD 1 0) else 0),(bif (Nat.blt 2 a2.length) then(a2.getD 2 0) else 0),(bif (Nat.blt 3 a2.length) then(a2.getD 3 0) else 0),(bif (Nat.blt 4 a2.length) then(a2.getD 4 0) else 0),(bif (Nat.blt 5 a2.length) then(a2.getD 5 0) else 0))])))
def Cm (k:Nat)(a0:yI)(a1:Int):Option (List qE):=
 bif zB a1 a0.2.1.length then ((K3 k a0.2.2.2.2.2.2.2.1 a1).bind fun x0=>
  (yGs k (0,0,0,0,0,0,false,a1) 17 [(a0.2.1.getD a1.toNat (0,0,0)).1,(a0.2.1.getD a1.toNat (0,0,0)).2.1,(a0.2.1.getD a1.toNat (0,0,0)).2.2,(x0.length:Int),a0.1]).bind fun x1=>
  some x1.2.2.2.2.2.2.2.2.2.2.2.2.2.2.2.2.2)
 else none
def LP (k:Nat)(a0:lO)(a1:Int)(a2:AC):Option jT:=
 some (vU a0 [(a0.2.2.2.2.2.2.2.2.2.2.2.2.2.2.2.2,a1,(bif (Nat.blt 0 a2.length) then(a2.getD 0 0) else 0),(bif (Nat.blt 1 a2.length) then(a2.getD 1 0) else 0),(bif (Nat.blt 2 a2.length) then(a2.getD 2 0) else 0),(bif (Nat.blt 3 a2.length) then(a2.getD 3 0) else 0),(bif (Nat.blt 4 a2.length) then(a2.getD 4 0) else 0),(bif (Nat.blt 5 a2.length) then(a2.getD 5 0) else 0))])
def vJ (k:Nat)(a0 a1 a2:Int):Option Bool:=
 bif decide (a0≥a1) then some (decide (a0≤a2))
 else some false
def Lc (k:Nat)(a0:vD)(a1:Int):Option Bool:=
 bif decide (a1≥0) then some (decide (a1<a0.1))
 else some false
def P5 (k:Nat)(a0:vD)(a1:Int)(a2:zC):Option Bool:=
 (Lc k a0 a2.2.1).bind fun x0=>
 bif x0 then ((Lc k a0 a2.2.2.1).bind fun x1=>
  bif x1 then (bif decide (a2.1 ≥ 1) then (bif decide (a2.2.2.2.1 ≥ 1) then (bif decide (a2.2.2.2.1 ≤ 1099511627776) then (bif decide (a2.2.2.2.2.1 ≥ 1) then (bif !(decide (a2.2.1 = a2.2.2.1)) then (bif decide (a2.2.2.2.2.1 ≤ 3) then (bif decide (a2.2.2.2.2.2.1 ≥ 0) then (bif decide (a2.2.2.2.2.2.1 ≤ a2.2.2.2.2.2.2) then (bif decide (a2.2.2.2.2.2.2≥a1) then some (decide (a2.2.2.2.2.2.2≤1048576))
           else some false)
          else some false)
         else some false)
        else some false)
       else some false)
      else bif !(decide (a2.2.1=a2.2.2.1)) then some false
      else some false)
     else bif !(decide (a2.2.1=a2.2.2.1)) then some false
     else some false)
    else bif !(decide (a2.2.1=a2.2.2.1)) then some false
    else some false)
   else bif !(decide (a2.2.1=a2.2.2.1)) then some false
   else some false)
  else bif decide (a2.1 ≥ 1) then (bif decide (a2.2.2.2.1 ≥ 1) then (bif decide (a2.2.2.2.1 ≤ 1099511627776) then (bif decide (a2.2.2.2.2.1≥1) then some false
     else some false)
    else some false)
   else some false)
  else some false)
 else bif decide (a2.1 ≥ 1) then (bif decide (a2.2.2.2.1 ≥ 1) then (bif decide (a2.2.2.2.1 ≤ 1099511627776) then (bif decide (a2.2.2.2.2.1≥1) then some false
    else some false)
   else some false)
  else some false)
 else some false
def BZ (k:Nat)(a0:vD)(a1 a2:Int):Option Int:=
 bif decide (a1≥a0.2.2.2.1) then some 7
 else bif decide (a2 = 3) then (bif decide (a1≥a0.2.2.1) then some 7
  else some 0)
 else some 0
def GC (k:Nat)(a0:vD)(a1:Int)(a2:zC):Option Int:=
 (P5 k a0 a1 a2).bind fun x0=>
 bif !x0 then some 1
 else(BZ k a0 a1 a2.2.2.2.2.1).bind fun x1=>
 some x1
def PD (k:Nat)(a0:Int):Option Bool:=
 some (!(decide (a0=a0)))
def PB (k:Nat)(a0 a1:Int):Option Bool:=
 (PD k a0).bind fun x0=>
 bif x0 then ((PD k a1).bind fun x1=>
  bif !x1 then some true
  else some (decide (a0<a1)))
 else some (decide (a0<a1))
def PF (k:Nat)(a0:Int):Option Bool:=
 some (!(decide (a0=a0)))
abbrev qYu:Type:=AC×Int×Int×Int
abbrev qXo:Type:=AC→Int→Int→Int→Int→Option qYu
def PE (k:Nat)(rec:qXo)(s0:AC)(s1 s6 s7 s8:Int):Option qYu:=
 bif decide (s7 < s8) then (bif zB (zA ((shr .u64 (IntKind.wrap .u64 ((zA (s7 + s8)))) 1))) s0.length then ((PB k (s0.getD (zA ((shr .u64 (IntKind.wrap .u64 ((zA (s7+s8)))) 1))).toNat 0) s1).bind fun x0=>
   bif x0 then(rec s0 s1 s6 (zA ((zA ((shr .u64 (IntKind.wrap .u64 ((zA (s7+s8)))) 1)))+1)) s8)
   else rec s0 s1 s6 s7 (zA ((shr .u64 (IntKind.wrap .u64 ((zA (s7+s8)))) 1))))
  else none)
 else some (s0,s1,s6,s7)
def KQ (k:Nat):Nat→qXo:=yD (fun _ _ _ _ _=>none) (PE k)
def FV (k:Nat)(a0:AC)(a1:Int):Option fy:=
 (KQ k k a0 a1 (a0.length:Int) 0 (a0.length:Int)).bind fun z=>
 bif decide (z.2.2.2 < z.2.2.1) then (bif zB z.2.2.2 z.1.length then (bif decide ((z.1.getD z.2.2.2.toNat 0)=z.2.1) then some (z.2.2.2,true)
   else bif zB z.2.2.2 z.1.length then ((PF k (z.1.getD z.2.2.2.toNat 0)).bind fun x1=>
    bif x1 then ((PF k z.2.1).bind fun x2=>
     some (z.2.2.2,x2))
    else some (z.2.2.2,false))
   else none)
  else none)
 else some (z.2.2.2,false)
def qp (k:Nat)(a0:AC):Option AC:=
 bif zL (0+a0.length) 8 then some a0
 else none
abbrev yWf (k:Nat)(a0:AC)(a1:Int)(a2:AC):Option AC:=ins 8 a0 a1 a2
def FW (k:Nat)(a0:AC)(a1:Int):Option (AC×Int):=
 (FV k a0 a1).bind fun x0=>
 bif x0.2 then some (a0,6)
 else bif decide ((a0.length:Int)≥200) then some (a0,3)
 else(qp k a0).bind fun x1=>
 (yWf k x1 x0.1 [a1]).bind fun x2=>
 some (x2,0)
def Xy (k:Nat)(cf bg bD ct bQ cc bT a1:Int):Option Bool:=
 some (decide (cf=a1))
abbrev qLb:Type:=List zC→Int→Int→Int→Option (Unit⊕Int)
def FL (k:Nat)(rec:qLb)(s0:List zC)(s7 s8 af:Int):Option (Unit⊕Int):=
 bif decide (s8 < s7) then (bif zB s8 s0.length then ((Xy k (s0.getD s8.toNat (0,0,0,0,0,0,0)).1 (s0.getD s8.toNat (0,0,0,0,0,0,0)).2.1 (s0.getD s8.toNat (0,0,0,0,0,0,0)).2.2.1 (s0.getD s8.toNat (0,0,0,0,0,0,0)).2.2.2.1 (s0.getD s8.toNat (0,0,0,0,0,0,0)).2.2.2.2.1 (s0.getD s8.toNat (0,0,0,0,0,0,0)).2.2.2.2.2.1 (s0.getD s8.toNat (0,0,0,0,0,0,0)).2.2.2.2.2.2 af).bind fun x0=>
   bif x0 then some (.inr s8)
   else rec s0 s7 (zA (s8+1)) af)
  else none)
 else some (.inl ())
def FK (k:Nat):Nat→qLb
 |0,_,_,_,_=>none
 |n+1,s0,s7,s8,af=>FL k (FK k n) s0 s7 s8 af
def Xz (k:Nat)(a0:List zC)(cW:Int):Option Int:=
 (FK k k a0 (a0.length:Int) 0 cW).bind fun z=>
 match z with
 |.inl z1=>some (-1)
 |.inr z2=>some z2
def ot (k:Nat)(a0:List zC)(a1:Int):Option Int:=
 (Xz k a0 a1).bind fun x0=>
 some x0
def Pz (k:Nat)(a0:Int):Option Bool:=
 some (!(decide (a0=a0)))
def KJ (k:Nat)(a0 a1:Int):Option Int:=
 (Pz k a0).bind fun x0=>
 (Pz k a1).bind fun x1=>
 bif x0 then (bif x1 then some 0
  else some (-1))
 else bif x1 then some 1
 else bif decide (a0<a1) then some (-1)
 else bif decide (a0>a1) then some 1
 else some 0
abbrev qOf:Type:=Int→AC→Int→Int→Option (Int⊕Int)
def yQm (k:Nat)(rec:qOf)(s3:Int)(s6:AC)(s7 s8:Int):Option (Int⊕Int):=
 bif decide (s8 < s7) then (bif zB s8 s6.length then (bif !(decide ((s6.getD s8.toNat 0)=s3)) then some (.inr (s6.getD s8.toNat 0))
   else rec s3 s6 s7 (zA (s8+1)))
  else none)
 else some (.inl s3)
def KI (k:Nat):Nat→qOf
 |0,_,_,_,_=>none
 |n+1,s3,s6,s7,s8=>yQm k (KI k n) s3 s6 s7 s8
def Py (k:Nat)(a0:AC):Option Int:=
 (KI k k 0 a0 (a0.length:Int) 0).bind fun z=>
 match z with
 |.inl z1=>some z1
 |.inr z2=>some z2
def FM (k:Nat)(cf bg bD ct bQ cc bT ie cw dv eI dw je jg:Int):Option Int:=
 (KJ k bg cw).bind fun x0=>
 (KJ k bQ dw).bind fun x1=>
 (Py k [x0,x1]).bind fun x2=>
 some x2
def xD (k:Nat)(a0:List zC):Option (List zC):=
 bif zL (0+a0.length) 56 then some a0
 else none
abbrev PA (k:Nat)(a0:List zC)(a1:Int)(a2:List zC):Option (List zC):=ins 56 a0 a1 a2
abbrev qY4:Type:=(List zC)×Int×zC
abbrev qQb:Type:=List zC→Int→zC→Option qY4
def FP (k:Nat)(rec:qQb)(s0:List zC)(s6:Int)(b0:zC):Option qY4:=
 bif decide (s6 < (s0.length : Int)) then (bif zB s6 s0.length then ((FM k (s0.getD s6.toNat (0,0,0,0,0,0,0)).1 (s0.getD s6.toNat (0,0,0,0,0,0,0)).2.1 (s0.getD s6.toNat (0,0,0,0,0,0,0)).2.2.1 (s0.getD s6.toNat (0,0,0,0,0,0,0)).2.2.2.1 (s0.getD s6.toNat (0,0,0,0,0,0,0)).2.2.2.2.1 (s0.getD s6.toNat (0,0,0,0,0,0,0)).2.2.2.2.2.1 (s0.getD s6.toNat (0,0,0,0,0,0,0)).2.2.2.2.2.2 b0.1 b0.2.1 b0.2.2.1 b0.2.2.2.1 b0.2.2.2.2.1 b0.2.2.2.2.2.1 b0.2.2.2.2.2.2).bind fun x1=>
   bif decide (x1≤0) then(rec s0 (zA (s6+1)) b0)
   else some (s0,s6,b0))
  else none)
 else some (s0,s6,b0)
def KM (k:Nat):Nat→qQb:=yD (fun _ _ _=>none) (FP k)
def xE (k:Nat)(a0:List zC)(a1:zC):Option ((List zC)×Int):=
 (ot k a0 a1.1).bind fun x0=>
 bif decide (x0≥0) then some (a0,6)
 else bif decide ((a0.length:Int)≥40) then some (a0,3)
 else(KM k k a0 0 a1).bind fun z=>
 (xD k z.1).bind fun x2=>
 (PA k x2 z.2.1 [z.2.2]).bind fun x3=>
 some (x3,0)
def P6 (k:Nat)(a0:jT)(a1:MW):Option (Int×jT):=
 (vJ k a1.2.1 0 (zA (a0.1-1))).bind fun x0=>
 bif !x0 then some (1,a0)
 else(vJ k a1.2.2.2.1 1 3).bind fun x1=>
 bif !x1 then some (1,a0)
 else(GC k (yR a0) a0.2.2.2.2.2.1 (a1.1,a0.2.2.2.2.2.2.2.2.2.2.2.2.2.2.2.2.1,a1.2)).bind fun x2=>
 bif !(decide (x2=0)) then some (x2,a0)
 else(FW k a0.2.2.2.2.2.2.2.2.2.2.2.2.2.1 a1.1).bind fun x3=>
 bif !(decide (x3.2=0)) then some (x3.2,a0)
 else(xE k a0.2.2.2.2.2.2.2.2.2.2.2.2.1 (a1.1,a0.2.2.2.2.2.2.2.2.2.2.2.2.2.2.2.2.1,a1.2)).bind fun x4=>
 bif !(decide (x4.2=0)) then some (x4.2,a0)
 else some (0,(kp a0 (x4.1,x3.1,a0.2.2.2.2.2.2.2.2.2.2.2.2.2.2)))
def qUm (k:Nat)(a0:jT)(a1:Int):Option (zC×Int):=
 (ot k a0.2.2.2.2.2.2.2.2.2.2.2.2.1 a1).bind fun x0=>
 bif decide (x0<0) then some ((0,0,0,0,0,0,0),4)
 else bif zB x0 a0.2.2.2.2.2.2.2.2.2.2.2.2.1.length then (bif !(decide ((a0.2.2.2.2.2.2.2.2.2.2.2.2.1.getD x0.toNat (0,0,0,0,0,0,0)).2.1=a0.2.2.2.2.2.2.2.2.2.2.2.2.2.2.2.2.1)) then some ((0,0,0,0,0,0,0),4)
  else bif zB x0 a0.2.2.2.2.2.2.2.2.2.2.2.2.1.length then some ((a0.2.2.2.2.2.2.2.2.2.2.2.2.1.getD x0.toNat (0,0,0,0,0,0,0)),0)
  else none)
 else none
def KH (k:Nat)(a0:List zC)(a1 a2:Int):Option (List zC):=
 bif ((((decide (0 ≤ a1)) && (decide (a1 ≤ a2))) && (decide (a2 ≤ (a0.length : Int)))) && (decide (((a2.toNat : Nat) : Int) ≤ (a0.length : Int)))) && (decide ((a0.length : Int) ≤ (a0.length : Int))) then (bif decide (a1=a2) then some a0
  else bif (decide (0 ≤ a1)) && (decide (a1 ≤ (a0.length : Int))) then (bif (decide (0 ≤ a2)) && (decide (a2 ≤ (a0.length : Int))) then (bif Nat.ble (a1.toNat - 0) (0 + a2.toNat) then (let y0:List zC:=(((List.take (a1.toNat-0) a0)++(qR a0 (0+a2.toNat) (a0.length-a2.toNat)))++(List.drop ((a1.toNat-0)+(a0.length-a2.toNat)) a0))
     bif ((decide (0 ≤ ((qR y0 0 ((a1.toNat - 0) + (a0.length - a2.toNat))).length : Int))) && (decide (((qR y0 0 ((a1.toNat - 0) + (a0.length - a2.toNat))).length : Int) ≤ (a0.length : Int)))) && (decide ((a0.length : Int) ≤ (((y0.length - 0) : Nat) : Int))) then (let y1:List zC:=(((List.take (0+(qR y0 0 ((a1.toNat-0)+(a0.length-a2.toNat))).length) y0)++(List.replicate (a0.length-(qR y0 0 ((a1.toNat-0)+(a0.length-a2.toNat))).length) ((0,0,0,0,0,0,0):Int×Int×Int×Int×Int×Int×Int)))++(List.drop ((0+(qR y0 0 ((a1.toNat-0)+(a0.length-a2.toNat))).length)+(a0.length-(qR y0 0 ((a1.toNat-0)+(a0.length-a2.toNat))).length)) y0))
      some (List.take ((a1.toNat-0)+(a0.length-a2.toNat)) y1))
     else none)
    else none)
   else none)
  else none)
 else none
def qu (k:Nat)(a0:List zC)(a1:Int):Option qOi:=
 (ot k a0 a1).bind fun x0=>
 bif decide (x0<0) then some (a0,0,0,0,0,0,0,0,4)
 else(xD k a0).bind fun x1=>
 (KH k x1 x0 (zA (x0+1))).bind fun x2=>
 bif zB x0 a0.length then some (x2,(gi (a0.getD x0.toNat (0,0,0,0,0,0,0)) 0))
 else none
def uR (k:Nat)(a0:jT)(a1:Int)(a2:AC):Option jT:=
 bif zL (a0.2.2.2.2.2.2.2.2.2.2.2.2.2.2.2.2.2.length + 1) 64 then (let y0:List qE:=(a0.2.2.2.2.2.2.2.2.2.2.2.2.2.2.2.2.2++[(a0.2.2.2.2.2.2.2.2.2.2.2.2.2.2.2.2.1,a1,(bif (Nat.blt 0 a2.length) then(a2.getD 0 0) else 0),(bif (Nat.blt 1 a2.length) then(a2.getD 1 0) else 0),(bif (Nat.blt 2 a2.length) then(a2.getD 2 0) else 0),(bif (Nat.blt 3 a2.length) then(a2.getD 3 0) else 0),(bif (Nat.blt 4 a2.length) then(a2.getD 4 0) else 0),(bif (Nat.blt 5 a2.length) then(a2.getD 5 0) else 0))])
  some (yE a0 y0))
 else none
def FQ (k:Nat)(a0:List zC)(a1 a2:Int):Option ((List zC)×Int):=
 (qu k a0 a1).bind fun x0=>
 bif !(decide (x0.2.2.2.2.2.2.2.2=0)) then some (a0,x0.2.2.2.2.2.2.2.2)
 else(xE k x0.1 (iG x0 (a2,x0.2.2.2.2.2.2.1,x0.2.2.2.2.2.2.2.1))).bind fun x1=>
 some (x1.1,x1.2)
def XJ (k:Nat)(a0:List zC)(a1:Int):Option qOi:=
 (ot k a0 a1).bind fun x0=>
 bif decide (x0<0) then none
 else(xD k a0).bind fun x1=>
 (KH k x1 x0 (zA (x0+1))).bind fun x2=>
 bif zB x0 a0.length then some (x2,(gi (a0.getD x0.toNat (0,0,0,0,0,0,0)) 0))
 else none
abbrev qZ3:Type:=Int×(List zC)×zC
abbrev yAr:Type:=Int→List zC→zC→Option qZ3
def FT (k:Nat)(rec:yAr)(s9:Int)(r0:List zC)(b1:zC):Option qZ3:=
 bif decide (s9 < (r0.length : Int)) then (bif zB s9 r0.length then ((FM k (r0.getD s9.toNat (0,0,0,0,0,0,0)).1 (r0.getD s9.toNat (0,0,0,0,0,0,0)).2.1 (r0.getD s9.toNat (0,0,0,0,0,0,0)).2.2.1 (r0.getD s9.toNat (0,0,0,0,0,0,0)).2.2.2.1 (r0.getD s9.toNat (0,0,0,0,0,0,0)).2.2.2.2.1 (r0.getD s9.toNat (0,0,0,0,0,0,0)).2.2.2.2.2.1 (r0.getD s9.toNat (0,0,0,0,0,0,0)).2.2.2.2.2.2 b1.1 b1.2.1 b1.2.2.1 b1.2.2.2.1 b1.2.2.2.2.1 b1.2.2.2.2.2.1 b1.2.2.2.2.2.2).bind fun x1=>
   bif decide (x1<0) then(rec (zA (s9+1)) r0 b1)
   else some (s9,r0,b1))
  else none)
 else some (s9,r0,b1)
def KP (k:Nat):Nat→yAr:=yD (fun _ _ _=>none) (FT k)
def FU (k:Nat)(a0:List zC)(a1:Int):Option ((List zC)×Int):=
 (XJ k a0 a1).bind fun x0=>
 bif !(decide (x0.2.2.2.2.2.2.2.2=0)) then some (a0,x0.2.2.2.2.2.2.2.2)
 else(KP k k 0 x0.1 (Rr x0)).bind fun z=>
 (PA k z.2.1 z.1 [z.2.2]).bind fun x2=>
 some (x2,0)
def FR (k:Nat)(a0:List zC)(a1:Int):Option ((List zC)×Int):=
 (qu k a0 a1).bind fun x0=>
 bif !(decide (x0.2.2.2.2.2.2.2.2=0)) then some (a0,x0.2.2.2.2.2.2.2.2)
 else(xE k x0.1 (Rr x0)).bind fun x1=>
 some (x1.1,x1.2)
def xS (k:Nat)(a0:jT)(a1:zC):Option (Int×jT):=
 (qUm k a0 a1.2.1).bind fun x0=>
 bif !(decide (x0.2=0)) then some (x0.2,a0)
 else bif decide (a1.1 = 2) then ((qu k a0.2.2.2.2.2.2.2.2.2.2.2.2.1 a1.2.1).bind fun x1=>
  (uR k (kp a0 (x1.1,a0.2.2.2.2.2.2.2.2.2.2.2.2.2)) 20 [a1.2.1]).bind fun x2=>
  some (x1.2.2.2.2.2.2.2.2,x2))
 else bif decide (a1.1 = 4) then ((vJ k a1.2.2.1 1 3).bind fun x3=>
  bif !x3 then some (1,a0)
  else(BZ k (yR a0) a0.2.2.2.2.2.1 a1.2.2.1).bind fun x4=>
  bif !(decide (x4=0)) then some (x4,a0)
  else(FQ k a0.2.2.2.2.2.2.2.2.2.2.2.2.1 a1.2.1 a1.2.2.1).bind fun x5=>
  some (x5.2,(kp a0 (x5.1,a0.2.2.2.2.2.2.2.2.2.2.2.2.2))))
 else bif decide (a1.2.2.1 = 0) then ((FU k a0.2.2.2.2.2.2.2.2.2.2.2.2.1 a1.2.1).bind fun x6=>
  some (x6.2,(kp a0 (x6.1,a0.2.2.2.2.2.2.2.2.2.2.2.2.2))))
 else bif decide (a1.2.2.1 = 1) then ((FR k a0.2.2.2.2.2.2.2.2.2.2.2.2.1 a1.2.1).bind fun x7=>
  some (x7.2,(kp a0 (x7.1,a0.2.2.2.2.2.2.2.2.2.2.2.2.2))))
 else some (1,a0)
def WR (k:Nat)(a0:List zJ):Option (List zJ):=
 bif zL (0+a0.length) 24 then some a0
 else none
def WQ (k:Nat)(a0:EQ):Option Nat:=
 bif zL (0+a0.length) 24 then some a0.length
 else none
abbrev qZ5:Type:=EQ→Int→Int→EQ→Nat→Option (EQ×Nat)
def ET (k:Nat)(rec:qZ5)(s8:EQ)(s9 aw:Int)(m0:EQ)(n0:Nat):Option (EQ×Nat):=
 bif decide (aw < s9) then (bif zB aw s8.length then ((qp k (s8.getD aw.toNat [])).bind fun x1=>
   bif zB aw n0 then (bif Nat.beq aw.toNat m0.length then(rec s8 s9 (zA (aw+1)) (m0++[x1]) n0)
    else none)
   else none)
  else none)
 else some (m0,n0)
def J6 (k:Nat):Nat→qZ5
 |0,_,_,_,_,_=>none
 |n+1,s8,s9,aw,m0,n0=>ET k (J6 k n) s8 s9 aw m0 n0
def J7 (k:Nat)(a0:EQ):Option EQ:=
 (WQ k a0).bind fun x0=>
 (J6 k k a0 (a0.length:Int) 0 [] x0).bind fun z=>
 VE z.1 z.2
def gF (k:Nat)(au:List zJ)(az:EQ)(ay:AC)(ax:EQ):Option zh:=
 (WR k au).bind fun x0=>
 (J7 k az).bind fun x1=>
 (qp k ay).bind fun x2=>
 (J7 k ax).bind fun x3=>
 some (x0,x1,x2,x3)
def qUz (k:Nat)(a0:jT)(a1:Int):Option Bool:=
 (vJ k a1 0 (zA (a0.1-1))).bind fun x0=>
 bif x0 then some (!(decide (a1=a0.2.2.2.2.2.2.2.2.2.2.2.2.2.2.2.2.1)))
 else some false
def xT (k:Nat)(a0:jT)(a1:zC):Option (Int×jT):=
 (gF k a0.2.2.2.2.2.2.1 a0.2.2.2.2.2.2.2.1 a0.2.2.2.2.2.2.2.2.1 a0.2.2.2.2.2.2.2.2.2.1).bind fun x0=>
 bif decide (a1.1 = 5) then ((qUz k a0 a1.2.1).bind fun x1=>
  bif !x1 then some (1,a0)
  else(vJ k a1.2.2.1 (-1) 1152921504606846976).bind fun x2=>
  bif !x2 then some (1,a0)
  else bif zB a0.2.2.2.2.2.2.2.2.2.2.2.2.2.2.2.2.1 x0.2.1.length then (bif zB a1.2.1 (x0.2.1.getD a0.2.2.2.2.2.2.2.2.2.2.2.2.2.2.2.2.1.toNat []).length then (let y0:EQ:=(x0.2.1.set a0.2.2.2.2.2.2.2.2.2.2.2.2.2.2.2.2.1.toNat ((x0.2.1.getD a0.2.2.2.2.2.2.2.2.2.2.2.2.2.2.2.2.1.toNat []).set a1.2.1.toNat a1.2.2.1))
    some (0,(jK a0 (x0.1,y0,x0.2.2.1,x0.2.2.2,a0.2.2.2.2.2.2.2.2.2.2))))
   else none)
  else none)
 else bif decide (a1.1 = 6) then ((vJ k a1.2.1 (-1) 1152921504606846976).bind fun x3=>
  bif !x3 then some (1,a0)
  else bif zB a0.2.2.2.2.2.2.2.2.2.2.2.2.2.2.2.2.1 x0.2.2.1.length then (let y1:AC:=(x0.2.2.1.set a0.2.2.2.2.2.2.2.2.2.2.2.2.2.2.2.2.1.toNat a1.2.1)
   some (0,(jK a0 (x0.1,x0.2.1,y1,x0.2.2.2,a0.2.2.2.2.2.2.2.2.2.2))))
  else none)
 else(vJ k a1.2.1 0 1152921504606846976).bind fun x4=>
 bif !x4 then some (1,a0)
 else bif zB a0.2.2.2.2.2.2.2.2.2.2.2.2.2.2.2.2.1 x0.1.length then (let y2:List zJ:=(x0.1.set a0.2.2.2.2.2.2.2.2.2.2.2.2.2.2.2.2.1.toNat ((x0.1.getD a0.2.2.2.2.2.2.2.2.2.2.2.2.2.2.2.2.1.toNat (0,0,0)).1,(x0.1.getD a0.2.2.2.2.2.2.2.2.2.2.2.2.2.2.2.2.1.toNat (0,0,0)).2.1,a1.2.1))
  some (0,(jK a0 (y2,x0.2.1,x0.2.2.1,x0.2.2.2,a0.2.2.2.2.2.2.2.2.2.2))))
 else none
def MB (k:Nat)(a0:jT)(a1:Int):Option Bool:=
 (vJ k a1 0 (zA ((a0.2.1.length:Int)-1))).bind fun x0=>
 some x0
def GD (k:Nat)(a0:EQ):Option EQ:=
 bif zL (0+a0.length) 24 then some a0
 else none
def qy (k:Nat)(a0:AC)(a1 a2:Int):Option AC:=
 (qp k a0).bind fun x0=>
 bif decide (a1 ≥ 0) then (bif decide (a1 < (x0.length : Int)) then (bif zB a1 x0.length then some (x0.set a1.toNat a2)
   else none)
  else some x0)
 else some x0
def XO (k:Nat)(a0:Int):Option Bool:=
 bif decide (a0≥0) then some (decide (a0≤10000))
 else some false
def KR (k:Nat)(a0 a1:Int):Option wC:=
 some ((IntKind.wrap .u64 ((IntKind.wrap .u64 ((IntKind.wrap .u64 ((shr .u64 a0 32)*(shr .u64 a1 32)))+(shr .u64 (IntKind.wrap .u64 ((IntKind.wrap .u64 ((shr .u64 a0 32)*(yN .u64 a1 4294967295)))+(shr .u64 (IntKind.wrap .u64 ((yN .u64 a0 4294967295)*(yN .u64 a1 4294967295))) 32))) 32)))+(shr .u64 (IntKind.wrap .u64 ((yN .u64 (IntKind.wrap .u64 ((IntKind.wrap .u64 ((shr .u64 a0 32)*(yN .u64 a1 4294967295)))+(shr .u64 (IntKind.wrap .u64 ((yN .u64 a0 4294967295)*(yN .u64 a1 4294967295))) 32))) 4294967295)+(IntKind.wrap .u64 ((yN .u64 a0 4294967295)*(shr .u64 a1 32))))) 32))),(IntKind.wrap .u64 (a0*a1)))
def yVh (k:Nat)(a0:Int):Option Int:=
 bif decide (a0 ≥ 4294967296) then (bif decide ((shr .u64 a0 32) ≥ 65536) then (bif decide ((shr .u64 (shr .u64 a0 32) 16)≥256) then none
   else none)
  else bif decide ((shr .u64 a0 32)≥256) then none
  else none)
 else bif decide (a0 ≥ 65536) then (bif decide ((shr .u64 a0 16)≥256) then none
  else none)
 else bif decide (a0≥256) then none
 else none
def yQw (k:Nat)(a0:Int):Option Int:=
 (yVh k a0).bind fun x0=>
 some (zA (64-x0))
abbrev qK4:Type:=Int→Int→Int→Int→Int→Int→Int→Int→Int→Option qE
def yR0 (k:Nat)(rec:qK4)(s2 s8 s9 aw aQ bB bG ba bZ:Int):Option qE:=
 bif decide (ba ≥ 4294967296) then (bif decide ((IntKind.wrap .u64 (bZ+s9))≥4294967296) then some (s2,s8,s9,aw,aQ,bB,bG,(IntKind.wrap .u64 (ba-1)))
  else rec s2 s8 s9 aw aQ bB bG (IntKind.wrap .u64 (ba-1)) (IntKind.wrap .u64 (bZ+s9)))
 else bif decide ((IntKind.wrap .u64 (ba * aw)) > (IntKind.wrap .u64 ((IntKind.wrap .u64 (4294967296 * bZ)) + bB))) then (bif decide ((IntKind.wrap .u64 (bZ+s9))≥4294967296) then some (s2,s8,s9,aw,aQ,bB,bG,(IntKind.wrap .u64 (ba-1)))
  else rec s2 s8 s9 aw aQ bB bG (IntKind.wrap .u64 (ba-1)) (IntKind.wrap .u64 (bZ+s9)))
 else some (s2,s8,s9,aw,aQ,bB,bG,ba)
def qZp (k:Nat):Nat→qK4:=yD (fun _ _ _ _ _ _ _ _ _=>none) (yR0 k)
abbrev yAk:Type:=Int→Int→Int→Int→Int→Int→Int→Int→Int→Option MW
def yVi (k:Nat)(rec:yAk)(s2 s8 s9 aw bG ba bZ bn lq:Int):Option MW:=
 bif decide (lq ≥ 4294967296) then (bif decide ((IntKind.wrap .u64 (bZ+s9))≥4294967296) then some (s2,s8,bG,ba,bn,(IntKind.wrap .u64 (lq-1)))
  else rec s2 s8 s9 aw bG ba (IntKind.wrap .u64 (bZ+s9)) bn (IntKind.wrap .u64 (lq-1)))
 else bif decide ((IntKind.wrap .u64 (lq * aw)) > (IntKind.wrap .u64 ((IntKind.wrap .u64 (4294967296 * bZ)) + bG))) then (bif decide ((IntKind.wrap .u64 (bZ+s9))≥4294967296) then some (s2,s8,bG,ba,bn,(IntKind.wrap .u64 (lq-1)))
  else rec s2 s8 s9 aw bG ba (IntKind.wrap .u64 (bZ+s9)) bn (IntKind.wrap .u64 (lq-1)))
 else some (s2,s8,bG,ba,bn,lq)
def qO1 (k:Nat):Nat→yAk:=yD (fun _ _ _ _ _ _ _ _ _=>none) (yVi k)
def PH (k:Nat)(a0 a1 a2:Int):Option wC:=
 bif decide (a2=0) then none
 else bif decide (a2≤a0) then none
 else bif decide (a0 = 0) then (bif !(decide (a2 = 0)) then (bif !(decide (a2=0)) then some ((IntKind.wrap .u64 (Int.tdiv a1 a2)),(Int.tmod a1 a2))
   else none)
  else none)
 else(yQw k a2).bind fun x0=>
 bif !(decide ((IntKind.wrap .u64 (x0)) < 0)) then (bif !(decide ((IntKind.wrap .u64 (x0)) < 0)) then (bif !(decide ((IntKind.wrap .u64 (64 - (IntKind.wrap .u64 (x0)))) < 0)) then (bif !(decide ((IntKind.wrap .u64 (x0)) < 0)) then (bif !(decide ((shr .u64 (shl .u64 a2 (IntKind.wrap .u64 (x0))) 32) = 0)) then ((qZp k k (shl .u64 a2 (IntKind.wrap .u64 (x0))) (IntKind.wrap .u64 (x0)) (shr .u64 (shl .u64 a2 (IntKind.wrap .u64 (x0))) 32) (yN .u64 (shl .u64 a2 (IntKind.wrap .u64 (x0))) 4294967295) (wM .u64 (shl .u64 a0 (IntKind.wrap .u64 (x0))) (shr .u64 a1 (IntKind.wrap .u64 (64-(IntKind.wrap .u64 (x0)))))) (shr .u64 (shl .u64 a1 (IntKind.wrap .u64 (x0))) 32) (yN .u64 (shl .u64 a1 (IntKind.wrap .u64 (x0))) 4294967295) (IntKind.wrap .u64 (Int.tdiv (wM .u64 (shl .u64 a0 (IntKind.wrap .u64 (x0))) (shr .u64 a1 (IntKind.wrap .u64 (64-(IntKind.wrap .u64 (x0)))))) (shr .u64 (shl .u64 a2 (IntKind.wrap .u64 (x0))) 32))) (IntKind.wrap .u64 ((wM .u64 (shl .u64 a0 (IntKind.wrap .u64 (x0))) (shr .u64 a1 (IntKind.wrap .u64 (64-(IntKind.wrap .u64 (x0))))))-(IntKind.wrap .u64 ((IntKind.wrap .u64 (Int.tdiv (wM .u64 (shl .u64 a0 (IntKind.wrap .u64 (x0))) (shr .u64 a1 (IntKind.wrap .u64 (64-(IntKind.wrap .u64 (x0)))))) (shr .u64 (shl .u64 a2 (IntKind.wrap .u64 (x0))) 32)))*(shr .u64 (shl .u64 a2 (IntKind.wrap .u64 (x0))) 32)))))).bind fun z=>
      bif !(decide (z.2.2.1 = 0)) then ((qO1 k k z.1 z.2.1 z.2.2.1 z.2.2.2.1 z.2.2.2.2.2.2.1 z.2.2.2.2.2.2.2 (IntKind.wrap .u64 ((IntKind.wrap .u64 ((IntKind.wrap .u64 ((IntKind.wrap .u64 (z.2.2.2.2.1*4294967296))+z.2.2.2.2.2.1))-(IntKind.wrap .u64 (z.2.2.2.2.2.2.2*z.1))))-(IntKind.wrap .u64 ((IntKind.wrap .u64 (Int.tdiv (IntKind.wrap .u64 ((IntKind.wrap .u64 ((IntKind.wrap .u64 (z.2.2.2.2.1*4294967296))+z.2.2.2.2.2.1))-(IntKind.wrap .u64 (z.2.2.2.2.2.2.2*z.1)))) z.2.2.1))*z.2.2.1)))) (IntKind.wrap .u64 ((IntKind.wrap .u64 ((IntKind.wrap .u64 (z.2.2.2.2.1*4294967296))+z.2.2.2.2.2.1))-(IntKind.wrap .u64 (z.2.2.2.2.2.2.2*z.1)))) (IntKind.wrap .u64 (Int.tdiv (IntKind.wrap .u64 ((IntKind.wrap .u64 ((IntKind.wrap .u64 (z.2.2.2.2.1*4294967296))+z.2.2.2.2.2.1))-(IntKind.wrap .u64 (z.2.2.2.2.2.2.2*z.1)))) z.2.2.1))).bind fun z1=>
       bif !(decide (z1.2.1<0)) then some ((IntKind.wrap .u64 ((IntKind.wrap .u64 (z1.2.2.2.1*4294967296))+z1.2.2.2.2.2)),(shr .u64 (IntKind.wrap .u64 ((IntKind.wrap .u64 ((IntKind.wrap .u64 (z1.2.2.2.2.1*4294967296))+z1.2.2.1))-(IntKind.wrap .u64 (z1.2.2.2.2.2*z1.1)))) z1.2.1))
       else none)
      else none)
     else none)
    else none)
   else none)
  else none)
 else none
def PI (k:Nat)(a0 a1 a2:Int):Option fy:=
 bif decide (a0<0) then some (0,false)
 else bif decide (a1<0) then some (0,false)
 else(XO k a2).bind fun x0=>
 bif !x0 then some (0,false)
 else(KR k (IntKind.wrap .u64 (a0)) (IntKind.wrap .u64 (a1))).bind fun x1=>
 (PH k (Int.tmod x1.1 10000) x1.2 10000).bind fun x2=>
 (KR k x2.1 (IntKind.wrap .u64 ((zA (10000-a2))))).bind fun x3=>
 (Ek k x3.2 (IntKind.wrap .u64 (Int.tdiv (IntKind.wrap .u64 (x2.2*(IntKind.wrap .u64 ((zA (10000-a2)))))) 10000)) 0).bind fun x4=>
 bif decide ((IntKind.wrap .u64 (Int.tdiv x1.1 10000)) > 0) then (bif decide ((IntKind.wrap .u64 ((zA (10000-a2))))>0) then some (0,false)
  else bif decide ((IntKind.wrap .u64 (x3.1+x4.2))>0) then some (0,false)
  else bif decide (x4.1>9223372036854775807) then some (0,false)
  else some ((zA (x4.1)),true))
 else bif decide ((IntKind.wrap .u64 (x3.1+x4.2))>0) then some (0,false)
 else bif decide (x4.1>9223372036854775807) then some (0,false)
 else some ((zA (x4.1)),true)
abbrev qSv:Type:=Int→Int→AC→Int→Int→Option wC
def FZ (k:Nat)(rec:qSv)(s4 s5:Int)(s9:AC)(aw aQ:Int):Option wC:=
 bif decide (aQ < aw) then (bif zB aQ s9.length then ((Ek k s5 (IntKind.wrap .u64 ((s9.getD aQ.toNat 0))) 0).bind fun x0=>
   rec (zA (s4+(zA ((shr .i64 (s9.getD aQ.toNat 0) 63)+(zA (x0.2)))))) x0.1 s9 aw (zA (aQ+1)))
  else none)
 else some (s4,s5)
def FY (k:Nat):Nat→qSv
 |0,_,_,_,_,_=>none
 |n+1,s4,s5,s9,aw,aQ=>FZ k (FY k n) s4 s5 s9 aw aQ
def FX (k:Nat)(a0:AC):Option fy:=
 (FY k k 0 0 a0 (a0.length:Int) 0).bind fun z=>
 bif !(decide (z.1=(shr .i64 (zA (z.2)) 63))) then some (0,false)
 else some ((zA (z.2)),true)
abbrev yB3:Type:=AC→AC→List wC→Int→Int→AC→Option (AC⊕fy)
def F2 (k:Nat)(rec:yB3)(s1 s2:AC)(kq:List wC)(aV fT:Int)(r0:AC):Option (AC⊕fy):=
 bif decide (fT < aV) then (bif zB fT kq.length then (bif zB fT s1.length then (bif zB fT s2.length then ((PI k (s1.getD fT.toNat 0) (s2.getD fT.toNat 0) (kq.getD fT.toNat (0,0)).2).bind fun x0=>
     bif !x0.2 then some (.inr (0,false))
     else bif zL (r0.length+1) 8 then(rec s1 s2 kq aV (zA (fT+1)) (r0++[x0.1]))
     else none)
    else none)
   else none)
  else none)
 else some (.inl r0)
def F1 (k:Nat):Nat→yB3:=yD (fun _ _ _ _ _ _=>none) (F2 k)
def sW (k:Nat)(a0:List wC)(a1 a2:AC):Option fy:=
 bif !(decide ((a1.length:Int)=(a0.length:Int))) then some (0,false)
 else bif !(decide ((a2.length:Int)=(a0.length:Int))) then some (0,false)
 else(F1 k k a1 a2 a0 (a0.length:Int) 0 []).bind fun z=>
 match z with
 |.inl z1=>(FX k z1).bind fun x1=>
  some (x1.1,x1.2)
 |.inr z2=>some (z2.1,z2.2)
def P7 (k:Nat)(a0:jT)(a1 a2:Int):Option (Int×jT):=
 (MB k a0 a1).bind fun x0=>
 bif !x0 then some (1,a0)
 else(vJ k a2 0 1099511627776).bind fun x1=>
 bif !x1 then some (1,a0)
 else(GD k a0.2.2.2.2.2.2.2.2.2.2.2.1).bind fun x2=>
 bif zB a0.2.2.2.2.2.2.2.2.2.2.2.2.2.2.2.2.1 x2.length then ((qy k (x2.getD a0.2.2.2.2.2.2.2.2.2.2.2.2.2.2.2.2.1.toNat []) a1 a2).bind fun x3=>
  bif zB a0.2.2.2.2.2.2.2.2.2.2.2.2.2.2.2.2.1 x2.length then (let y0:EQ:=(x2.set a0.2.2.2.2.2.2.2.2.2.2.2.2.2.2.2.2.1.toNat x3)
   bif zB a0.2.2.2.2.2.2.2.2.2.2.2.2.2.2.2.2.1 y0.length then ((sW k a0.2.1 a0.2.2.2.2.2.2.2.2.2.2.1 (y0.getD a0.2.2.2.2.2.2.2.2.2.2.2.2.2.2.2.2.1.toNat [])).bind fun x4=>
    bif zB a0.2.2.2.2.2.2.2.2.2.2.2.2.2.2.2.2.1 a0.2.2.2.2.2.2.1.length then (bif !x4.2 then some (8,a0)
     else bif decide (x4.1>1152921504606846976) then some (8,a0)
     else bif decide (x4.1 < (a0.2.2.2.2.2.2.1.getD a0.2.2.2.2.2.2.2.2.2.2.2.2.2.2.2.2.1.toNat (0, 0, 0)).2.1) then (bif decide ((zA ((a0.2.2.2.2.2.2.1.getD a0.2.2.2.2.2.2.2.2.2.2.2.2.2.2.2.2.1.toNat (0,0,0)).1+x4.1))<0) then some (9,a0)
      else(gF k a0.2.2.2.2.2.2.1 a0.2.2.2.2.2.2.2.1 a0.2.2.2.2.2.2.2.2.1 a0.2.2.2.2.2.2.2.2.2.1).bind fun x5=>
      bif zB a0.2.2.2.2.2.2.2.2.2.2.2.2.2.2.2.2.1 x5.1.length then (let y1:List zJ:=(x5.1.set a0.2.2.2.2.2.2.2.2.2.2.2.2.2.2.2.2.1.toNat ((x5.1.getD a0.2.2.2.2.2.2.2.2.2.2.2.2.2.2.2.2.1.toNat (0,0,0)).1,x4.1,(x5.1.getD a0.2.2.2.2.2.2.2.2.2.2.2.2.2.2.2.2.1.toNat (0,0,0)).2.2))
       some (0,(jK a0 (y1,x5.2.1,x5.2.2.1,x5.2.2.2,a0.2.2.2.2.2.2.2.2.2.2.1,y0,a0.2.2.2.2.2.2.2.2.2.2.2.2))))
      else none)
     else(gF k a0.2.2.2.2.2.2.1 a0.2.2.2.2.2.2.2.1 a0.2.2.2.2.2.2.2.2.1 a0.2.2.2.2.2.2.2.2.2.1).bind fun x6=>
     bif zB a0.2.2.2.2.2.2.2.2.2.2.2.2.2.2.2.2.1 x6.1.length then (let y2:List zJ:=(x6.1.set a0.2.2.2.2.2.2.2.2.2.2.2.2.2.2.2.2.1.toNat ((x6.1.getD a0.2.2.2.2.2.2.2.2.2.2.2.2.2.2.2.2.1.toNat (0,0,0)).1,x4.1,(x6.1.getD a0.2.2.2.2.2.2.2.2.2.2.2.2.2.2.2.2.1.toNat (0,0,0)).2.2))
      some (0,(jK a0 (y2,x6.2.1,x6.2.2.1,x6.2.2.2,a0.2.2.2.2.2.2.2.2.2.2.1,y0,a0.2.2.2.2.2.2.2.2.2.2.2.2))))
     else none)
    else none)
   else none)
  else none)
 else none
def P8 (k:Nat)(a0 a1:Int):Option fy:=
 bif decide (a1 > 0) then (bif decide (a0>(zA (9223372036854775807-a1))) then some (0,false)
  else bif decide (a1 < 0) then (bif decide (a0<(zA ((-9223372036854775808)-a1))) then some (0,false)
   else some ((zA (a0+a1)),true))
  else some ((zA (a0+a1)),true))
 else bif decide (a1 < 0) then (bif decide (a0<(zA ((-9223372036854775808)-a1))) then some (0,false)
  else some ((zA (a0+a1)),true))
 else some ((zA (a0+a1)),true)
def OK (k:Nat)(bx bH aT:Int):Option Bool:=
 bif decide (bx > (-4611686018427387904)) then (bif decide (bx < 4611686018427387904) then (bif decide (bH ≥ 0) then (bif decide (bH ≤ 2305843009213693952) then (bif decide (aT≥0) then some (decide (aT≤2305843009213693952))
     else some false)
    else some false)
   else some false)
  else some false)
 else some false
def Le (k:Nat)(a0:zJ)(a1:Int):Option (zJ×Int):=
 (P8 k a0.1 a1).bind fun x0=>
 bif !x0.2 then some (a0,8)
 else(OK k x0.1 a0.2.1 a0.2.2).bind fun x1=>
 bif !x1 then some (a0,8)
 else some ((x0.1,a0.2),0)
def GW (k:Nat)(a0:zJ)(a1:Int):Option (zJ×Int):=
 (Le k a0 a1).bind fun x0=>
 some (x0.1,x0.2)
def xy (k:Nat)(bx bH aT a1:Int):Option Int:=
 some (wN false (zA (aT-a1)) 0)
def GX (k:Nat)(a0:zJ)(a1 a2:Int):Option (zJ×Int):=
 (Le k a0 (zA (0-a1))).bind fun x0=>
 bif decide (x0.2 = 0) then (bif decide (a2 = 1) then ((xy k a0.1 a0.2.1 a0.2.2 a1).bind fun x1=>
   some ((x0.1.1,x0.1.2.1,x1),x0.2))
  else bif decide (a2 = 2) then ((xy k a0.1 a0.2.1 a0.2.2 a1).bind fun x2=>
   some ((x0.1.1,x0.1.2.1,x2),x0.2))
  else some (x0.1,x0.2))
 else some (x0.1,x0.2)
def GY (k:Nat)(a0:zJ)(a1:Int):Option Int:=
 bif decide (a1=3) then some (zA ((zA (a0.1+a0.2.1))-a0.2.2))
 else some (zA (a0.1+a0.2.1))
def qOe (k:Nat)(a0:jT)(a1 a2 a3:Int):Option (Int×jT):=
 (vJ k a2 0 (zA (a0.1-1))).bind fun x0=>
 bif !x0 then some (1,a0)
 else(vJ k a3 1 1099511627776).bind fun x1=>
 bif !x1 then some (1,a0)
 else bif zB a2 a0.2.2.2.2.2.2.1.length then ((GW k (a0.2.2.2.2.2.2.1.getD a2.toNat (0,0,0)) a3).bind fun x2=>
  bif decide (a1 = 11) then ((GX k (a0.2.2.2.2.2.2.1.getD a2.toNat (0,0,0)) a3 3).bind fun x3=>
   (GY k (a0.2.2.2.2.2.2.1.getD a2.toNat (0,0,0)) 3).bind fun x4=>
   bif decide (x4<a3) then some (9,a0)
   else bif decide ((zA (a0.2.2.2.2.2.2.2.2.2.2.2.2.2.2.1-a3))<0) then some (9,a0)
   else bif !(decide (x3.2=0)) then some (x3.2,a0)
   else bif decide ((zA (a0.2.2.2.2.2.2.2.2.2.2.2.2.2.2.1-a3))>1152921504606846976) then some (8,a0)
   else(gF k a0.2.2.2.2.2.2.1 a0.2.2.2.2.2.2.2.1 a0.2.2.2.2.2.2.2.2.1 a0.2.2.2.2.2.2.2.2.2.1).bind fun x5=>
   bif zB a2 x5.1.length then some (0,(jK a0 ((x5.1.set a2.toNat x3.1),x5.2.1,x5.2.2.1,x5.2.2.2,(Ij a0 ((zA (a0.2.2.2.2.2.2.2.2.2.2.2.2.2.2.1-a3)),a0.2.2.2.2.2.2.2.2.2.2.2.2.2.2.2)))))
   else none)
  else bif !(decide (x2.2=0)) then some (x2.2,a0)
  else bif decide ((zA (a0.2.2.2.2.2.2.2.2.2.2.2.2.2.2.1+a3))>1152921504606846976) then some (8,a0)
  else(gF k a0.2.2.2.2.2.2.1 a0.2.2.2.2.2.2.2.1 a0.2.2.2.2.2.2.2.2.1 a0.2.2.2.2.2.2.2.2.2.1).bind fun x6=>
  bif zB a2 x6.1.length then some (0,(jK a0 ((x6.1.set a2.toNat x2.1),x6.2.1,x6.2.2.1,x6.2.2.2,(Ij a0 ((zA (a0.2.2.2.2.2.2.2.2.2.2.2.2.2.2.1+a3)),a0.2.2.2.2.2.2.2.2.2.2.2.2.2.2.2)))))
  else none)
 else none
abbrev qY3:Type:=(lO×(List qE)×AC×(List zJ)×EQ×AC×EQ)⊕(Int×lO×(List qE))
abbrev qVj:Type:=EQ→Int→Int→lO→List qE→AC→List zJ→EQ→AC→EQ→Option qY3
def yFy (k:Nat)(rec:qVj)(gM:EQ)(jm lr:Int)(b0:lO)(r1:List qE)(r2:AC)(r4:List zJ)(m5:EQ)(r6:AC)(m7:EQ):Option qY3:=
 bif decide (lr < jm) then (bif zB lr gM.length then ((sW k b0.2.1 r2 (gM.getD lr.toNat [])).bind fun x4=>
   bif !x4.2 then some (.inr (8,b0,r1))
   else bif decide (x4.1>1152921504606846976) then some (.inr (8,b0,r1))
   else bif zB lr r4.length then (let y0:List zJ:=(r4.set lr.toNat ((r4.getD lr.toNat (0,0,0)).1,x4.1,(r4.getD lr.toNat (0,0,0)).2.2))
    rec gM jm (zA (lr+1)) b0 r1 r2 y0 m5 r6 m7)
   else none)
  else none)
 else some (.inl (b0,r1,r2,r4,m5,r6,m7))
def qJs (k:Nat):Nat→qVj:=yD (fun _ _ _ _ _ _ _ _ _ _=>none) (yFy k)
def yQb (k:Nat)(a0:jT)(a1 a2:Int):Option (Int×jT):=
 (MB k a0 a1).bind fun x0=>
 bif !x0 then some (1,a0)
 else(vJ k a2 0 1048576).bind fun x1=>
 bif !x1 then some (1,a0)
 else(qy k a0.2.2.2.2.2.2.2.2.2.2.1 a1 a2).bind fun x2=>
 (gF k a0.2.2.2.2.2.2.1 a0.2.2.2.2.2.2.2.1 a0.2.2.2.2.2.2.2.2.1 a0.2.2.2.2.2.2.2.2.2.1).bind fun x3=>
 (qJs k k a0.2.2.2.2.2.2.2.2.2.2.2.1 (a0.2.2.2.2.2.2.2.2.2.2.2.1.length:Int) 0 (lM a0) a0.2.2.2.2.2.2.2.2.2.2.2.2.2.2.2.2.2 x2 x3.1 x3.2.1 x3.2.2.1 x3.2.2.2).bind fun z=>
 match z with
 |.inl z1=>some (0,(jK z1.1 (vUx z1 (z1.2.2.1,(YP z1.1 z1.2.1)))))
 |.inr z2=>some (z2.1,(vU z2.2.1 z2.2.2))
def Hr (k:Nat)(a0:jT)(a1:zC):Option (Int×jT):=
 bif decide (a1.1 = 1) then ((P6 k a0 a1.2).bind fun x0=>
  some (x0.1,x0.2))
 else bif decide (a1.1 = 2) then ((xS k a0 a1).bind fun x1=>
  some (x1.1,x1.2))
 else bif decide (a1.1 = 3) then ((xS k a0 a1).bind fun x2=>
  some (x2.1,x2.2))
 else bif decide (a1.1 = 4) then ((xS k a0 a1).bind fun x3=>
  some (x3.1,x3.2))
 else bif decide (a1.1 = 5) then ((xT k a0 a1).bind fun x4=>
  some (x4.1,x4.2))
 else bif decide (a1.1 = 6) then ((xT k a0 a1).bind fun x5=>
  some (x5.1,x5.2))
 else bif decide (a1.1 = 7) then ((xT k a0 a1).bind fun x6=>
  some (x6.1,x6.2))
 else bif decide (a1.1 = 8) then ((P7 k a0 a1.2.1 a1.2.2.1).bind fun x7=>
  some (x7.1,x7.2))
 else bif decide (a1.1 = 10) then ((qOe k a0 a1.1 a1.2.1 a1.2.2.1).bind fun x8=>
  some (x8.1,x8.2))
 else bif decide (a1.1 = 11) then ((qOe k a0 a1.1 a1.2.1 a1.2.2.1).bind fun x9=>
  some (x9.1,x9.2))
 else bif decide (a1.1 = 12) then ((yQb k a0 a1.2.1 a1.2.2.1).bind fun bW=>
  some (bW.1,bW.2))
 else some (0,a0)
def BY (k:Nat)(dh:Int)(dQ:List wC)(dR di cg a1:Int):Option Bool:=
 some (decide (a1=di))
def re (k:Nat)(a0 a1:Int)(a2:AC):Option qE:=
 some (a0,a1,(bif (Nat.blt 0 a2.length) then(a2.getD 0 0) else 0),(bif (Nat.blt 1 a2.length) then(a2.getD 1 0) else 0),(bif (Nat.blt 2 a2.length) then(a2.getD 2 0) else 0),(bif (Nat.blt 3 a2.length) then(a2.getD 3 0) else 0),(bif (Nat.blt 4 a2.length) then(a2.getD 4 0) else 0),(bif (Nat.blt 5 a2.length) then(a2.getD 5 0) else 0))
abbrev qKw:Type:=Int×(List zJ)×EQ×AC×EQ×AC×EQ×(List zC)×AC×Int×Bool×Int×Int×Bool×(List qE)
abbrev qZ8:Type:=List zC→Int→Int→Int→List zJ→EQ→AC→EQ→AC→EQ→List zC→AC→Int→Bool→Int→Int→Bool→List qE→Option qKw
def Gw (k:Nat)(rec:qZ8)(aw:List zC)(aQ bA af:Int)(ai:List zJ)(aj:EQ)(ah:AC)(aX:EQ)(bp:AC)(bq:EQ)(dU:List zC)(dV:AC)(dW:Int)(ca:Bool)(av bI:Int)(aU:Bool)(r2:List qE):Option qKw:=
 bif decide (bA < aQ) then (bif zB bA aw.length then ((re k (aw.getD bA.toNat (0,0,0,0,0,0,0)).2.1 22 [(aw.getD bA.toNat (0,0,0,0,0,0,0)).1]).bind fun x0=>
   bif zL (r2.length+1) 64 then(rec aw aQ (zA (bA+1)) af ai aj ah aX bp bq dU dV dW ca av bI aU (r2++[x0]))
   else none)
  else none)
 else some (af,ai,aj,ah,aX,bp,bq,dU,dV,dW,ca,av,bI,aU,r2)
def Gv (k:Nat):Nat→qZ8
 |0,_,_,_,_,_,_,_,_,_,_,_,_,_,_,_,_,_,_=>none
 |n+1,aw,aQ,bA,af,ai,aj,ah,aX,bp,bq,dU,dV,dW,ca,av,bI,aU,r2=>Gw k (Gv k n) aw aQ bA af ai aj ah aX bp bq dU dV dW ca av bI aU r2
abbrev qK6:Type:=List zJ→Int→Int→Int→List zJ→EQ→AC→EQ→AC→EQ→List zC→AC→Int→Bool→Int→Int→Bool→List qE→Option qKw
def Gy (k:Nat)(rec:qK6)(lQ:List zJ)(fU mK af:Int)(ai:List zJ)(aj:EQ)(ah:AC)(aX:EQ)(bp:AC)(bq:EQ)(dU:List zC)(dV:AC)(dW:Int)(ca:Bool)(av bI:Int)(aU:Bool)(r2:List qE):Option qKw:=
 bif decide (mK < fU) then (bif zB mK lQ.length then ((re k mK 23 [(lQ.getD mK.toNat (0,0,0)).1]).bind fun x1=>
   bif zL (r2.length+1) 64 then(rec lQ fU (zA (mK+1)) af ai aj ah aX bp bq dU dV dW ca av bI aU (r2++[x1]))
   else none)
  else none)
 else some (af,ai,aj,ah,aX,bp,bq,dU,dV,dW,ca,av,bI,aU,r2)
def La (k:Nat):Nat→qK6
 |0,_,_,_,_,_,_,_,_,_,_,_,_,_,_,_,_,_,_=>none
 |n+1,lQ,fU,mK,af,ai,aj,ah,aX,bp,bq,dU,dV,dW,ca,av,bI,aU,r2=>Gy k (La k n) lQ fU mK af ai aj ah aX bp bq dU dV dW ca av bI aU r2
def P4 (k:Nat)(mG:Int)(rz:List zJ)(rA:EQ)(rC:AC)(rD:EQ)(rE:AC)(rF:EQ)(mH:List zC)(rG:AC)(rH:Int)(rI:Bool):Option Su:=
 (Gv k k mH (mH.length:Int) 0 mG rz rA rC rD rE rF mH rG rH rI 0 0 false []).bind fun z=>
 (La k k z.2.1 (z.2.1.length:Int) 0 z.1 z.2.1 z.2.2.1 z.2.2.2.1 z.2.2.2.2.1 z.2.2.2.2.2.1 z.2.2.2.2.2.2.1 z.2.2.2.2.2.2.2.1 z.2.2.2.2.2.2.2.2.1 z.2.2.2.2.2.2.2.2.2.1 z.2.2.2.2.2.2.2.2.2.2.1 z.2.2.2.2.2.2.2.2.2.2.2.1 z.2.2.2.2.2.2.2.2.2.2.2.2.1 z.2.2.2.2.2.2.2.2.2.2.2.2.2.1 z.2.2.2.2.2.2.2.2.2.2.2.2.2.2).bind fun z1=>
 some (ki z1 ([],z1.2.2.2.2.2.2.2.2.1,z1.2.2.2.2.2.2.2.2.2.1,true,z1.2.2.2.2.2.2.2.2.2.2.2.2.2.2))
def Yi (k:Nat)(cf bg bD ct bQ cc bT a1:Int):Option Bool:=
 some (decide (a1>bT))
def GB (k:Nat)(dh:Int)(dQ:List wC)(dR di cg a1:Int):Option Bool:=
 bif decide (a1 > 0) then (bif decide (a1 < di) then (bif !(decide (cg=0)) then some (decide ((Int.tmod a1 cg)=0))
   else none)
  else some false)
 else some false
def Xm (k:Nat)(cf bg bD ct bQ cc bT a1:Int):Option Bool:=
 bif decide (a1≥cc) then some (decide (a1≤bT))
 else some false
def Xl (k:Nat)(cf bg bD ct bQ cc bT a1:Int):Option Bool:=
 (Xm k cf bg bD ct bQ cc bT a1).bind fun x0=>
 some x0
def Fy (k:Nat)(rec:qJ4)(s8:List zC)(s9 aw af:Int)(r1:List zC):Option qNg:=
 bif decide (aw < s9) then (bif zB aw s8.length then ((Xl k (s8.getD aw.toNat (0,0,0,0,0,0,0)).1 (s8.getD aw.toNat (0,0,0,0,0,0,0)).2.1 (s8.getD aw.toNat (0,0,0,0,0,0,0)).2.2.1 (s8.getD aw.toNat (0,0,0,0,0,0,0)).2.2.2.1 (s8.getD aw.toNat (0,0,0,0,0,0,0)).2.2.2.2.1 (s8.getD aw.toNat (0,0,0,0,0,0,0)).2.2.2.2.2.1 (s8.getD aw.toNat (0,0,0,0,0,0,0)).2.2.2.2.2.2 af).bind fun x0=>
   bif x0 then (bif zL (r1.length + 1) 56 then (let y0:List zC:=(r1++[(s8.getD aw.toNat (0,0,0,0,0,0,0))])
     rec s8 s9 (zA (aw+1)) af y0)
    else none)
   else rec s8 s9 (zA (aw+1)) af r1)
  else none)
 else some r1
def KA (k:Nat):Nat→qJ4
 |0,_,_,_,_,_=>none
 |n+1,s8,s9,aw,af,r1=>Fy k (KA k n) s8 s9 aw af r1
def Xk (k:Nat)(a0:List zC)(cW:Int):Option (List zC):=
 (KA k k a0 (a0.length:Int) 0 cW []).bind fun z=>
 some z
def Fx (k:Nat)(a0:List zC)(a1:Int):Option (List zC):=
 (Xk k a0 a1).bind fun x0=>
 some x0
def Xq (k:Nat)(cf bg bD ct bQ cc bT ie cw dv eI dw je jg:Int):Option Bool:=
 bif decide (bg=cw) then some (!(decide (bQ=3)))
 else some false
abbrev qOm:Type:=List zC→Int→Int→Int→Int→Int→Int→Int→Int→Int→Option (Unit⊕Int)
def FF (k:Nat)(rec:qOm)(s0:List zC)(s7 s8 af ai aj ah aX bp bq:Int):Option (Unit⊕Int):=
 bif decide (s8 < s7) then (bif zB s8 s0.length then ((Xq k (s0.getD s8.toNat (0,0,0,0,0,0,0)).1 (s0.getD s8.toNat (0,0,0,0,0,0,0)).2.1 (s0.getD s8.toNat (0,0,0,0,0,0,0)).2.2.1 (s0.getD s8.toNat (0,0,0,0,0,0,0)).2.2.2.1 (s0.getD s8.toNat (0,0,0,0,0,0,0)).2.2.2.2.1 (s0.getD s8.toNat (0,0,0,0,0,0,0)).2.2.2.2.2.1 (s0.getD s8.toNat (0,0,0,0,0,0,0)).2.2.2.2.2.2 af ai aj ah aX bp bq).bind fun x0=>
   bif x0 then some (.inr s8)
   else rec s0 s7 (zA (s8+1)) af ai aj ah aX bp bq)
  else none)
 else some (.inl ())
def KF (k:Nat):Nat→qOm
 |0,_,_,_,_,_,_,_,_,_,_=>none
 |n+1,s0,s7,s8,af,ai,aj,ah,aX,bp,bq=>FF k (KF k n) s0 s7 s8 af ai aj ah aX bp bq
def Xr (k:Nat)(a0:List zC)(mL gj mM dz eJ eK gk:Int):Option Int:=
 (KF k k a0 (a0.length:Int) 0 mL gj mM dz eJ eK gk).bind fun z=>
 match z with
 |.inl z1=>some (-1)
 |.inr z2=>some z2
def Pt (k:Nat)(a0:List zC)(mL gj mM dz eJ eK gk:Int):Option Bool:=
 (Xr k a0 mL gj mM dz eJ eK gk).bind fun x0=>
 some (decide (x0≥0))
def Xv (k:Nat)(cf bg bD ct bQ cc bT:Int)(a1:List fy)(a2:List zC):Option (Bool×(List fy)):=
 bif !(Option.getD (List.lookup bg a1) false) then some (true,((bg,true)::a1))
 else bif decide (bQ = 3) then ((Pt k a2 cf bg bD ct bQ cc bT).bind fun x0=>
  some ((!x0),((bg,true)::a1)))
 else some (false,((bg,true)::a1))
abbrev qOn:Type:=(List fy)×(List zC)×(List zC)
abbrev qPv:Type:=List zC→Int→Int→List fy→List zC→List zC→Option qOn
def FH (k:Nat)(rec:qPv)(s8:List zC)(s9 aw:Int)(p1:List fy)(aZ r3:List zC):Option qOn:=
 bif decide (aw < s9) then (bif zB aw s8.length then ((Xv k (s8.getD aw.toNat (0,0,0,0,0,0,0)).1 (s8.getD aw.toNat (0,0,0,0,0,0,0)).2.1 (s8.getD aw.toNat (0,0,0,0,0,0,0)).2.2.1 (s8.getD aw.toNat (0,0,0,0,0,0,0)).2.2.2.1 (s8.getD aw.toNat (0,0,0,0,0,0,0)).2.2.2.2.1 (s8.getD aw.toNat (0,0,0,0,0,0,0)).2.2.2.2.2.1 (s8.getD aw.toNat (0,0,0,0,0,0,0)).2.2.2.2.2.2 p1 aZ).bind fun x0=>
   bif x0.1 then (bif zL (r3.length + 1) 56 then (let y0:List zC:=(r3++[(s8.getD aw.toNat (0,0,0,0,0,0,0))])
     rec s8 s9 (zA (aw+1)) x0.2 aZ y0)
    else none)
   else rec s8 s9 (zA (aw+1)) x0.2 aZ r3)
  else none)
 else some (p1,aZ,r3)
def FG (k:Nat):Nat→qPv
 |0,_,_,_,_,_,_=>none
 |n+1,s8,s9,aw,p1,aZ,r3=>FH k (FG k n) s8 s9 aw p1 aZ r3
def Xu (k:Nat)(a0:List zC)(cW:List fy)(adV:List zC):Option ((List zC)×(List fy)):=
 (FG k k a0 (a0.length:Int) 0 cW adV []).bind fun z=>
 some (z.2.2,z.1)
def KG (k:Nat)(a0:List zC)(a1:Int):Option (List zC):=
 (Fx k a0 a1).bind fun x0=>
 (Xu k x0 [] x0).bind fun x1=>
 some x1.1
def EZ (k:Nat)(au:List zJ)(az:EQ)(ay:AC)(ax:EQ)(ie cw dv eI dw je jg:Int):Option Bool:=
 bif decide (cw ≥ 0) then (bif decide (cw < (au.length : Int)) then (bif decide (dv ≥ 0) then (bif decide (dv < (au.length : Int)) then (bif !(decide (cw = dv)) then (bif decide (eI ≥ 1) then (bif decide (eI ≤ 1099511627776) then (bif decide (dw≥1) then some (decide (dw≤3))
        else some false)
       else some false)
      else some false)
     else some false)
    else some false)
   else some false)
  else some false)
 else some false
def Xg (k:Nat)(cf bg bD ct bQ cc bT:Int)(cV:List zJ)(jh:EQ)(jk:AC)(jl:EQ):Option Bool:=
 (EZ k cV jh jk jl cf bg bD ct bQ cc bT).bind fun x0=>
 some (!x0)
abbrev qO2:Type:=List zC→Int→Int→List zJ→EQ→AC→EQ→Option (Unit⊕Int)
def Fw (k:Nat)(rec:qO2)(s0:List zC)(s7 s8:Int)(af:List zJ)(ai:EQ)(aj:AC)(ah:EQ):Option (Unit⊕Int):=
 bif decide (s8 < s7) then (bif zB s8 s0.length then ((Xg k (s0.getD s8.toNat (0,0,0,0,0,0,0)).1 (s0.getD s8.toNat (0,0,0,0,0,0,0)).2.1 (s0.getD s8.toNat (0,0,0,0,0,0,0)).2.2.1 (s0.getD s8.toNat (0,0,0,0,0,0,0)).2.2.2.1 (s0.getD s8.toNat (0,0,0,0,0,0,0)).2.2.2.2.1 (s0.getD s8.toNat (0,0,0,0,0,0,0)).2.2.2.2.2.1 (s0.getD s8.toNat (0,0,0,0,0,0,0)).2.2.2.2.2.2 af ai aj ah).bind fun x0=>
   bif x0 then some (.inr s8)
   else rec s0 s7 (zA (s8+1)) af ai aj ah)
  else none)
 else some (.inl ())
def Ky (k:Nat):Nat→qO2
 |0,_,_,_,_,_,_,_=>none
 |n+1,s0,s7,s8,af,ai,aj,ah=>Fw k (Ky k n) s0 s7 s8 af ai aj ah
def Xh (k:Nat)(a0:List zC)(bL:List zJ)(cy:EQ)(cz:AC)(cB:EQ):Option Int:=
 (Ky k k a0 (a0.length:Int) 0 bL cy cz cB).bind fun z=>
 match z with
 |.inl z1=>some (-1)
 |.inr z2=>some z2
def Pp (k:Nat)(a0:List zC)(bL:List zJ)(cy:EQ)(cz:AC)(cB:EQ):Option Bool:=
 (Xh k a0 bL cy cz cB).bind fun x0=>
 some (decide (x0≥0))
abbrev qSu:Type:=AC×AC×EQ
abbrev qL3:Type:=List zC→Int→Int→AC→AC→EQ→Option qSu
def Fm (k:Nat)(rec:qL3)(ba:List zC)(bZ bn:Int)(r2 r3:AC)(m4:EQ):Option qSu:=
 bif decide (bn < bZ) then (bif zB bn ba.length then (bif zB (ba.getD bn.toNat (0, 0, 0, 0, 0, 0, 0)).2.1 r2.length then (bif zB (ba.getD bn.toNat (0, 0, 0, 0, 0, 0, 0)).2.1 r2.length then (let y0:AC:=(r2.set (ba.getD bn.toNat (0,0,0,0,0,0,0)).2.1.toNat (zA ((r2.getD (ba.getD bn.toNat (0,0,0,0,0,0,0)).2.1.toNat 0)-(ba.getD bn.toNat (0,0,0,0,0,0,0)).2.2.2.1)))
     bif zB (ba.getD bn.toNat (0, 0, 0, 0, 0, 0, 0)).2.2.1 y0.length then (bif zB (ba.getD bn.toNat (0, 0, 0, 0, 0, 0, 0)).2.2.1 y0.length then (let y1:AC:=(y0.set (ba.getD bn.toNat (0,0,0,0,0,0,0)).2.2.1.toNat (zA ((y0.getD (ba.getD bn.toNat (0,0,0,0,0,0,0)).2.2.1.toNat 0)+(ba.getD bn.toNat (0,0,0,0,0,0,0)).2.2.2.1)))
       bif zB (ba.getD bn.toNat (0, 0, 0, 0, 0, 0, 0)).2.1 m4.length then (bif zB (ba.getD bn.toNat (0, 0, 0, 0, 0, 0, 0)).2.2.1 (m4.getD (ba.getD bn.toNat (0, 0, 0, 0, 0, 0, 0)).2.1.toNat []).length then (bif zB (ba.getD bn.toNat (0, 0, 0, 0, 0, 0, 0)).2.2.1 (m4.getD (ba.getD bn.toNat (0, 0, 0, 0, 0, 0, 0)).2.1.toNat []).length then (let y2:EQ:=(m4.set (ba.getD bn.toNat (0,0,0,0,0,0,0)).2.1.toNat ((m4.getD (ba.getD bn.toNat (0,0,0,0,0,0,0)).2.1.toNat []).set (ba.getD bn.toNat (0,0,0,0,0,0,0)).2.2.1.toNat (zA (((m4.getD (ba.getD bn.toNat (0,0,0,0,0,0,0)).2.1.toNat []).getD (ba.getD bn.toNat (0,0,0,0,0,0,0)).2.2.1.toNat 0)+(ba.getD bn.toNat (0,0,0,0,0,0,0)).2.2.2.1))))
          bif zB (ba.getD bn.toNat (0, 0, 0, 0, 0, 0, 0)).2.2.1 y2.length then (bif zB (ba.getD bn.toNat (0, 0, 0, 0, 0, 0, 0)).2.1 (y2.getD (ba.getD bn.toNat (0, 0, 0, 0, 0, 0, 0)).2.2.1.toNat []).length then (bif zB (ba.getD bn.toNat (0, 0, 0, 0, 0, 0, 0)).2.1 (y2.getD (ba.getD bn.toNat (0, 0, 0, 0, 0, 0, 0)).2.2.1.toNat []).length then (let y3:EQ:=(y2.set (ba.getD bn.toNat (0,0,0,0,0,0,0)).2.2.1.toNat ((y2.getD (ba.getD bn.toNat (0,0,0,0,0,0,0)).2.2.1.toNat []).set (ba.getD bn.toNat (0,0,0,0,0,0,0)).2.1.toNat (zA (((y2.getD (ba.getD bn.toNat (0,0,0,0,0,0,0)).2.2.1.toNat []).getD (ba.getD bn.toNat (0,0,0,0,0,0,0)).2.1.toNat 0)-(ba.getD bn.toNat (0,0,0,0,0,0,0)).2.2.2.1))))
             bif !(decide ((ba.getD bn.toNat (0, 0, 0, 0, 0, 0, 0)).2.2.2.2.1 = 3)) then (bif zB (ba.getD bn.toNat (0, 0, 0, 0, 0, 0, 0)).2.1 r3.length then (bif zB (ba.getD bn.toNat (0, 0, 0, 0, 0, 0, 0)).2.1 r3.length then (let y4:AC:=(r3.set (ba.getD bn.toNat (0,0,0,0,0,0,0)).2.1.toNat (zA ((r3.getD (ba.getD bn.toNat (0,0,0,0,0,0,0)).2.1.toNat 0)+(ba.getD bn.toNat (0,0,0,0,0,0,0)).2.2.2.1)))
                rec ba bZ (zA (bn+1)) y1 y4 y3)
               else none)
              else none)
             else rec ba bZ (zA (bn+1)) y1 r3 y3)
            else none)
           else none)
          else none)
         else none)
        else none)
       else none)
      else none)
     else none)
    else none)
   else none)
  else none)
 else some (r2,r3,m4)
def Ku (k:Nat):Nat→qL3
 |0,_,_,_,_,_,_=>none
 |n+1,ba,bZ,bn,r2,r3,m4=>Fm k (Ku k n) ba bZ bn r2 r3 m4
def Pk (k:Nat)(a0:Int)(a1:List zC):Option (AC×AC×EQ):=
 (BB k a0 0).bind fun x0=>
 (BB k a0 0).bind fun x1=>
 (Fk k a0 0).bind fun x2=>
 (Ku k k a1 (a1.length:Int) 0 x0 x1 x2).bind fun z=>
 some (z.1,z.2.1,z.2.2)
def W7 (k:Nat)(cf bg bD ct bQ cc bT a1:Int):Option Bool:=
 some (decide (bg=a1))
def Fo (k:Nat)(rec:qLb)(s0:List zC)(s7 s8 af:Int):Option (Unit⊕Int):=
 bif decide (s8 < s7) then (bif zB s8 s0.length then ((W7 k (s0.getD s8.toNat (0,0,0,0,0,0,0)).1 (s0.getD s8.toNat (0,0,0,0,0,0,0)).2.1 (s0.getD s8.toNat (0,0,0,0,0,0,0)).2.2.1 (s0.getD s8.toNat (0,0,0,0,0,0,0)).2.2.2.1 (s0.getD s8.toNat (0,0,0,0,0,0,0)).2.2.2.2.1 (s0.getD s8.toNat (0,0,0,0,0,0,0)).2.2.2.2.2.1 (s0.getD s8.toNat (0,0,0,0,0,0,0)).2.2.2.2.2.2 af).bind fun x0=>
   bif x0 then some (.inr s8)
   else rec s0 s7 (zA (s8+1)) af)
  else none)
 else some (.inl ())
def Kv (k:Nat):Nat→qLb
 |0,_,_,_,_=>none
 |n+1,s0,s7,s8,af=>Fo k (Kv k n) s0 s7 s8 af
def W8 (k:Nat)(a0:List zC)(cW:Int):Option Int:=
 (Kv k k a0 (a0.length:Int) 0 cW).bind fun z=>
 match z with
 |.inl z1=>some (-1)
 |.inr z2=>some z2
def Pl (k:Nat)(a0:List zC)(cW:Int):Option Bool:=
 (W8 k a0 cW).bind fun x0=>
 some (decide (x0≥0))
def Fi (k:Nat)(rec:Int→AC→Int→Int→Option Int)(s5:Int)(bA:AC)(bB bG:Int):Option Int:=
 bif decide (bG < bB) then (bif zB bG bA.length then(rec (zA (s5+(bA.getD bG.toNat 0))) bA bB (zA (bG+1)))
  else none)
 else some s5
def Fh (k:Nat):Nat→Int→AC→Int→Int→Option Int
 |0,_,_,_,_=>none
 |n+1,s5,bA,bB,bG=>Fi k (Fh k n) s5 bA bB bG
def Pg (k:Nat)(au:List zJ)(az:EQ)(ay:AC)(ax:EQ)(a1:Int):Option Int:=
 bif zB a1 ax.length then ((Fh k k 0 (ax.getD a1.toNat []) ((ax.getD a1.toNat []).length:Int) 0).bind fun z=>
  some z)
 else none
def Fq (k:Nat)(a0 a1:Int):Option Bool:=
 bif !(decide (a1=(-1))) then some (decide (a0>a1))
 else some false
def Xb (k:Nat)(cf bg bD ct bQ cc bT a1 oJ rL oK:Int)(adW nI:AC)(eL:EQ)(a4:Int)(SI:List zJ)(iH:EQ)(ad9:AC)(iI:EQ):Option Bool:=
 bif !(decide (bg=a1)) then some false
 else bif zB a1 nI.length then ((xy k oJ rL oK (nI.getD a1.toNat 0)).bind fun x0=>
  bif decide (bQ = 3) then (bif decide (a4<x0) then some true
   else bif zB a1 iI.length then (bif zB bD (iI.getD a1.toNat []).length then (bif zB a1 eL.length then (bif zB bD (eL.getD a1.toNat []).length then (bif zB a1 iH.length then (bif zB bD (iH.getD a1.toNat []).length then ((Fq k (zA (((iI.getD a1.toNat []).getD bD.toNat 0)+((eL.getD a1.toNat []).getD bD.toNat 0))) ((iH.getD a1.toNat []).getD bD.toNat 0)).bind fun x1=>
         some x1)
        else none)
       else none)
      else none)
     else none)
    else none)
   else none)
  else bif zB a1 iI.length then (bif zB bD (iI.getD a1.toNat []).length then (bif zB a1 eL.length then (bif zB bD (eL.getD a1.toNat []).length then (bif zB a1 iH.length then (bif zB bD (iH.getD a1.toNat []).length then ((Fq k (zA (((iI.getD a1.toNat []).getD bD.toNat 0)+((eL.getD a1.toNat []).getD bD.toNat 0))) ((iH.getD a1.toNat []).getD bD.toNat 0)).bind fun x2=>
        some x2)
       else none)
      else none)
     else none)
    else none)
   else none)
  else none)
 else none
abbrev qZ9:Type:=List zC→Int→Int→Int→Int→Int→Int→AC→AC→EQ→Int→List zJ→EQ→AC→EQ→Option (Unit⊕Int)
def Fs (k:Nat)(rec:qZ9)(s0:List zC)(s7 s8 af av aB aC:Int)(aZ bX:AC)(bY:EQ)(cj:Int)(jn:List zJ)(vt:EQ)(vu:AC)(vv:EQ):Option (Unit⊕Int):=
 bif decide (s8 < s7) then (bif zB s8 s0.length then ((Xb k (s0.getD s8.toNat (0,0,0,0,0,0,0)).1 (s0.getD s8.toNat (0,0,0,0,0,0,0)).2.1 (s0.getD s8.toNat (0,0,0,0,0,0,0)).2.2.1 (s0.getD s8.toNat (0,0,0,0,0,0,0)).2.2.2.1 (s0.getD s8.toNat (0,0,0,0,0,0,0)).2.2.2.2.1 (s0.getD s8.toNat (0,0,0,0,0,0,0)).2.2.2.2.2.1 (s0.getD s8.toNat (0,0,0,0,0,0,0)).2.2.2.2.2.2 af av aB aC aZ bX bY cj jn vt vu vv).bind fun x0=>
   bif x0 then some (.inr s8)
   else rec s0 s7 (zA (s8+1)) af av aB aC aZ bX bY cj jn vt vu vv)
  else none)
 else some (.inl ())
def Kx (k:Nat):Nat→qZ9
 |0,_,_,_,_,_,_,_,_,_,_,_,_,_,_,_=>none
 |n+1,s0,s7,s8,af,av,aB,aC,aZ,bX,bY,cj,jn,vt,vu,vv=>Fs k (Kx k n) s0 s7 s8 af av aB aC aZ bX bY cj jn vt vu vv
def Xc (k:Nat)(a0:List zC)(cW cX dA cY:Int)(gl eM:AC)(gm:EQ)(C4:Int)(eN:List zJ)(jo:EQ)(jq:AC)(jt:EQ):Option Int:=
 (Kx k k a0 (a0.length:Int) 0 cW cX dA cY gl eM gm C4 eN jo jq jt).bind fun z=>
 match z with
 |.inl z1=>some (-1)
 |.inr z2=>some z2
def Pm (k:Nat)(a0:List zC)(cW cX dA cY:Int)(gl eM:AC)(gm:EQ)(C4:Int)(eN:List zJ)(jo:EQ)(jq:AC)(jt:EQ):Option Bool:=
 (Xc k a0 cW cX dA cY gl eM gm C4 eN jo jq jt).bind fun x0=>
 some (decide (x0≥0))
abbrev qWd:Type:=(List zC)×Int×AC×AC×EQ×(List zJ)×EQ×AC×EQ×Int×Int×Int×Int×Int
abbrev qTd:Type:=List zC→Int→AC→Int→Int→AC→AC→EQ→List zJ→EQ→AC→EQ→Int→Int→Int→Int→Int→Option qWd
def Ft (k:Nat)(rec:qTd)(s3:List zC)(aQ:Int)(lP:AC)(gM jm:Int)(af ai:AC)(aj:EQ)(av:List zJ)(aB:EQ)(aC:AC)(aE:EQ)(aZ cj cZ dj jn:Int):Option qWd:=
 bif decide (jm < gM) then (bif zB jm lP.length then(rec s3 (zA (aQ+(lP.getD jm.toNat 0))) lP gM (zA (jm+1)) af ai aj av aB aC aE aZ cj cZ dj jn)
  else none)
 else some (s3,aQ,af,ai,aj,av,aB,aC,aE,aZ,cj,cZ,dj,jn)
def BD (k:Nat):Nat→qTd
 |0,_,_,_,_,_,_,_,_,_,_,_,_,_,_,_,_,_=>none
 |n+1,s3,aQ,lP,gM,jm,af,ai,aj,av,aB,aC,aE,aZ,cj,cZ,dj,jn=>Ft k (BD k n) s3 aQ lP gM jm af ai aj av aB aC aE aZ cj cZ dj jn
def Po (k:Nat)(ju vw:AC)(jv:EQ)(cV:List zJ)(jh:EQ)(jk:AC)(jl:EQ)(a2:Int)(a3:List zC):Option Bool:=
 bif zB a2 cV.length then (bif zB a2 ju.length then (bif decide ((zA ((zA ((cV.getD a2.toNat (0,0,0)).1+(cV.getD a2.toNat (0,0,0)).2.1))+(ju.getD a2.toNat 0)))<0) then some true
   else(Pg k cV jh jk jl a2).bind fun x0=>
   bif zB a2 jv.length then ((BD k k a3 x0 (jv.getD a2.toNat []) ((jv.getD a2.toNat []).length:Int) 0 ju vw jv cV jh jk jl a2 (cV.getD a2.toNat (0,0,0)).1 (cV.getD a2.toNat (0,0,0)).2.1 (cV.getD a2.toNat (0,0,0)).2.2 (zA ((zA ((cV.getD a2.toNat (0,0,0)).1+(cV.getD a2.toNat (0,0,0)).2.1))+(ju.getD a2.toNat 0)))).bind fun z=>
    bif zB z.2.2.2.2.2.2.2.2.2.1 z.2.2.2.2.2.2.2.1.length then ((Fq k z.2.1 (z.2.2.2.2.2.2.2.1.getD z.2.2.2.2.2.2.2.2.2.1.toNat 0)).bind fun x1=>
     bif x1 then some true
     else(Pm k z.1 z.2.2.2.2.2.2.2.2.2.1 z.2.2.2.2.2.2.2.2.2.2.1 z.2.2.2.2.2.2.2.2.2.2.2.1 z.2.2.2.2.2.2.2.2.2.2.2.2.1 z.2.2.1 z.2.2.2.1 z.2.2.2.2.1 z.2.2.2.2.2.2.2.2.2.2.2.2.2 z.2.2.2.2.2.1 z.2.2.2.2.2.2.1 z.2.2.2.2.2.2.2.1 z.2.2.2.2.2.2.2.2.1).bind fun x2=>
     some x2)
    else none)
   else none)
  else none)
 else none
abbrev yA3:Type:=List zC→Int→Int→List zJ→EQ→AC→EQ→AC→AC→EQ→AC→Option AC
def Fv (k:Nat)(rec:yA3)(s1:List zC)(bZ bn:Int)(af:List zJ)(ai:EQ)(aj:AC)(ah:EQ)(r2 r3:AC)(m4:EQ)(r5:AC):Option AC:=
 bif decide (bn < bZ) then ((Pl k s1 bn).bind fun x1=>
  bif x1 then ((Po k r2 r3 m4 af ai aj ah bn s1).bind fun x2=>
   bif x2 then (bif zL (r5.length+1) 8 then(rec s1 bZ (zA (bn+1)) af ai aj ah r2 r3 m4 (r5++[bn]))
    else none)
   else rec s1 bZ (zA (bn+1)) af ai aj ah r2 r3 m4 r5)
  else rec s1 bZ (zA (bn+1)) af ai aj ah r2 r3 m4 r5)
 else some r5
def Fu (k:Nat):Nat→yA3
 |0,_,_,_,_,_,_,_,_,_,_,_=>none
 |n+1,s1,bZ,bn,af,ai,aj,ah,r2,r3,m4,r5=>Fv k (Fu k n) s1 bZ bn af ai aj ah r2 r3 m4 r5
def BE (k:Nat)(au:List zJ)(az:EQ)(ay:AC)(ax:EQ)(a1:List zC):Option AC:=
 (Pk k (au.length:Int) a1).bind fun x0=>
 (Fu k k a1 (au.length:Int) 0 au az ay ax x0.1 x0.2.1 x0.2.2 []).bind fun z=>
 some z
def BF (k:Nat)(au:List zJ)(az:EQ)(ay:AC)(ax:EQ)(a1:List zC):Option Bool:=
 bif decide ((a1.length : Int) ≤ 64) then ((Pp k a1 au az ay ax).bind fun x0=>
  bif !x0 then ((BE k au az ay ax a1).bind fun x1=>
   some (decide ((x1.length:Int)=0)))
  else some false)
 else some false
def WU (k:Nat)(cf bg bD ct bQ cc bT:Int)(cV:List zJ)(jh:EQ)(jk:AC)(jl:EQ):Option Bool:=
 (EZ k cV jh jk jl cf bg bD ct bQ cc bT).bind fun x0=>
 some (!x0)
def E0 (k:Nat)(rec:qO2)(s0:List zC)(s7 s8:Int)(af:List zJ)(ai:EQ)(aj:AC)(ah:EQ):Option (Unit⊕Int):=
 bif decide (s8 < s7) then (bif zB s8 s0.length then ((WU k (s0.getD s8.toNat (0,0,0,0,0,0,0)).1 (s0.getD s8.toNat (0,0,0,0,0,0,0)).2.1 (s0.getD s8.toNat (0,0,0,0,0,0,0)).2.2.1 (s0.getD s8.toNat (0,0,0,0,0,0,0)).2.2.2.1 (s0.getD s8.toNat (0,0,0,0,0,0,0)).2.2.2.2.1 (s0.getD s8.toNat (0,0,0,0,0,0,0)).2.2.2.2.2.1 (s0.getD s8.toNat (0,0,0,0,0,0,0)).2.2.2.2.2.2 af ai aj ah).bind fun x0=>
   bif x0 then some (.inr s8)
   else rec s0 s7 (zA (s8+1)) af ai aj ah)
  else none)
 else some (.inl ())
def Kg (k:Nat):Nat→qO2
 |0,_,_,_,_,_,_,_=>none
 |n+1,s0,s7,s8,af,ai,aj,ah=>E0 k (Kg k n) s0 s7 s8 af ai aj ah
def WV (k:Nat)(a0:List zC)(bL:List zJ)(cy:EQ)(cz:AC)(cB:EQ):Option Int:=
 (Kg k k a0 (a0.length:Int) 0 bL cy cz cB).bind fun z=>
 match z with
 |.inl z1=>some (-1)
 |.inr z2=>some z2
def O0 (k:Nat)(a0:List zC)(bL:List zJ)(cy:EQ)(cz:AC)(cB:EQ):Option Bool:=
 (WV k a0 bL cy cz cB).bind fun x0=>
 some (decide (x0≥0))
def WD (k:Nat)(bx bH aT:Int):Option Bool:=
 (OK k bx bH aT).bind fun x0=>
 some (!x0)
abbrev qN0:Type:=List zJ→Int→Int→Option (Unit⊕Int)
def EJ (k:Nat)(rec:qN0)(s0:List zJ)(s7 s8:Int):Option (Unit⊕Int):=
 bif decide (s8 < s7) then (bif zB s8 s0.length then ((WD k (s0.getD s8.toNat (0,0,0)).1 (s0.getD s8.toNat (0,0,0)).2.1 (s0.getD s8.toNat (0,0,0)).2.2).bind fun x0=>
   bif x0 then some (.inr s8)
   else rec s0 s7 (zA (s8+1)))
  else none)
 else some (.inl ())
def JX (k:Nat):Nat→qN0
 |0,_,_,_=>none
 |n+1,s0,s7,s8=>EJ k (JX k n) s0 s7 s8
def WE (k:Nat)(a0:List zJ):Option Int:=
 (JX k k a0 (a0.length:Int) 0).bind fun z=>
 match z with
 |.inl z1=>some (-1)
 |.inr z2=>some z2
def OO (k:Nat)(a0:List zJ):Option Bool:=
 (WE k a0).bind fun x0=>
 some (decide (x0≥0))
def WA (k:Nat)(a0:Int):Option Bool:=
 bif decide (a0≥(-1)) then some (decide (a0≤2305843009213693952))
 else some false
def WH (k:Nat)(a0:Int):Option Bool:=
 (WA k a0).bind fun x0=>
 some (!x0)
abbrev qNe:Type:=AC→Int→Int→Option (Unit⊕Int)
def EK (k:Nat)(rec:qNe)(s0:AC)(s7 s8:Int):Option (Unit⊕Int):=
 bif decide (s8 < s7) then (bif zB s8 s0.length then ((WH k (s0.getD s8.toNat 0)).bind fun x0=>
   bif x0 then some (.inr s8)
   else rec s0 s7 (zA (s8+1)))
  else none)
 else some (.inl ())
def JY (k:Nat):Nat→qNe
 |0,_,_,_=>none
 |n+1,s0,s7,s8=>EK k (JY k n) s0 s7 s8
def WI (k:Nat)(a0:AC):Option Int:=
 (JY k k a0 (a0.length:Int) 0).bind fun z=>
 match z with
 |.inl z1=>some (-1)
 |.inr z2=>some z2
def OP (k:Nat)(a0:AC):Option Bool:=
 (WI k a0).bind fun x0=>
 some (decide (x0≥0))
def J0 (k:Nat)(a0:AC)(a1:Int):Option Bool:=
 bif decide ((a0.length : Int) = a1) then ((OP k a0).bind fun x0=>
  some (!x0))
 else some false
abbrev qRr:Type:=Int→EQ→Int→Int→Option (Unit⊕Bool)
def EM (k:Nat)(rec:qRr)(s1:Int)(bB:EQ)(bG ba:Int):Option (Unit⊕Bool):=
 bif decide (ba < bG) then (bif zB ba bB.length then ((J0 k (bB.getD ba.toNat []) s1).bind fun x0=>
   bif !x0 then some (.inr false)
   else rec s1 bB bG (zA (ba+1)))
  else none)
 else some (.inl ())
def J1 (k:Nat):Nat→qRr
 |0,_,_,_,_=>none
 |n+1,s1,bB,bG,ba=>EM k (J1 k n) s1 bB bG ba
def OT (k:Nat)(a0:EQ)(a1:Int):Option Bool:=
 bif !(decide ((a0.length:Int)=a1)) then some false
 else(J1 k k a1 a0 (a0.length:Int) 0).bind fun z=>
 match z with
 |.inl z1=>some true
 |.inr z2=>some z2
def OM (k:Nat)(a0:Int):Option Bool:=
 bif decide (a0>(-72057594037927936)) then some (decide (a0<72057594037927936))
 else some false
def WK (k:Nat)(a0:Int):Option Bool:=
 (OM k a0).bind fun x0=>
 some (!x0)
def EL (k:Nat)(rec:qNe)(s0:AC)(s7 s8:Int):Option (Unit⊕Int):=
 bif decide (s8 < s7) then (bif zB s8 s0.length then ((WK k (s0.getD s8.toNat 0)).bind fun x0=>
   bif x0 then some (.inr s8)
   else rec s0 s7 (zA (s8+1)))
  else none)
 else some (.inl ())
def JZ (k:Nat):Nat→qNe
 |0,_,_,_=>none
 |n+1,s0,s7,s8=>EL k (JZ k n) s0 s7 s8
def WL (k:Nat)(a0:AC):Option Int:=
 (JZ k k a0 (a0.length:Int) 0).bind fun z=>
 match z with
 |.inl z1=>some (-1)
 |.inr z2=>some z2
def OQ (k:Nat)(a0:AC):Option Bool:=
 (WL k a0).bind fun x0=>
 some (decide (x0≥0))
def OR (k:Nat)(a0:AC)(a1:Int):Option Bool:=
 bif decide ((a0.length : Int) = a1) then ((OQ k a0).bind fun x0=>
  some (!x0))
 else some false
def EN (k:Nat)(rec:qRr)(s1:Int)(bB:EQ)(bG ba:Int):Option (Unit⊕Bool):=
 bif decide (ba < bG) then (bif zB ba bB.length then ((OR k (bB.getD ba.toNat []) s1).bind fun x0=>
   bif !x0 then some (.inr false)
   else rec s1 bB bG (zA (ba+1)))
  else none)
 else some (.inl ())
def J2 (k:Nat):Nat→qRr
 |0,_,_,_,_=>none
 |n+1,s1,bB,bG,ba=>EN k (J2 k n) s1 bB bG ba
def OU (k:Nat)(a0:EQ)(a1:Int):Option Bool:=
 bif !(decide ((a0.length:Int)=a1)) then some false
 else(J2 k k a1 a0 (a0.length:Int) 0).bind fun z=>
 match z with
 |.inl z1=>some true
 |.inr z2=>some z2
abbrev qJv:Type:=(EQ×EQ×Int×Int)⊕Bool
abbrev qV6:Type:=EQ→Int→EQ→Int→Int→AC→Int→Int→Option qJv
def EP (k:Nat)(rec:qV6)(s0:EQ)(s3:Int)(s7:EQ)(s8 s9:Int)(bG:AC)(ba bZ:Int):Option qJv:=
 bif decide (bZ < ba) then (bif zB bZ bG.length then (bif zB bZ s0.length then (bif zB s3 (s0.getD bZ.toNat []).length then (bif !(decide (((s0.getD bZ.toNat []).getD s3.toNat 0)=(zA (0-(bG.getD bZ.toNat 0))))) then some (.inr false)
     else rec s0 s3 s7 s8 s9 bG ba (zA (bZ+1)))
    else none)
   else none)
  else none)
 else some (.inl (s0,s7,s8,s9))
def EO (k:Nat):Nat→qV6
 |0,_,_,_,_,_,_,_,_=>none
 |n+1,s0,s3,s7,s8,s9,bG,ba,bZ=>EP k (EO k n) s0 s3 s7 s8 s9 bG ba bZ
abbrev qXq:Type:=EQ→EQ→Int→Int→Option (Unit⊕Bool)
def ER (k:Nat)(rec:qXq)(s0 s7:EQ)(s8 s9:Int):Option (Unit⊕Bool):=
 bif decide (s9 < s8) then (bif zB s9 s7.length then ((EO k k s0 s9 s7 s8 s9 (s7.getD s9.toNat []) ((s7.getD s9.toNat []).length:Int) 0).bind fun z=>
   match z with
   |.inl z1=>rec z1.1 z1.2.1 z1.2.2.1 (zA (z1.2.2.2+1))
   |.inr z2=>some (.inr z2))
  else none)
 else some (.inl ())
def J3 (k:Nat):Nat→qXq
 |0,_,_,_,_=>none
 |n+1,s0,s7,s8,s9=>ER k (J3 k n) s0 s7 s8 s9
def OV (k:Nat)(a0:EQ):Option Bool:=
 (J3 k k a0 a0 (a0.length:Int) 0).bind fun z3=>
 match z3 with
 |.inl z4=>some true
 |.inr z5=>some z5
def Bw (k:Nat)(au:List zJ)(az:EQ)(ay:AC)(ax:EQ):Option Bool:=
 bif decide ((au.length:Int)<1) then some false
 else bif decide ((au.length:Int)>6) then some false
 else(OO k au).bind fun x0=>
 bif x0 then some false
 else(OT k az (au.length:Int)).bind fun x1=>
 bif x1 then ((J0 k ay (au.length:Int)).bind fun x2=>
  bif x2 then ((OU k ax (au.length:Int)).bind fun x3=>
   bif x3 then ((OV k ax).bind fun x4=>
    some x4)
   else some false)
  else some false)
 else some false
abbrev qOs:Type:=(List zJ)×EQ×AC×EQ×(List zJ)×EQ×AC×EQ
abbrev qP5:Type:=List zC→Int→Int→List zJ→EQ→AC→EQ→List zJ→EQ→AC→EQ→Option qOs
def E4 (k:Nat)(rec:qP5)(bz:List zC)(kq aV:Int)(af:List zJ)(ai:EQ)(aj:AC)(ah:EQ)(r3:List zJ)(m4:EQ)(r5:AC)(m6:EQ):Option qOs:=
 bif decide (aV < kq) then (bif zB aV bz.length then (bif zB (bz.getD aV.toNat (0, 0, 0, 0, 0, 0, 0)).2.1 r3.length then (bif zB (bz.getD aV.toNat (0, 0, 0, 0, 0, 0, 0)).2.2.1 r3.length then (let y0:List zJ:=(r3.set (bz.getD aV.toNat (0,0,0,0,0,0,0)).2.1.toNat ((zA ((r3.getD (bz.getD aV.toNat (0,0,0,0,0,0,0)).2.1.toNat (0,0,0)).1-(bz.getD aV.toNat (0,0,0,0,0,0,0)).2.2.2.1)),(r3.getD (bz.getD aV.toNat (0,0,0,0,0,0,0)).2.1.toNat (0,0,0)).2))
     let y1:List zJ:=(y0.set (bz.getD aV.toNat (0,0,0,0,0,0,0)).2.2.1.toNat ((zA ((y0.getD (bz.getD aV.toNat (0,0,0,0,0,0,0)).2.2.1.toNat (0,0,0)).1+(bz.getD aV.toNat (0,0,0,0,0,0,0)).2.2.2.1)),(y0.getD (bz.getD aV.toNat (0,0,0,0,0,0,0)).2.2.1.toNat (0,0,0)).2))
     bif !(decide ((bz.getD aV.toNat (0, 0, 0, 0, 0, 0, 0)).2.2.2.2.1 = 3)) then ((xy k (y1.getD (bz.getD aV.toNat (0,0,0,0,0,0,0)).2.1.toNat (0,0,0)).1 (y1.getD (bz.getD aV.toNat (0,0,0,0,0,0,0)).2.1.toNat (0,0,0)).2.1 (y1.getD (bz.getD aV.toNat (0,0,0,0,0,0,0)).2.1.toNat (0,0,0)).2.2 (bz.getD aV.toNat (0,0,0,0,0,0,0)).2.2.2.1).bind fun x2=>
      let y2:List zJ:=(y1.set (bz.getD aV.toNat (0,0,0,0,0,0,0)).2.1.toNat ((y1.getD (bz.getD aV.toNat (0,0,0,0,0,0,0)).2.1.toNat (0,0,0)).1,(y1.getD (bz.getD aV.toNat (0,0,0,0,0,0,0)).2.1.toNat (0,0,0)).2.1,x2))
      bif zB (bz.getD aV.toNat (0, 0, 0, 0, 0, 0, 0)).2.1 m6.length then (bif zB (bz.getD aV.toNat (0, 0, 0, 0, 0, 0, 0)).2.2.1 (m6.getD (bz.getD aV.toNat (0, 0, 0, 0, 0, 0, 0)).2.1.toNat []).length then (bif zB (bz.getD aV.toNat (0, 0, 0, 0, 0, 0, 0)).2.2.1 (m6.getD (bz.getD aV.toNat (0, 0, 0, 0, 0, 0, 0)).2.1.toNat []).length then (let y3:EQ:=(m6.set (bz.getD aV.toNat (0,0,0,0,0,0,0)).2.1.toNat ((m6.getD (bz.getD aV.toNat (0,0,0,0,0,0,0)).2.1.toNat []).set (bz.getD aV.toNat (0,0,0,0,0,0,0)).2.2.1.toNat (zA (((m6.getD (bz.getD aV.toNat (0,0,0,0,0,0,0)).2.1.toNat []).getD (bz.getD aV.toNat (0,0,0,0,0,0,0)).2.2.1.toNat 0)+(bz.getD aV.toNat (0,0,0,0,0,0,0)).2.2.2.1))))
         bif zB (bz.getD aV.toNat (0, 0, 0, 0, 0, 0, 0)).2.2.1 y3.length then (bif zB (bz.getD aV.toNat (0, 0, 0, 0, 0, 0, 0)).2.1 (y3.getD (bz.getD aV.toNat (0, 0, 0, 0, 0, 0, 0)).2.2.1.toNat []).length then (bif zB (bz.getD aV.toNat (0, 0, 0, 0, 0, 0, 0)).2.1 (y3.getD (bz.getD aV.toNat (0, 0, 0, 0, 0, 0, 0)).2.2.1.toNat []).length then (let y4:EQ:=(y3.set (bz.getD aV.toNat (0,0,0,0,0,0,0)).2.2.1.toNat ((y3.getD (bz.getD aV.toNat (0,0,0,0,0,0,0)).2.2.1.toNat []).set (bz.getD aV.toNat (0,0,0,0,0,0,0)).2.1.toNat (zA (((y3.getD (bz.getD aV.toNat (0,0,0,0,0,0,0)).2.2.1.toNat []).getD (bz.getD aV.toNat (0,0,0,0,0,0,0)).2.1.toNat 0)-(bz.getD aV.toNat (0,0,0,0,0,0,0)).2.2.2.1))))
            rec bz kq (zA (aV+1)) af ai aj ah y2 m4 r5 y4)
           else none)
          else none)
         else none)
        else none)
       else none)
      else none)
     else bif zB (bz.getD aV.toNat (0, 0, 0, 0, 0, 0, 0)).2.1 m6.length then (bif zB (bz.getD aV.toNat (0, 0, 0, 0, 0, 0, 0)).2.2.1 (m6.getD (bz.getD aV.toNat (0, 0, 0, 0, 0, 0, 0)).2.1.toNat []).length then (bif zB (bz.getD aV.toNat (0, 0, 0, 0, 0, 0, 0)).2.2.1 (m6.getD (bz.getD aV.toNat (0, 0, 0, 0, 0, 0, 0)).2.1.toNat []).length then (let y5:EQ:=(m6.set (bz.getD aV.toNat (0,0,0,0,0,0,0)).2.1.toNat ((m6.getD (bz.getD aV.toNat (0,0,0,0,0,0,0)).2.1.toNat []).set (bz.getD aV.toNat (0,0,0,0,0,0,0)).2.2.1.toNat (zA (((m6.getD (bz.getD aV.toNat (0,0,0,0,0,0,0)).2.1.toNat []).getD (bz.getD aV.toNat (0,0,0,0,0,0,0)).2.2.1.toNat 0)+(bz.getD aV.toNat (0,0,0,0,0,0,0)).2.2.2.1))))
        bif zB (bz.getD aV.toNat (0, 0, 0, 0, 0, 0, 0)).2.2.1 y5.length then (bif zB (bz.getD aV.toNat (0, 0, 0, 0, 0, 0, 0)).2.1 (y5.getD (bz.getD aV.toNat (0, 0, 0, 0, 0, 0, 0)).2.2.1.toNat []).length then (bif zB (bz.getD aV.toNat (0, 0, 0, 0, 0, 0, 0)).2.1 (y5.getD (bz.getD aV.toNat (0, 0, 0, 0, 0, 0, 0)).2.2.1.toNat []).length then (let y6:EQ:=(y5.set (bz.getD aV.toNat (0,0,0,0,0,0,0)).2.2.1.toNat ((y5.getD (bz.getD aV.toNat (0,0,0,0,0,0,0)).2.2.1.toNat []).set (bz.getD aV.toNat (0,0,0,0,0,0,0)).2.1.toNat (zA (((y5.getD (bz.getD aV.toNat (0,0,0,0,0,0,0)).2.2.1.toNat []).getD (bz.getD aV.toNat (0,0,0,0,0,0,0)).2.1.toNat 0)-(bz.getD aV.toNat (0,0,0,0,0,0,0)).2.2.2.1))))
           rec bz kq (zA (aV+1)) af ai aj ah y1 m4 r5 y6)
          else none)
         else none)
        else none)
       else none)
      else none)
     else none)
    else none)
   else none)
  else none)
 else some (af,ai,aj,ah,r3,m4,r5,m6)
def E3 (k:Nat):Nat→qP5
 |0,_,_,_,_,_,_,_,_,_,_,_=>none
 |n+1,bz,kq,aV,af,ai,aj,ah,r3,m4,r5,m6=>E4 k (E3 k n) bz kq aV af ai aj ah r3 m4 r5 m6
def qt (k:Nat)(au:List zJ)(az:EQ)(ay:AC)(ax:EQ)(a1:List zC):Option ((List zJ)×EQ×AC×EQ×Int):=
 bif decide ((a1.length:Int)>64) then some (au,az,ay,ax,1)
 else(O0 k a1 au az ay ax).bind fun x0=>
 bif x0 then some (au,az,ay,ax,1)
 else(gF k au az ay ax).bind fun x1=>
 (E3 k k a1 (a1.length:Int) 0 au az ay ax x1.1 x1.2.1 x1.2.2.1 x1.2.2.2).bind fun z=>
 (Bw k z.2.2.2.2.1 z.2.2.2.2.2.1 z.2.2.2.2.2.2.1 z.2.2.2.2.2.2.2).bind fun x3=>
 bif !x3 then some (wA z 8)
 else some (yLp z 0)
abbrev qPc:Type:=((List zJ)×EQ×AC×EQ×Int×Int×Int×Int×Int×Int×Int)⊕(Bool×Int×Int×Int×Int×Int×Int×Int×(List zJ)×EQ×AC×EQ)
abbrev qSz:Type:=Int→Int→List zJ→EQ→AC→EQ→Int→Int→Int→Int→Int→Int→Int→List zC→Option qPc
def F6 (k:Nat)(rec:qSz)(bZ bn:Int)(af:List zJ)(ai:EQ)(aj:AC)(ah:EQ)(av aB aC aE aG aH aI:Int)(r3:List zC):Option qPc:=
 bif decide (bn < bZ) then (bif zB bn r3.length then ((BF k af ai aj ah [(r3.getD bn.toNat (0,0,0,0,0,0,0))]).bind fun x1=>
   bif !x1 then(rec bZ (zA (bn+1)) af ai aj ah av aB aC aE aG aH aI r3)
   else(qt k af ai aj ah [(r3.getD bn.toNat (0,0,0,0,0,0,0))]).bind fun x2=>
   bif decide (x2.2.2.2.2=0) then some (.inr (true,(gi (r3.getD bn.toNat (0,0,0,0,0,0,0)) (wS x2))))
   else rec bZ (zA (bn+1)) af ai aj ah av aB aC aE aG aH aI r3)
  else none)
 else some (.inl (af,ai,aj,ah,av,aB,aC,aE,aG,aH,aI))
def KU (k:Nat):Nat→qSz
 |0,_,_,_,_,_,_,_,_,_,_,_,_,_,_=>none
 |n+1,bZ,bn,af,ai,aj,ah,av,aB,aC,aE,aG,aH,aI,r3=>F6 k (KU k n) bZ bn af ai aj ah av aB aC aE aG aH aI r3
def PN (k:Nat)(au:List zJ)(az:EQ)(ay:AC)(ax:EQ)(a1:List zC)(a2:Int):Option (Int×Int×Int×Int×Int×Int×Int×(List zJ)×EQ×AC×EQ×Bool):=
 (KG k a1 a2).bind fun x0=>
 (KU k k (x0.length:Int) 0 au az ay ax 0 0 0 0 0 0 0 x0).bind fun z=>
 match z with
 |.inl z1=>some (0,0,0,0,0,0,0,(wA z1 false))
 |.inr z2=>some (adU z2 z2.1)
abbrev qZg:Type:=(List zC)×(List zJ)×EQ×AC×EQ×(List zC)
abbrev qQk:Type:=Int→List zC→List zJ→EQ→AC→EQ→List zC→Option qZg
def F8 (k:Nat)(rec:qQk)(s2:Int)(s7:List zC)(af:List zJ)(ai:EQ)(aj:AC)(ah:EQ)(r1:List zC):Option qZg:=
 (PN k af ai aj ah s7 s2).bind fun x0=>
 bif !x0.2.2.2.2.2.2.2.2.2.2.2 then some (s7,af,ai,aj,ah,r1)
 else(qu k s7 x0.1).bind fun x1=>
 bif zL (r1.length + 1) 56 then (let y0:List zC:=(r1++[(vV x0)])
  rec s2 x1.1 x0.2.2.2.2.2.2.2.1 x0.2.2.2.2.2.2.2.2.1 x0.2.2.2.2.2.2.2.2.2.1 x0.2.2.2.2.2.2.2.2.2.2.1 y0)
 else none
def KV (k:Nat):Nat→qQk
 |0,_,_,_,_,_,_,_=>none
 |n+1,s2,s7,af,ai,aj,ah,r1=>F8 k (KV k n) s2 s7 af ai aj ah r1
def PO (k:Nat)(au:List zJ)(az:EQ)(ay:AC)(ax:EQ)(a1:List zC)(a2:Int):Option tq:=
 (KV k k a2 a1 au az ay ax []).bind fun z=>
 some (iG z (z.1,z.2.2.2.2.2))
abbrev qNs:Type:=(Int×Int×(List zJ)×EQ×AC×EQ×Int×Int×Int×Int×Int×Int×Int×Int×Int×Int×Int×Int×Int×Int×(List zC))⊕yW8
abbrev qPw:Type:=Int→Int→Int→Int→List zJ→EQ→AC→EQ→Int→Int→Int→Int→Int→Int→Int→Int→Int→Int→Int→Int→Int→Int→List zC→Int→Int→Int→Int→Int→Int→Int→Option qNs
def Gc (k:Nat)(rec:qPw)(dJ cL kq aV:Int)(af:List zJ)(ai:EQ)(aj:AC)(ah:EQ)(av aB aC aE aG aH aI cC cD bI aU cm cn cp:Int)(r2:List zC)(cj cZ dj ig ij ik il:Int):Option qNs:=
 bif decide (aV < kq) then (bif zB aV r2.length then (bif !(decide ((r2.getD aV.toNat (0,0,0,0,0,0,0)).2.1=dj)) then(rec dJ cL kq (zA (aV+1)) af ai aj ah av aB aC aE aG aH aI cC cD bI aU cm cn cp r2 cj cZ dj ig ij ik il)
   else bif !(decide ((r2.getD aV.toNat (0,0,0,0,0,0,0)).2.2.1=cZ)) then(rec dJ cL kq (zA (aV+1)) af ai aj ah av aB aC aE aG aH aI cC cD bI aU cm cn cp r2 cj cZ dj ig ij ik il)
   else bif decide (cZ≥(r2.getD aV.toNat (0,0,0,0,0,0,0)).2.1) then(rec dJ cL kq (zA (aV+1)) af ai aj ah av aB aC aE aG aH aI cC cD bI aU cm cn cp r2 cj cZ dj ig ij ik il)
   else(BF k af ai aj ah [(cj,cZ,dj,ig,ij,ik,il),(r2.getD aV.toNat (0,0,0,0,0,0,0))]).bind fun x1=>
   bif !x1 then(rec dJ cL kq (zA (aV+1)) af ai aj ah av aB aC aE aG aH aI cC cD bI aU cm cn cp r2 cj cZ dj ig ij ik il)
   else(qt k af ai aj ah [(cj,cZ,dj,ig,ij,ik,il),(r2.getD aV.toNat (0,0,0,0,0,0,0))]).bind fun x2=>
   bif decide (x2.2.2.2.2=0) then some (.inr (true,cj,cZ,dj,ig,ij,ik,il,(gi (r2.getD aV.toNat (0,0,0,0,0,0,0)) (wS x2))))
   else rec dJ cL kq (zA (aV+1)) af ai aj ah av aB aC aE aG aH aI cC cD bI aU cm cn cp r2 cj cZ dj ig ij ik il)
  else none)
 else some (.inl (dJ,cL,af,ai,aj,ah,av,aB,aC,aE,aG,aH,aI,cC,cD,bI,aU,cm,cn,cp,r2))
def KW (k:Nat):Nat→qPw
 |0,_,_,_,_,_,_,_,_,_,_,_,_,_,_,_,_,_,_,_,_,_,_,_,_,_,_,_,_,_,_=>none
 |n+1,dJ,cL,kq,aV,af,ai,aj,ah,av,aB,aC,aE,aG,aH,aI,cC,cD,bI,aU,cm,cn,cp,r2,cj,cZ,dj,ig,ij,ik,il=>Gc k (KW k n) dJ cL kq aV af ai aj ah av aB aC aE aG aH aI cC cD bI aU cm cn cp r2 cj cZ dj ig ij ik il
abbrev qX6:Type:=(Int×Int×Int×Int×Int×Int×Int×Int×Int×Int×Int×Int×Int×Int)⊕yW8
abbrev qWp:Type:=Int→Int→List zJ→EQ→AC→EQ→Int→Int→Int→Int→Int→Int→Int→Int→Int→Int→Int→Int→Int→Int→List zC→Option qX6
def Gd (k:Nat)(rec:qWp)(dJ cL:Int)(af:List zJ)(ai:EQ)(aj:AC)(ah:EQ)(av aB aC aE aG aH aI cC cD bI aU cm cn cp:Int)(r2:List zC):Option qX6:=
 bif decide (cL < dJ) then (bif zB cL r2.length then ((KW k k dJ cL (r2.length:Int) 0 af ai aj ah av aB aC aE aG aH aI cC cD bI aU cm cn cp r2 (r2.getD cL.toNat (0,0,0,0,0,0,0)).1 (r2.getD cL.toNat (0,0,0,0,0,0,0)).2.1 (r2.getD cL.toNat (0,0,0,0,0,0,0)).2.2.1 (r2.getD cL.toNat (0,0,0,0,0,0,0)).2.2.2.1 (r2.getD cL.toNat (0,0,0,0,0,0,0)).2.2.2.2.1 (r2.getD cL.toNat (0,0,0,0,0,0,0)).2.2.2.2.2.1 (r2.getD cL.toNat (0,0,0,0,0,0,0)).2.2.2.2.2.2).bind fun z=>
   match z with
   |.inl z1=>rec z1.1 (zA (z1.2.1+1)) z1.2.2.1 z1.2.2.2.1 z1.2.2.2.2.1 z1.2.2.2.2.2.1 z1.2.2.2.2.2.2.1 z1.2.2.2.2.2.2.2.1 z1.2.2.2.2.2.2.2.2.1 z1.2.2.2.2.2.2.2.2.2.1 z1.2.2.2.2.2.2.2.2.2.2.1 z1.2.2.2.2.2.2.2.2.2.2.2.1 z1.2.2.2.2.2.2.2.2.2.2.2.2.1 z1.2.2.2.2.2.2.2.2.2.2.2.2.2.1 z1.2.2.2.2.2.2.2.2.2.2.2.2.2.2.1 z1.2.2.2.2.2.2.2.2.2.2.2.2.2.2.2.1 z1.2.2.2.2.2.2.2.2.2.2.2.2.2.2.2.2.1 z1.2.2.2.2.2.2.2.2.2.2.2.2.2.2.2.2.2.1 z1.2.2.2.2.2.2.2.2.2.2.2.2.2.2.2.2.2.2.1 z1.2.2.2.2.2.2.2.2.2.2.2.2.2.2.2.2.2.2.2.1 z1.2.2.2.2.2.2.2.2.2.2.2.2.2.2.2.2.2.2.2.2
   |.inr z2=>some (.inr (z2.1,z2.2.1,z2.2.2.1,z2.2.2.2.1,z2.2.2.2.2.1,z2.2.2.2.2.2.1,z2.2.2.2.2.2.2.1,z2.2.2.2.2.2.2.2.1,z2.2.2.2.2.2.2.2.2.1,z2.2.2.2.2.2.2.2.2.2.1,z2.2.2.2.2.2.2.2.2.2.2.1,z2.2.2.2.2.2.2.2.2.2.2.2.1,z2.2.2.2.2.2.2.2.2.2.2.2.2.1,z2.2.2.2.2.2.2.2.2.2.2.2.2.2.1,z2.2.2.2.2.2.2.2.2.2.2.2.2.2.2.1,z2.2.2.2.2.2.2.2.2.2.2.2.2.2.2.2.1,z2.2.2.2.2.2.2.2.2.2.2.2.2.2.2.2.2.1,z2.2.2.2.2.2.2.2.2.2.2.2.2.2.2.2.2.2.1,z2.2.2.2.2.2.2.2.2.2.2.2.2.2.2.2.2.2.2)))
  else none)
 else some (.inl (av,aB,aC,aE,aG,aH,aI,cC,cD,bI,aU,cm,cn,cp))
def KY (k:Nat):Nat→qWp
 |0,_,_,_,_,_,_,_,_,_,_,_,_,_,_,_,_,_,_,_,_,_=>none
 |n+1,dJ,cL,af,ai,aj,ah,av,aB,aC,aE,aG,aH,aI,cC,cD,bI,aU,cm,cn,cp,r2=>Gd k (KY k n) dJ cL af ai aj ah av aB aC aE aG aH aI cC cD bI aU cm cn cp r2
def PR (k:Nat)(au:List zJ)(az:EQ)(ay:AC)(ax:EQ)(a1:List zC)(a2:Int):Option (Int×Int×Int×Int×Int×Int×Int×Int×Int×Int×Int×Int×Int×Int×(List zJ)×EQ×AC×EQ×Bool):=
 (KG k a1 a2).bind fun x0=>
 (KY k k (x0.length:Int) 0 au az ay ax 0 0 0 0 0 0 0 0 0 0 0 0 0 0 x0).bind fun z3=>
 match z3 with
 |.inl z4=>some (0,0,0,0,0,0,0,0,0,0,0,0,0,0,[],[],[],[],false)
 |.inr z5=>some (qOc z5 z5.1)
abbrev qU7:Type:=Int×(List zC)×(List zJ)×EQ×AC×EQ×(List zC)
abbrev qLa:Type:=Int→List zC→Int→Int→List zJ→EQ→AC→EQ→List zC→List zC→Option qU7
def xJ (k:Nat)(rec:qLa)(s2:Int)(s7:List zC)(C3 tv:Int)(af:List zJ)(ai:EQ)(aj:AC)(ah:EQ)(r1 r2:List zC):Option qU7:=
 bif decide (tv < C3) then (bif zB tv r2.length then ((qu k s7 (r2.getD tv.toNat (0,0,0,0,0,0,0)).1).bind fun x1=>
   bif zL (r1.length + 1) 56 then (let y0:List zC:=(r1++[(r2.getD tv.toNat (0,0,0,0,0,0,0))])
    rec s2 x1.1 C3 (zA (tv+1)) af ai aj ah y0 r2)
   else none)
  else none)
 else some (s2,s7,af,ai,aj,ah,r1)
def xI (k:Nat):Nat→qLa
 |0,_,_,_,_,_,_,_,_,_,_=>none
 |n+1,s2,s7,C3,tv,af,ai,aj,ah,r1,r2=>xJ k (xI k n) s2 s7 C3 tv af ai aj ah r1 r2
def Ge (k:Nat)(rec:qQk)(s2:Int)(s7:List zC)(af:List zJ)(ai:EQ)(aj:AC)(ah:EQ)(r1:List zC):Option qZg:=
 (PR k af ai aj ah s7 s2).bind fun x0=>
 bif !x0.2.2.2.2.2.2.2.2.2.2.2.2.2.2.2.2.2.2 then some (s7,af,ai,aj,ah,r1)
 else(xI k k s2 s7 2 0 x0.2.2.2.2.2.2.2.2.2.2.2.2.2.2.1 x0.2.2.2.2.2.2.2.2.2.2.2.2.2.2.2.1 x0.2.2.2.2.2.2.2.2.2.2.2.2.2.2.2.2.1 x0.2.2.2.2.2.2.2.2.2.2.2.2.2.2.2.2.2.1 r1 [(vV x0),(yCg x0)]).bind fun z=>
 rec z.1 z.2.1 z.2.2.1 z.2.2.2.1 z.2.2.2.2.1 z.2.2.2.2.2.1 z.2.2.2.2.2.2
def KZ (k:Nat):Nat→qQk
 |0,_,_,_,_,_,_,_=>none
 |n+1,s2,s7,af,ai,aj,ah,r1=>Ge k (KZ k n) s2 s7 af ai aj ah r1
def PT (k:Nat)(au:List zJ)(az:EQ)(ay:AC)(ax:EQ)(a1:List zC)(a2:Int):Option tq:=
 (KZ k k a2 a1 au az ay ax []).bind fun z1=>
 some (iG z1 (z1.1,z1.2.2.2.2.2))
def P0 (k:Nat)(rec:qQk)(s2:Int)(s7:List zC)(af:List zJ)(ai:EQ)(aj:AC)(ah:EQ)(r1:List zC):Option qZg:=
 (PO k af ai aj ah s7 s2).bind fun x0=>
 (PT k x0.1 x0.2.1 x0.2.2.1 x0.2.2.2.1 x0.2.2.2.2.1 s2).bind fun x1=>
 bif zL (r1.length + x0.2.2.2.2.2.length) 56 then (bif zL ((r1 ++ x0.2.2.2.2.2).length + x1.2.2.2.2.2.length) 56 then (let y0:List zC:=((r1++x0.2.2.2.2.2)++x1.2.2.2.2.2)
   bif decide ((x1.2.2.2.2.2.length:Int)=0) then some (x1.2.2.2.2.1,(wA x1 y0))
   else rec s2 x1.2.2.2.2.1 x1.1 x1.2.1 x1.2.2.1 x1.2.2.2.1 y0)
  else none)
 else none
def K6 (k:Nat):Nat→qQk
 |0,_,_,_,_,_,_,_=>none
 |n+1,s2,s7,af,ai,aj,ah,r1=>P0 k (K6 k n) s2 s7 af ai aj ah r1
def K7 (k:Nat)(au:List zJ)(az:EQ)(ay:AC)(ax:EQ)(a1:List zC)(a2:Int):Option tq:=
 (K6 k k a2 a1 au az ay ax []).bind fun z=>
 some (iG z (z.1,z.2.2.2.2.2))
def X2 (k:Nat)(a0:AC):Option AC:=
 bif zL (0+a0.length) 8 then some a0
 else none
def X4 (k:Nat)(cf bg bD ct bQ cc bT:Int)(a1:AC):Option (Bool×AC):=
 bif decide (bg<0) then some (false,a1)
 else bif decide (bg≥(a1.length:Int)) then some (false,a1)
 else bif zB bg a1.length then (bif decide ((a1.getD bg.toNat 0)<1) then some (false,a1)
  else bif zB bg a1.length then (bif zB bg a1.length then some (true,(a1.set bg.toNat (zA ((a1.getD bg.toNat 0)-1))))
   else none)
  else none)
 else none
abbrev qM8:Type:=AC×(List zC)
abbrev qVv:Type:=List zC→Int→Int→AC→List zC→Option qM8
def Gj (k:Nat)(rec:qVv)(s8:List zC)(s9 aw:Int)(r1:AC)(r2:List zC):Option qM8:=
 bif decide (aw < s9) then (bif zB aw s8.length then ((X4 k (s8.getD aw.toNat (0,0,0,0,0,0,0)).1 (s8.getD aw.toNat (0,0,0,0,0,0,0)).2.1 (s8.getD aw.toNat (0,0,0,0,0,0,0)).2.2.1 (s8.getD aw.toNat (0,0,0,0,0,0,0)).2.2.2.1 (s8.getD aw.toNat (0,0,0,0,0,0,0)).2.2.2.2.1 (s8.getD aw.toNat (0,0,0,0,0,0,0)).2.2.2.2.2.1 (s8.getD aw.toNat (0,0,0,0,0,0,0)).2.2.2.2.2.2 r1).bind fun x0=>
   bif x0.1 then (bif zL (r2.length + 1) 56 then (let y0:List zC:=(r2++[(s8.getD aw.toNat (0,0,0,0,0,0,0))])
     rec s8 s9 (zA (aw+1)) x0.2 y0)
    else none)
   else rec s8 s9 (zA (aw+1)) x0.2 r2)
  else none)
 else some (r1,r2)
def Gh (k:Nat):Nat→qVv
 |0,_,_,_,_,_=>none
 |n+1,s8,s9,aw,r1,r2=>Gj k (Gh k n) s8 s9 aw r1 r2
def X3 (k:Nat)(a0:List zC)(cW:AC):Option ((List zC)×AC):=
 (Gh k k a0 (a0.length:Int) 0 cW []).bind fun z=>
 some (z.2,z.1)
def Gg (k:Nat)(a0:List zC)(a1:AC):Option (List zC):=
 (X2 k a1).bind fun x0=>
 (X3 k a0 x0).bind fun x1=>
 some x1.1
abbrev qLy:Type:=Int×(List zJ)×EQ×AC×EQ×AC×(List zC)
abbrev yB6:Type:=Int→Int→Int→List zJ→EQ→AC→EQ→AC→List zC→Option qLy
def Gl (k:Nat)(rec:yB6)(s7 lq dJ:Int)(af:List zJ)(ai:EQ)(aj:AC)(ah:EQ)(r1:AC)(r2:List zC):Option qLy:=
 bif decide (dJ < lq) then ((K3 k r2 dJ).bind fun x1=>
  bif zL (r1.length+1) 8 then(rec s7 lq (zA (dJ+1)) af ai aj ah (r1++[(x1.length:Int)]) r2)
  else none)
 else some (s7,af,ai,aj,ah,r1,r2)
def BR (k:Nat):Nat→yB6
 |0,_,_,_,_,_,_,_,_,_=>none
 |n+1,s7,lq,dJ,af,ai,aj,ah,r1,r2=>Gl k (BR k n) s7 lq dJ af ai aj ah r1 r2
abbrev yB8:Type:=Int→Int→Int→List zJ→EQ→AC→EQ→AC→List zC→AC→Option qLy
def Gn (k:Nat)(rec:yB8)(s7 SJ oL:Int)(af:List zJ)(ai:EQ)(aj:AC)(ah:EQ)(r1:AC)(r2:List zC)(r3:AC):Option qLy:=
 bif decide (oL < SJ) then (bif zB oL r3.length then (bif zB (r3.getD oL.toNat 0) r1.length then (bif zB (r3.getD oL.toNat 0) r1.length then (let y0:AC:=(r1.set (r3.getD oL.toNat 0).toNat (zA ((r1.getD (r3.getD oL.toNat 0).toNat 0)-1)))
     rec s7 SJ (zA (oL+1)) af ai aj ah y0 r2 r3)
    else none)
   else none)
  else none)
 else some (s7,af,ai,aj,ah,r1,r2)
def Gm (k:Nat):Nat→yB8
 |0,_,_,_,_,_,_,_,_,_,_=>none
 |n+1,s7,SJ,oL,af,ai,aj,ah,r1,r2,r3=>Gn k (Gm k n) s7 SJ oL af ai aj ah r1 r2 r3
abbrev yCr:Type:=Int→List zJ→EQ→AC→EQ→AC→List zC→Option (Int×AC)
def Gp (k:Nat)(rec:yCr)(s7:Int)(af:List zJ)(ai:EQ)(aj:AC)(ah:EQ)(r1:AC)(r2:List zC):Option (Int×AC):=
 (Gg k r2 r1).bind fun x2=>
 (BE k af ai aj ah x2).bind fun x3=>
 bif decide ((x3.length:Int)=0) then some ((zA (s7+1)),r1)
 else(Gm k k (zA (s7+1)) (x3.length:Int) 0 af ai aj ah r1 r2 x3).bind fun z1=>
 rec z1.1 z1.2.1 z1.2.2.1 z1.2.2.2.1 z1.2.2.2.2.1 z1.2.2.2.2.2.1 z1.2.2.2.2.2.2
def K5 (k:Nat):Nat→yCr
 |0,_,_,_,_,_,_,_=>none
 |n+1,s7,af,ai,aj,ah,r1,r2=>Gp k (K5 k n) s7 af ai aj ah r1 r2
def PX (k:Nat)(au:List zJ)(az:EQ)(ay:AC)(ax:EQ)(a1:List zC)(a2:Int):Option (AC×Int):=
 (Fx k a1 a2).bind fun x0=>
 (BR k k 0 (au.length:Int) 0 au az ay ax [] x0).bind fun z=>
 (K5 k k z.1 z.2.1 z.2.2.1 z.2.2.2.1 z.2.2.2.2.1 z.2.2.2.2.2.1 z.2.2.2.2.2.2).bind fun z2=>
 some (z2.2,z2.1)
abbrev qPn:Type:=List zC→Int→Int→List zJ→EQ→AC→EQ→List zC→Option qZg
def Gq (k:Nat)(rec:qPn)(s7:List zC)(lP gM:Int)(af:List zJ)(ai:EQ)(aj:AC)(ah:EQ)(r1:List zC):Option qZg:=
 bif decide (gM < lP) then (bif zB gM r1.length then ((qu k s7 (r1.getD gM.toNat (0,0,0,0,0,0,0)).1).bind fun x4=>
   rec x4.1 lP (zA (gM+1)) af ai aj ah r1)
  else none)
 else some (s7,af,ai,aj,ah,r1)
def BS (k:Nat):Nat→qPn
 |0,_,_,_,_,_,_,_,_=>none
 |n+1,s7,lP,gM,af,ai,aj,ah,r1=>Gq k (BS k n) s7 lP gM af ai aj ah r1
def BU (k:Nat)(au:List zJ)(az:EQ)(ay:AC)(ax:EQ)(a1:List zC)(a2:Int):Option tq:=
 (PX k au az ay ax a1 a2).bind fun x0=>
 (Fx k a1 a2).bind fun x1=>
 (Gg k x1 x0.1).bind fun x2=>
 (qt k au az ay ax x2).bind fun x3=>
 bif !(decide (x3.2.2.2.2=0)) then some (au,az,ay,ax,a1,[])
 else(BS k k a1 (x2.length:Int) 0 x3.1 x3.2.1 x3.2.2.1 x3.2.2.2.1 x2).bind fun z=>
 some (iG z (z.1,z.2.2.2.2.2))
def uN (k:Nat)(au:List zJ)(az:EQ)(ay:AC)(ax:EQ)(a1:List zC)(a2:Int)(a3:Bool):Option tq:=
 (K7 k au az ay ax a1 a2).bind fun x0=>
 bif !a3 then some (x0.1,x0.2.1,x0.2.2.1,x0.2.2.2.1,x0.2.2.2.2.1,x0.2.2.2.2.2)
 else(BU k x0.1 x0.2.1 x0.2.2.1 x0.2.2.2.1 x0.2.2.2.2.1 a2).bind fun x1=>
 bif decide ((x1.2.2.2.2.2.length:Int)=0) then some (pL x1 x0.2.2.2.2.2)
 else(K7 k x1.1 x1.2.1 x1.2.2.1 x1.2.2.2.1 x1.2.2.2.2.1 a2).bind fun x2=>
 bif zL (x0.2.2.2.2.2.length + x1.2.2.2.2.2.length) 56 then (bif zL ((x0.2.2.2.2.2 ++ x1.2.2.2.2.2).length + x2.2.2.2.2.2.length) 56 then (let y0:List zC:=((x0.2.2.2.2.2++x1.2.2.2.2.2)++x2.2.2.2.2.2)
   some (pL x2 y0))
  else none)
 else none
abbrev qQw:Type:=(List zC)×Int×Int×(List qE)
abbrev qO4:Type:=List zC→Int→Int→Int→Int→List qE→Int→Int→Int→Int→Int→Int→Int→AC→Option qQw
def xP (k:Nat)(rec:qO4)(s8:List zC)(s9 aw dJ cL:Int)(r0:List qE)(av aB aC aE aG aH aI:Int)(r2:AC):Option qQw:=
 bif decide (cL < dJ) then (bif zB cL r2.length then ((re k (r2.getD cL.toNat 0) 18 [av,aB,aC,aE]).bind fun x0=>
   bif zL (r0.length+1) 64 then(rec s8 s9 aw dJ (zA (cL+1)) (r0++[x0]) av aB aC aE aG aH aI r2)
   else none)
  else none)
 else some (s8,s9,aw,r0)
def xO (k:Nat):Nat→qO4
 |0,_,_,_,_,_,_,_,_,_,_,_,_,_,_=>none
 |n+1,s8,s9,aw,dJ,cL,r0,av,aB,aC,aE,aG,aH,aI,r2=>xP k (xO k n) s8 s9 aw dJ cL r0 av aB aC aE aG aH aI r2
abbrev qLt:Type:=List qE
abbrev qQf:Type:=List zC→Int→Int→List qE→Option qLt
def Gs (k:Nat)(rec:qQf)(s8:List zC)(s9 aw:Int)(r0:List qE):Option qLt:=
 bif decide (aw < s9) then (bif zB aw s8.length then ((xO k k s8 s9 aw 2 0 r0 (s8.getD aw.toNat (0,0,0,0,0,0,0)).1 (s8.getD aw.toNat (0,0,0,0,0,0,0)).2.1 (s8.getD aw.toNat (0,0,0,0,0,0,0)).2.2.1 (s8.getD aw.toNat (0,0,0,0,0,0,0)).2.2.2.1 (s8.getD aw.toNat (0,0,0,0,0,0,0)).2.2.2.2.1 (s8.getD aw.toNat (0,0,0,0,0,0,0)).2.2.2.2.2.1 (s8.getD aw.toNat (0,0,0,0,0,0,0)).2.2.2.2.2.2 [(s8.getD aw.toNat (0,0,0,0,0,0,0)).2.1,(s8.getD aw.toNat (0,0,0,0,0,0,0)).2.2.1]).bind fun z=>
   rec z.1 z.2.1 (zA (z.2.2.1+1)) z.2.2.2)
  else none)
 else some r0
def K8 (k:Nat):Nat→qQf
 |0,_,_,_,_=>none
 |n+1,s8,s9,aw,r0=>Gs k (K8 k n) s8 s9 aw r0
def P1 (k:Nat)(a0:List zC):Option (List qE):=
 (K8 k k a0 (a0.length:Int) 0 []).bind fun z1=>
 some z1
def pC (k:Nat)(mG:Int)(rz:List zJ)(rA:EQ)(rC:AC)(rD:EQ)(rE:AC)(rF:EQ)(mH:List zC)(rG:AC)(rH:Int)(rI a1:Bool):Option Su:=
 (uN k rz rA rC rD mH mG a1).bind fun x0=>
 (P1 k x0.2.2.2.2.2).bind fun x1=>
 some (mG,(wA x0 (rE,rF,x0.2.2.2.2.1,rG,rH,rI,x1)))
abbrev qKt:Type:=Int×(List wC)×Int×Int×Int×Int×(List zJ)×EQ×AC×EQ×AC×EQ×(List zC)×AC×Int×Bool×Int×Int×Bool×(List qE)×(List zC)
abbrev qMk:Type:=List zC→Int→Int→Int→List wC→Int→Int→Int→Int→List zJ→EQ→AC→EQ→AC→EQ→List zC→AC→Int→Bool→Int→Int→Bool→List qE→List zC→Option qKt
def GA (k:Nat)(rec:qMk)(fT:List zC)(lQ fU af:Int)(ai:List wC)(aj ah aX av:Int)(aB:List zJ)(aC:EQ)(aE:AC)(aG:EQ)(aH:AC)(aI:EQ)(cC:List zC)(cD:AC)(bI:Int)(aU:Bool)(aZ rM:Int)(lu:Bool)(r3:List qE)(r4:List zC):Option qKt:=
 bif decide (fU < lQ) then (bif zB fU fT.length then ((Yi k (fT.getD fU.toNat (0,0,0,0,0,0,0)).1 (fT.getD fU.toNat (0,0,0,0,0,0,0)).2.1 (fT.getD fU.toNat (0,0,0,0,0,0,0)).2.2.1 (fT.getD fU.toNat (0,0,0,0,0,0,0)).2.2.2.1 (fT.getD fU.toNat (0,0,0,0,0,0,0)).2.2.2.2.1 (fT.getD fU.toNat (0,0,0,0,0,0,0)).2.2.2.2.2.1 (fT.getD fU.toNat (0,0,0,0,0,0,0)).2.2.2.2.2.2 av).bind fun x2=>
   bif x2 then ((re k (fT.getD fU.toNat (0,0,0,0,0,0,0)).2.1 21 [(fT.getD fU.toNat (0,0,0,0,0,0,0)).1]).bind fun x3=>
    bif zL (r3.length+1) 64 then(rec fT lQ (zA (fU+1)) af ai aj ah aX av aB aC aE aG aH aI cC cD bI aU aZ rM lu (r3++[x3]) r4)
    else none)
   else bif zL (r4.length + 1) 56 then (let y0:List zC:=(r4++[(fT.getD fU.toNat (0,0,0,0,0,0,0))])
    rec fT lQ (zA (fU+1)) af ai aj ah aX av aB aC aE aG aH aI cC cD bI aU aZ rM lu r3 y0)
   else none)
  else none)
 else some (af,ai,aj,ah,aX,av,aB,aC,aE,aG,aH,aI,cC,cD,bI,aU,aZ,rM,lu,r3,r4)
def Gz (k:Nat):Nat→qMk
 |0,_,_,_,_,_,_,_,_,_,_,_,_,_,_,_,_,_,_,_,_,_,_,_,_=>none
 |n+1,fT,lQ,fU,af,ai,aj,ah,aX,av,aB,aC,aE,aG,aH,aI,cC,cD,bI,aU,aZ,rM,lu,r3,r4=>GA k (Gz k n) fT lQ fU af ai aj ah aX av aB aC aE aG aH aI cC cD bI aU aZ rM lu r3 r4
def uO (k:Nat)(dh:Int)(dQ:List wC)(dR di cg jw:Int)(cE:List zJ)(dB:EQ)(dC:AC)(dD:EQ)(gn:AC)(jx:EQ)(gp:List zC)(rN:AC)(jy:Int)(jz:Bool):Option Su:=
 bif jz then some (jw,cE,dB,dC,dD,gn,jx,gp,rN,jy,jz,[])
 else(BY k dh dQ dR di cg (zA (jw+1))).bind fun x0=>
 bif x0 then ((P4 k (zA (jw+1)) cE dB dC dD gn jx gp rN jy jz).bind fun x1=>
  some (x1.1,x1.2.1,x1.2.2.1,x1.2.2.2.1,x1.2.2.2.2.1,x1.2.2.2.2.2.1,x1.2.2.2.2.2.2.1,x1.2.2.2.2.2.2.2.1,x1.2.2.2.2.2.2.2.2.1,x1.2.2.2.2.2.2.2.2.2.1,x1.2.2.2.2.2.2.2.2.2.2.1,x1.2.2.2.2.2.2.2.2.2.2.2))
 else(Gz k k gp (gp.length:Int) 0 dh dQ dR di cg (zA (jw+1)) cE dB dC dD gn jx gp rN jy jz 0 0 false [] []).bind fun z=>
 (GB k z.1 z.2.1 z.2.2.1 z.2.2.2.1 z.2.2.2.2.1 z.2.2.2.2.2.1).bind fun x4=>
 (pC k z.2.2.2.2.2.1 z.2.2.2.2.2.2.1 z.2.2.2.2.2.2.2.1 z.2.2.2.2.2.2.2.2.1 z.2.2.2.2.2.2.2.2.2.1 z.2.2.2.2.2.2.2.2.2.2.1 z.2.2.2.2.2.2.2.2.2.2.2.1 z.2.2.2.2.2.2.2.2.2.2.2.2.2.2.2.2.2.2.2.2 z.2.2.2.2.2.2.2.2.2.2.2.2.2.1 z.2.2.2.2.2.2.2.2.2.2.2.2.2.2.1 z.2.2.2.2.2.2.2.2.2.2.2.2.2.2.2.1 x4).bind fun x5=>
 bif zL (z.2.2.2.2.2.2.2.2.2.2.2.2.2.2.2.2.2.2.2.1.length + x5.2.2.2.2.2.2.2.2.2.2.2.length) 64 then (let y1:List qE:=(z.2.2.2.2.2.2.2.2.2.2.2.2.2.2.2.2.2.2.2.1++x5.2.2.2.2.2.2.2.2.2.2.2)
  some (zb x5 y1))
 else none
def yO5 (k:Nat)(a0:lO)(a1:MW):Option (Int×jT):=
 (vJ k a1.2.1 0 (zA (a0.1-1))).bind fun x0=>
 bif !x0 then some (1,(vU a0 []))
 else(vJ k a1.2.2.2.1 1 3).bind fun x1=>
 bif !x1 then some (1,(vU a0 []))
 else(GC k (yR a0) a0.2.2.2.2.2.1 (a1.1,a0.2.2.2.2.2.2.2.2.2.2.2.2.2.2.2.2,a1.2)).bind fun x2=>
 bif !(decide (x2=0)) then some (x2,(vU a0 []))
 else(FW k a0.2.2.2.2.2.2.2.2.2.2.2.2.2.1 a1.1).bind fun x3=>
 bif !(decide (x3.2=0)) then some (x3.2,(vU a0 []))
 else(xE k a0.2.2.2.2.2.2.2.2.2.2.2.2.1 (a1.1,a0.2.2.2.2.2.2.2.2.2.2.2.2.2.2.2.2,a1.2)).bind fun x4=>
 bif !(decide (x4.2=0)) then some (x4.2,(vU a0 []))
 else some (0,(kp a0 (x4.1,x3.1,a0.2.2.2.2.2.2.2.2.2.2.2.2.2.2.1,a0.2.2.2.2.2.2.2.2.2.2.2.2.2.2.2.1,a0.2.2.2.2.2.2.2.2.2.2.2.2.2.2.2.2,[])))
def RN (k:Nat)(a0:lO)(a1:zC):Option (Int×jT):=
 (qUm k (vU a0 []) a1.2.1).bind fun x0=>
 bif !(decide (x0.2=0)) then some (x0.2,(vU a0 []))
 else bif decide (a1.1 = 2) then ((qu k a0.2.2.2.2.2.2.2.2.2.2.2.2.1 a1.2.1).bind fun x1=>
  (LP k (kp a0 (x1.1,a0.2.2.2.2.2.2.2.2.2.2.2.2.2)) 20 [a1.2.1]).bind fun x2=>
  some (x1.2.2.2.2.2.2.2.2,x2))
 else bif decide (a1.1 = 4) then ((vJ k a1.2.2.1 1 3).bind fun x3=>
  bif !x3 then some (1,(vU a0 []))
  else(BZ k (yR a0) a0.2.2.2.2.2.1 a1.2.2.1).bind fun x4=>
  bif !(decide (x4=0)) then some (x4,(vU a0 []))
  else(FQ k a0.2.2.2.2.2.2.2.2.2.2.2.2.1 a1.2.1 a1.2.2.1).bind fun x5=>
  some (x5.2,(kp a0 (x5.1,(qNu a0 [])))))
 else bif decide (a1.2.2.1 = 0) then ((FU k a0.2.2.2.2.2.2.2.2.2.2.2.2.1 a1.2.1).bind fun x6=>
  some (x6.2,(kp a0 (x6.1,(qNu a0 [])))))
 else bif decide (a1.2.2.1 = 1) then ((FR k a0.2.2.2.2.2.2.2.2.2.2.2.2.1 a1.2.1).bind fun x7=>
  some (x7.2,(kp a0 (x7.1,(qNu a0 [])))))
 else some (1,(vU a0 []))
def RO (k:Nat)(a0:lO)(a1:zC):Option (Int×jT):=
 (gF k a0.2.2.2.2.2.2.1 a0.2.2.2.2.2.2.2.1 a0.2.2.2.2.2.2.2.2.1 a0.2.2.2.2.2.2.2.2.2.1).bind fun x0=>
 bif decide (a1.1 = 5) then ((qUz k (vU a0 []) a1.2.1).bind fun x1=>
  bif !x1 then some (1,(vU a0 []))
  else(vJ k a1.2.2.1 (-1) 1152921504606846976).bind fun x2=>
  bif !x2 then some (1,(vU a0 []))
  else bif zB a0.2.2.2.2.2.2.2.2.2.2.2.2.2.2.2.2 x0.2.1.length then (bif zB a1.2.1 (x0.2.1.getD a0.2.2.2.2.2.2.2.2.2.2.2.2.2.2.2.2.toNat []).length then (let y0:EQ:=(x0.2.1.set a0.2.2.2.2.2.2.2.2.2.2.2.2.2.2.2.2.toNat ((x0.2.1.getD a0.2.2.2.2.2.2.2.2.2.2.2.2.2.2.2.2.toNat []).set a1.2.1.toNat a1.2.2.1))
    some (0,(jK a0 (x0.1,y0,x0.2.2.1,x0.2.2.2,(qZm a0 [])))))
   else none)
  else none)
 else bif decide (a1.1 = 6) then ((vJ k a1.2.1 (-1) 1152921504606846976).bind fun x3=>
  bif !x3 then some (1,(vU a0 []))
  else bif zB a0.2.2.2.2.2.2.2.2.2.2.2.2.2.2.2.2 x0.2.2.1.length then (let y1:AC:=(x0.2.2.1.set a0.2.2.2.2.2.2.2.2.2.2.2.2.2.2.2.2.toNat a1.2.1)
   some (0,(jK a0 (x0.1,x0.2.1,y1,x0.2.2.2,(qZm a0 [])))))
  else none)
 else(vJ k a1.2.1 0 1152921504606846976).bind fun x4=>
 bif !x4 then some (1,(vU a0 []))
 else bif zB a0.2.2.2.2.2.2.2.2.2.2.2.2.2.2.2.2 x0.1.length then (let y2:List zJ:=(x0.1.set a0.2.2.2.2.2.2.2.2.2.2.2.2.2.2.2.2.toNat ((x0.1.getD a0.2.2.2.2.2.2.2.2.2.2.2.2.2.2.2.2.toNat (0,0,0)).1,(x0.1.getD a0.2.2.2.2.2.2.2.2.2.2.2.2.2.2.2.2.toNat (0,0,0)).2.1,a1.2.1))
  some (0,(jK a0 (y2,x0.2.1,x0.2.2.1,x0.2.2.2,(qZm a0 [])))))
 else none
def yFw (k:Nat)(a0:lO)(a1 a2:Int):Option (Int×jT):=
 (MB k (vU a0 []) a1).bind fun x0=>
 bif !x0 then some (1,(vU a0 []))
 else(vJ k a2 0 1099511627776).bind fun x1=>
 bif !x1 then some (1,(vU a0 []))
 else(GD k a0.2.2.2.2.2.2.2.2.2.2.2.1).bind fun x2=>
 bif zB a0.2.2.2.2.2.2.2.2.2.2.2.2.2.2.2.2 x2.length then ((qy k (x2.getD a0.2.2.2.2.2.2.2.2.2.2.2.2.2.2.2.2.toNat []) a1 a2).bind fun x3=>
  bif zB a0.2.2.2.2.2.2.2.2.2.2.2.2.2.2.2.2 x2.length then (let y0:EQ:=(x2.set a0.2.2.2.2.2.2.2.2.2.2.2.2.2.2.2.2.toNat x3)
   bif zB a0.2.2.2.2.2.2.2.2.2.2.2.2.2.2.2.2 y0.length then ((sW k a0.2.1 a0.2.2.2.2.2.2.2.2.2.2.1 (y0.getD a0.2.2.2.2.2.2.2.2.2.2.2.2.2.2.2.2.toNat [])).bind fun x4=>
    bif zB a0.2.2.2.2.2.2.2.2.2.2.2.2.2.2.2.2 a0.2.2.2.2.2.2.1.length then (bif !x4.2 then some (8,(vU a0 []))
     else bif decide (x4.1>1152921504606846976) then some (8,(vU a0 []))
     else bif decide (x4.1 < (a0.2.2.2.2.2.2.1.getD a0.2.2.2.2.2.2.2.2.2.2.2.2.2.2.2.2.toNat (0, 0, 0)).2.1) then (bif decide ((zA ((a0.2.2.2.2.2.2.1.getD a0.2.2.2.2.2.2.2.2.2.2.2.2.2.2.2.2.toNat (0,0,0)).1+x4.1))<0) then some (9,(vU a0 []))
      else(gF k a0.2.2.2.2.2.2.1 a0.2.2.2.2.2.2.2.1 a0.2.2.2.2.2.2.2.2.1 a0.2.2.2.2.2.2.2.2.2.1).bind fun x5=>
      bif zB a0.2.2.2.2.2.2.2.2.2.2.2.2.2.2.2.2 x5.1.length then (let y1:List zJ:=(x5.1.set a0.2.2.2.2.2.2.2.2.2.2.2.2.2.2.2.2.toNat ((x5.1.getD a0.2.2.2.2.2.2.2.2.2.2.2.2.2.2.2.2.toNat (0,0,0)).1,x4.1,(x5.1.getD a0.2.2.2.2.2.2.2.2.2.2.2.2.2.2.2.2.toNat (0,0,0)).2.2))
       some (0,(jK a0 (y1,x5.2.1,x5.2.2.1,x5.2.2.2,a0.2.2.2.2.2.2.2.2.2.2.1,y0,(yJs a0 [])))))
      else none)
     else(gF k a0.2.2.2.2.2.2.1 a0.2.2.2.2.2.2.2.1 a0.2.2.2.2.2.2.2.2.1 a0.2.2.2.2.2.2.2.2.2.1).bind fun x6=>
     bif zB a0.2.2.2.2.2.2.2.2.2.2.2.2.2.2.2.2 x6.1.length then (let y2:List zJ:=(x6.1.set a0.2.2.2.2.2.2.2.2.2.2.2.2.2.2.2.2.toNat ((x6.1.getD a0.2.2.2.2.2.2.2.2.2.2.2.2.2.2.2.2.toNat (0,0,0)).1,x4.1,(x6.1.getD a0.2.2.2.2.2.2.2.2.2.2.2.2.2.2.2.2.toNat (0,0,0)).2.2))
      some (0,(jK a0 (y2,x6.2.1,x6.2.2.1,x6.2.2.2,a0.2.2.2.2.2.2.2.2.2.2.1,y0,(yJs a0 [])))))
     else none)
    else none)
   else none)
  else none)
 else none
def B6 (k:Nat)(a0:lO)(a1 a2 a3:Int):Option (Int×jT):=
 (vJ k a2 0 (zA (a0.1-1))).bind fun x0=>
 bif !x0 then some (1,(vU a0 []))
 else(vJ k a3 1 1099511627776).bind fun x1=>
 bif !x1 then some (1,(vU a0 []))
 else bif zB a2 a0.2.2.2.2.2.2.1.length then ((GW k (a0.2.2.2.2.2.2.1.getD a2.toNat (0,0,0)) a3).bind fun x2=>
  bif decide (a1 = 11) then ((GX k (a0.2.2.2.2.2.2.1.getD a2.toNat (0,0,0)) a3 3).bind fun x3=>
   (GY k (a0.2.2.2.2.2.2.1.getD a2.toNat (0,0,0)) 3).bind fun x4=>
   bif decide (x4<a3) then some (9,(vU a0 []))
   else bif decide ((zA (a0.2.2.2.2.2.2.2.2.2.2.2.2.2.2.1-a3))<0) then some (9,(vU a0 []))
   else bif !(decide (x3.2=0)) then some (x3.2,(vU a0 []))
   else bif decide ((zA (a0.2.2.2.2.2.2.2.2.2.2.2.2.2.2.1-a3))>1152921504606846976) then some (8,(vU a0 []))
   else(gF k a0.2.2.2.2.2.2.1 a0.2.2.2.2.2.2.2.1 a0.2.2.2.2.2.2.2.2.1 a0.2.2.2.2.2.2.2.2.2.1).bind fun x5=>
   bif zB a2 x5.1.length then some (0,(jK a0 ((x5.1.set a2.toNat x3.1),x5.2.1,x5.2.2.1,x5.2.2.2,(Ij a0 ((zA (a0.2.2.2.2.2.2.2.2.2.2.2.2.2.2.1-a3)),a0.2.2.2.2.2.2.2.2.2.2.2.2.2.2.2.1,a0.2.2.2.2.2.2.2.2.2.2.2.2.2.2.2.2,[])))))
   else none)
  else bif !(decide (x2.2=0)) then some (x2.2,(vU a0 []))
  else bif decide ((zA (a0.2.2.2.2.2.2.2.2.2.2.2.2.2.2.1+a3))>1152921504606846976) then some (8,(vU a0 []))
  else(gF k a0.2.2.2.2.2.2.1 a0.2.2.2.2.2.2.2.1 a0.2.2.2.2.2.2.2.2.1 a0.2.2.2.2.2.2.2.2.2.1).bind fun x6=>
  bif zB a2 x6.1.length then some (0,(jK a0 ((x6.1.set a2.toNat x2.1),x6.2.1,x6.2.2.1,x6.2.2.2,(Ij a0 ((zA (a0.2.2.2.2.2.2.2.2.2.2.2.2.2.2.1+a3)),a0.2.2.2.2.2.2.2.2.2.2.2.2.2.2.2.1,a0.2.2.2.2.2.2.2.2.2.2.2.2.2.2.2.2,[])))))
  else none)
 else none
abbrev qV3:Type:=(lO×AC×(List zJ)×EQ×AC×EQ)⊕(Int×lO)
abbrev qWx:Type:=EQ→Int→Int→lO→AC→List zJ→EQ→AC→EQ→Option qV3
def GZ (k:Nat)(rec:qWx)(gM:EQ)(jm lr:Int)(b0:lO)(r1:AC)(r3:List zJ)(m4:EQ)(r5:AC)(m6:EQ):Option qV3:=
 bif decide (lr < jm) then (bif zB lr gM.length then ((sW k b0.2.1 r1 (gM.getD lr.toNat [])).bind fun x4=>
   bif !x4.2 then some (.inr (8,b0))
   else bif decide (x4.1>1152921504606846976) then some (.inr (8,b0))
   else bif zB lr r3.length then (let y0:List zJ:=(r3.set lr.toNat ((r3.getD lr.toNat (0,0,0)).1,x4.1,(r3.getD lr.toNat (0,0,0)).2.2))
    rec gM jm (zA (lr+1)) b0 r1 y0 m4 r5 m6)
   else none)
  else none)
 else some (.inl (b0,r1,r3,m4,r5,m6))
def uW (k:Nat):Nat→qWx:=yD (fun _ _ _ _ _ _ _ _ _=>none) (GZ k)
def Qs (k:Nat)(a0:lO)(a1 a2:Int):Option (Int×jT):=
 (MB k (vU a0 []) a1).bind fun x0=>
 bif !x0 then some (1,(vU a0 []))
 else(vJ k a2 0 1048576).bind fun x1=>
 bif !x1 then some (1,(vU a0 []))
 else(qy k a0.2.2.2.2.2.2.2.2.2.2.1 a1 a2).bind fun x2=>
 (gF k a0.2.2.2.2.2.2.1 a0.2.2.2.2.2.2.2.1 a0.2.2.2.2.2.2.2.2.1 a0.2.2.2.2.2.2.2.2.2.1).bind fun x3=>
 (uW k k a0.2.2.2.2.2.2.2.2.2.2.2.1 (a0.2.2.2.2.2.2.2.2.2.2.2.1.length:Int) 0 a0 x2 x3.1 x3.2.1 x3.2.2.1 x3.2.2.2).bind fun z=>
 match z with
 |.inl z1=>some (0,(jK z1.1 (B8 z1 (z1.2.1,(YP z1.1 [])))))
 |.inr z2=>some (jN z2 [])
def yi (k:Nat)(a0:lO)(a1:zC):Option (Int×jT):=
 bif decide (a1.1 = 1) then ((yO5 k a0 a1.2).bind fun x0=>
  some (x0.1,x0.2))
 else bif decide (a1.1 = 2) then ((RN k a0 a1).bind fun x1=>
  some (x1.1,x1.2))
 else bif decide (a1.1 = 3) then ((RN k a0 a1).bind fun x2=>
  some (x2.1,x2.2))
 else bif decide (a1.1 = 4) then ((RN k a0 a1).bind fun x3=>
  some (x3.1,x3.2))
 else bif decide (a1.1 = 5) then ((RO k a0 a1).bind fun x4=>
  some (x4.1,x4.2))
 else bif decide (a1.1 = 6) then ((RO k a0 a1).bind fun x5=>
  some (x5.1,x5.2))
 else bif decide (a1.1 = 7) then ((RO k a0 a1).bind fun x6=>
  some (x6.1,x6.2))
 else bif decide (a1.1 = 8) then ((yFw k a0 a1.2.1 a1.2.2.1).bind fun x7=>
  some (x7.1,x7.2))
 else bif decide (a1.1 = 10) then ((B6 k a0 a1.1 a1.2.1 a1.2.2.1).bind fun x8=>
  some (x8.1,x8.2))
 else bif decide (a1.1 = 11) then ((B6 k a0 a1.1 a1.2.1 a1.2.2.1).bind fun x9=>
  some (x9.1,x9.2))
 else bif decide (a1.1 = 12) then ((Qs k a0 a1.2.1 a1.2.2.1).bind fun bW=>
  some (bW.1,bW.2))
 else some (0,(vU a0 []))
def hZ (k:Nat)(a0:vD)(a1:yI)(a2:qE):Option (yI×(List qE)×Int):=
 (uS k a0 a1 a2).bind fun x0=>
 bif !(decide (x0=0)) then some (a1,[],x0)
 else bif decide (a2.2.1 = 9) then ((Cm k a1 a2.1).bind fun x1=>
  some (a1,x1,0))
 else bif !(decide (a2.1 = (-1))) then ((LP k (jI a0 (vY a1 a2.1)) 15 []).bind fun x2=>
  (Hr k x2 a2.2).bind fun x3=>
  bif !(decide (x3.1=0)) then some (a1,[],x3.1)
  else bif decide (a2.2.1 = 14) then ((uO k a0.1 a0.2.1 a0.2.2.1 a0.2.2.2.1 a0.2.2.2.2 a1.1 a1.2.1 a1.2.2.1 a1.2.2.2.1 a1.2.2.2.2.1 a1.2.2.2.2.2.1 a1.2.2.2.2.2.2.1 a1.2.2.2.2.2.2.2.1 a1.2.2.2.2.2.2.2.2.1 a1.2.2.2.2.2.2.2.2.2.1 a1.2.2.2.2.2.2.2.2.2.2).bind fun x4=>
   some ((qQ x4),x4.2.2.2.2.2.2.2.2.2.2.2,0))
  else(pC k x3.2.2.2.2.2.2.1 x3.2.2.2.2.2.2.2.1 x3.2.2.2.2.2.2.2.2.1 x3.2.2.2.2.2.2.2.2.2.1 x3.2.2.2.2.2.2.2.2.2.2.1 x3.2.2.2.2.2.2.2.2.2.2.2.1 x3.2.2.2.2.2.2.2.2.2.2.2.2.1 x3.2.2.2.2.2.2.2.2.2.2.2.2.2.1 x3.2.2.2.2.2.2.2.2.2.2.2.2.2.2.1 x3.2.2.2.2.2.2.2.2.2.2.2.2.2.2.2.1 x3.2.2.2.2.2.2.2.2.2.2.2.2.2.2.2.2.1 (decide (a2.2.1=13))).bind fun x5=>
  bif zL (x3.2.2.2.2.2.2.2.2.2.2.2.2.2.2.2.2.2.2.length + x5.2.2.2.2.2.2.2.2.2.2.2.length) 64 then (let y0:List qE:=(x3.2.2.2.2.2.2.2.2.2.2.2.2.2.2.2.2.2.2++x5.2.2.2.2.2.2.2.2.2.2.2)
   bif decide (a2.2.1 = 1) then ((ot k x5.2.2.2.2.2.2.2.1 a2.2.2.1).bind fun x6=>
    bif decide (x6 ≥ 0) then ((uR k (Hs x3 y0) 19 [a2.2.2.1]).bind fun x7=>
     some ((qQ x5),x7.2.2.2.2.2.2.2.2.2.2.2.2.2.2.2.2.2,0))
    else some ((qQ x5),y0,0))
   else some ((qQ x5),y0,0))
  else none)
 else(yi k (jI a0 (vY a1 a2.1)) a2.2).bind fun x8=>
 bif !(decide (x8.1=0)) then some (a1,[],x8.1)
 else bif decide (a2.2.1 = 14) then ((uO k a0.1 a0.2.1 a0.2.2.1 a0.2.2.2.1 a0.2.2.2.2 a1.1 a1.2.1 a1.2.2.1 a1.2.2.2.1 a1.2.2.2.2.1 a1.2.2.2.2.2.1 a1.2.2.2.2.2.2.1 a1.2.2.2.2.2.2.2.1 a1.2.2.2.2.2.2.2.2.1 a1.2.2.2.2.2.2.2.2.2.1 a1.2.2.2.2.2.2.2.2.2.2).bind fun x9=>
  some ((qQ x9),x9.2.2.2.2.2.2.2.2.2.2.2,0))
 else(pC k x8.2.2.2.2.2.2.1 x8.2.2.2.2.2.2.2.1 x8.2.2.2.2.2.2.2.2.1 x8.2.2.2.2.2.2.2.2.2.1 x8.2.2.2.2.2.2.2.2.2.2.1 x8.2.2.2.2.2.2.2.2.2.2.2.1 x8.2.2.2.2.2.2.2.2.2.2.2.2.1 x8.2.2.2.2.2.2.2.2.2.2.2.2.2.1 x8.2.2.2.2.2.2.2.2.2.2.2.2.2.2.1 x8.2.2.2.2.2.2.2.2.2.2.2.2.2.2.2.1 x8.2.2.2.2.2.2.2.2.2.2.2.2.2.2.2.2.1 (decide (a2.2.1=13))).bind fun bW=>
 bif zL (x8.2.2.2.2.2.2.2.2.2.2.2.2.2.2.2.2.2.2.length + bW.2.2.2.2.2.2.2.2.2.2.2.length) 64 then (let y1:List qE:=(x8.2.2.2.2.2.2.2.2.2.2.2.2.2.2.2.2.2.2++bW.2.2.2.2.2.2.2.2.2.2.2)
  bif decide (a2.2.1 = 1) then ((ot k bW.2.2.2.2.2.2.2.1 a2.2.2.1).bind fun dq=>
   bif decide (dq ≥ 0) then ((uR k (Hs x8 y1) 19 [a2.2.2.1]).bind fun dP=>
    some ((qQ bW),dP.2.2.2.2.2.2.2.2.2.2.2.2.2.2.2.2.2,0))
   else some ((qQ bW),y1,0))
  else some ((qQ bW),y1,0))
 else none
def vh (k:Nat)(bj:fS)(dy:vX)(a1:AC):Option (Int×fS×vX):=
 (L7 k dy (zA (1-bj.1)) (zA (bj.2.1+1)) a1).bind fun x0=>
 bif decide (x0.1=0) then some (x0.1,((zA (1-bj.1)),(zA (bj.2.1+1)),0,false),x0.2)
 else some (x0.1,bj,x0.2)
def Zs (k:Nat)(a0:Int):Option Bool:=
 (vJ k a0 0 1048576).bind fun x0=>
 some (!x0)
def Hy (k:Nat)(rec:qNe)(s0:AC)(s7 s8:Int):Option (Unit⊕Int):=
 bif decide (s8 < s7) then (bif zB s8 s0.length then ((Zs k (s0.getD s8.toNat 0)).bind fun x0=>
   bif x0 then some (.inr s8)
   else rec s0 s7 (zA (s8+1)))
  else none)
 else some (.inl ())
def Cq (k:Nat):Nat→qNe
 |0,_,_,_=>none
 |n+1,s0,s7,s8=>Hy k (Cq k n) s0 s7 s8
def Zt (k:Nat)(a0:AC):Option Int:=
 (Cq k k a0 (a0.length:Int) 0).bind fun z=>
 match z with
 |.inl z1=>some (-1)
 |.inr z2=>some z2
def LX (k:Nat)(a0:AC):Option Bool:=
 (Zt k a0).bind fun x0=>
 some (decide (x0≥0))
def Zv (k:Nat)(a0:Int):Option Bool:=
 some (decide (a0>1099511627776))
def Hz (k:Nat)(rec:qNe)(s0:AC)(s7 s8:Int):Option (Unit⊕Int):=
 bif decide (s8 < s7) then (bif zB s8 s0.length then ((Zv k (s0.getD s8.toNat 0)).bind fun x0=>
   bif x0 then some (.inr s8)
   else rec s0 s7 (zA (s8+1)))
  else none)
 else some (.inl ())
def Cr (k:Nat):Nat→qNe
 |0,_,_,_=>none
 |n+1,s0,s7,s8=>Hz k (Cr k n) s0 s7 s8
def Zw (k:Nat)(a0:AC):Option Int:=
 (Cr k k a0 (a0.length:Int) 0).bind fun z=>
 match z with
 |.inl z1=>some (-1)
 |.inr z2=>some z2
def QP (k:Nat)(a0:AC):Option Bool:=
 (Zw k a0).bind fun x0=>
 some (decide (x0≥0))
abbrev qKk:Type:=EQ→Int→Int→vD→yI→Option (Unit⊕Bool)
def HA (k:Nat)(rec:qKk)(lQ:EQ)(fU mK:Int)(b0:vD)(b1:yI):Option (Unit⊕Bool):=
 bif decide (mK < fU) then (bif zB mK lQ.length then ((sW k b0.2.1 b1.2.2.2.2.2.1 (lQ.getD mK.toNat [])).bind fun x1=>
   bif !x1.2 then some (.inr false)
   else bif decide (x1.1>1152921504606846976) then some (.inr false)
   else bif zB mK b1.2.1.length then (bif !(decide (x1.1=(b1.2.1.getD mK.toNat (0,0,0)).2.1)) then some (.inr false)
    else(QP k (lQ.getD mK.toNat [])).bind fun x2=>
    bif x2 then some (.inr false)
    else rec lQ fU (zA (mK+1)) b0 b1)
   else none)
  else none)
 else some (.inl ())
def yj (k:Nat):Nat→qKk:=yD (fun _ _ _ _ _=>none) (HA k)
def LY (k:Nat)(a0:vD)(a1:yI):Option Bool:=
 bif !(decide ((a1.2.2.2.2.2.1.length:Int)=(a0.2.1.length:Int))) then some false
 else bif !(decide ((a1.2.2.2.2.2.2.1.length:Int)=a0.1)) then some false
 else(LX k a1.2.2.2.2.2.1).bind fun x0=>
 bif x0 then some false
 else(yj k k a1.2.2.2.2.2.2.1 (a1.2.2.2.2.2.2.1.length:Int) 0 a0 a1).bind fun z=>
 match z with
 |.inl z1=>some true
 |.inr z2=>some z2
abbrev qMd:Type:=List zC→Int→Option (Unit⊕Bool)
def QM (k:Nat)(rec:qMd)(s0:List zC)(s5:Int):Option (Unit⊕Bool):=
 bif decide (s5 > 0) then (bif zB s5 s0.length then (bif zB (zA (s5 - 1)) s0.length then ((FM k (s0.getD s5.toNat (0,0,0,0,0,0,0)).1 (s0.getD s5.toNat (0,0,0,0,0,0,0)).2.1 (s0.getD s5.toNat (0,0,0,0,0,0,0)).2.2.1 (s0.getD s5.toNat (0,0,0,0,0,0,0)).2.2.2.1 (s0.getD s5.toNat (0,0,0,0,0,0,0)).2.2.2.2.1 (s0.getD s5.toNat (0,0,0,0,0,0,0)).2.2.2.2.2.1 (s0.getD s5.toNat (0,0,0,0,0,0,0)).2.2.2.2.2.2 (s0.getD (zA (s5-1)).toNat (0,0,0,0,0,0,0)).1 (s0.getD (zA (s5-1)).toNat (0,0,0,0,0,0,0)).2.1 (s0.getD (zA (s5-1)).toNat (0,0,0,0,0,0,0)).2.2.1 (s0.getD (zA (s5-1)).toNat (0,0,0,0,0,0,0)).2.2.2.1 (s0.getD (zA (s5-1)).toNat (0,0,0,0,0,0,0)).2.2.2.2.1 (s0.getD (zA (s5-1)).toNat (0,0,0,0,0,0,0)).2.2.2.2.2.1 (s0.getD (zA (s5-1)).toNat (0,0,0,0,0,0,0)).2.2.2.2.2.2).bind fun x0=>
    bif decide (x0<0) then some (.inr false)
    else rec s0 (zA (s5-1)))
   else none)
  else none)
 else some (.inl ())
def LR (k:Nat):Nat→qMd:=yD (fun _ _=>none) (QM k)
def QL (k:Nat)(a0:List zC):Option Bool:=
 (LR k k a0 (zA ((a0.length:Int)-1))).bind fun z=>
 match z with
 |.inl z1=>some true
 |.inr z2=>some z2
abbrev qLe:Type:=(List zC)⊕Bool
abbrev qSb:Type:=List zC→List zC→Int→Int→Option qLe
def Hu (k:Nat)(rec:qSb)(s0 s5:List zC)(s6 s7:Int):Option qLe:=
 bif decide (s7 < s6) then (bif zB s7 s5.length then ((ot k s0 (s5.getD s7.toNat (0,0,0,0,0,0,0)).1).bind fun x0=>
   bif !(decide (x0=s7)) then some (.inr false)
   else rec s0 s5 s6 (zA (s7+1)))
  else none)
 else some (.inl s0)
def Co (k:Nat):Nat→qSb
 |0,_,_,_,_=>none
 |n+1,s0,s5,s6,s7=>Hu k (Co k n) s0 s5 s6 s7
def LQ (k:Nat)(a0:List zC):Option Bool:=
 (Co k k a0 a0 (a0.length:Int) 0).bind fun z=>
 match z with
 | .inl z1 => bif decide ((z1.length : Int) ≤ 40) then ((QL k z1).bind fun x1=>
   some x1)
  else some false
 |.inr z2=>some z2
abbrev qS4:Type:=AC→Int→AC→Int→Int→Option (AC⊕Bool)
def Hv (k:Nat)(rec:qS4)(s0:AC)(s3:Int)(s6:AC)(s7 s8:Int):Option (AC⊕Bool):=
 bif decide (s8 < s7) then (bif zB s8 s6.length then (bif decide ((s6.getD s8.toNat 0)≤s3) then some (.inr false)
   else rec s0 (s6.getD s8.toNat 0) s6 s7 (zA (s8+1)))
  else none)
 else some (.inl s0)
def LU (k:Nat):Nat→qS4:=yD (fun _ _ _ _ _=>none) (Hv k)
def LS (k:Nat)(a0:AC):Option Bool:=
 (LU k k a0 0 a0 (a0.length:Int) 0).bind fun z=>
 match z with
 |.inl z1=>some (decide ((z1.length:Int)≤200))
 |.inr z2=>some z2
def PG (k:Nat)(a0:AC)(a1:Int):Option Bool:=
 (FV k a0 a1).bind fun x0=>
 some x0.2
def QO (k:Nat)(a0:zC)(a1:yI):Option Bool:=
 (EZ k a1.2.1 a1.2.2.1 a1.2.2.2.1 a1.2.2.2.2.1 a0.1 a0.2.1 a0.2.2.1 a0.2.2.2.1 a0.2.2.2.2.1 a0.2.2.2.2.2.1 a0.2.2.2.2.2.2).bind fun x0=>
 bif !x0 then some true
 else bif decide (a0.2.2.2.2.2.1<0) then some true
 else(vJ k a0.2.2.2.2.2.2 a0.2.2.2.2.2.1 1048576).bind fun x1=>
 bif !x1 then some true
 else(PG k a1.2.2.2.2.2.2.2.2.1 a0.1).bind fun x2=>
 some (!x2)
abbrev qUx:Type:=List zC→Int→Int→Int→List zJ→EQ→AC→EQ→AC→EQ→List zC→AC→Int→Bool→Option (Unit⊕Int)
def Hw (k:Nat)(rec:qUx)(s0:List zC)(s7 s8 af:Int)(ai:List zJ)(aj:EQ)(ah:AC)(aX:EQ)(bp:AC)(bq:EQ)(dU:List zC)(dV:AC)(dW:Int)(ca:Bool):Option (Unit⊕Int):=
 bif decide (s8 < s7) then (bif zB s8 s0.length then ((QO k (s0.getD s8.toNat (0,0,0,0,0,0,0)) (af,ai,aj,ah,aX,bp,bq,dU,dV,dW,ca)).bind fun x0=>
   bif x0 then some (.inr s8)
   else rec s0 s7 (zA (s8+1)) af ai aj ah aX bp bq dU dV dW ca)
  else none)
 else some (.inl ())
def Cp (k:Nat):Nat→qUx
 |0,_,_,_,_,_,_,_,_,_,_,_,_,_,_=>none
 |n+1,s0,s7,s8,af,ai,aj,ah,aX,bp,bq,dU,dV,dW,ca=>Hw k (Cp k n) s0 s7 s8 af ai aj ah aX bp bq dU dV dW ca
def Zq (k:Nat)(a0:List zC)(gq:Int)(bU:List zJ)(cF:EQ)(cG:AC)(cH:EQ)(dE:AC)(eO:EQ)(gu:List zC)(j0:AC)(eP:Int)(gv:Bool):Option Int:=
 (Cp k k a0 (a0.length:Int) 0 gq bU cF cG cH dE eO gu j0 eP gv).bind fun z=>
 match z with
 |.inl z1=>some (-1)
 |.inr z2=>some z2
def QN (k:Nat)(a0:List zC)(gq:Int)(bU:List zJ)(cF:EQ)(cG:AC)(cH:EQ)(dE:AC)(eO:EQ)(gu:List zC)(j0:AC)(eP:Int)(gv:Bool):Option Bool:=
 (Zq k a0 gq bU cF cG cH dE eO gu j0 eP gv).bind fun x0=>
 some (decide (x0≥0))
def LV (k:Nat)(a0:yI):Option Bool:=
 (LQ k a0.2.2.2.2.2.2.2.1).bind fun x0=>
 bif x0 then ((LS k a0.2.2.2.2.2.2.2.2.1).bind fun x1=>
  bif x1 then ((QN k a0.2.2.2.2.2.2.2.1 a0.1 a0.2.1 a0.2.2.1 a0.2.2.2.1 a0.2.2.2.2.1 a0.2.2.2.2.2.1 a0.2.2.2.2.2.2.1 a0.2.2.2.2.2.2.2.1 a0.2.2.2.2.2.2.2.2.1 a0.2.2.2.2.2.2.2.2.2.1 a0.2.2.2.2.2.2.2.2.2.2).bind fun x2=>
   some (!x2))
  else some false)
 else some false
abbrev yCj:Type:=vD×yI×AC
abbrev qOw:Type:=List zJ→Int→Int→vD→yI→AC→Option yCj
def HC (k:Nat)(rec:qOw)(oL:List zJ)(s45 SK:Int)(b0:vD)(b1:yI)(r2:AC):Option yCj:=
 bif decide (SK < s45) then (bif zB SK oL.length then (bif zL (r2.length+1) 8 then(rec oL s45 (zA (SK+1)) b0 b1 (r2++[(oL.getD SK.toNat (0,0,0)).1]))
   else none)
  else none)
 else some (b0,b1,r2)
def HB (k:Nat):Nat→qOw:=yD (fun _ _ _ _ _ _=>none) (HC k)
def LZ (k:Nat)(a0:vD)(a1:yI):Option Bool:=
 (vJ k a1.1 0 a0.2.2.2.1).bind fun x0=>
 bif !x0 then some false
 else(Bw k a1.2.1 a1.2.2.1 a1.2.2.2.1 a1.2.2.2.2.1).bind fun x1=>
 bif !x1 then some false
 else bif !(decide ((a1.2.1.length:Int)=a0.1)) then some false
 else(LY k a0 a1).bind fun x2=>
 bif !x2 then some false
 else(LV k a1).bind fun x3=>
 bif !x3 then some false
 else(HB k k a1.2.1 (a1.2.1.length:Int) 0 a0 a1 []).bind fun z=>
 (FX k z.2.2).bind fun x4=>
 bif !x4.2 then some false
 else bif !(decide (x4.1=z.2.1.2.2.2.2.2.2.2.2.2.1)) then some false
 else(vJ k x4.1 0 1152921504606846976).bind fun x5=>
 bif !x5 then some false
 else(BY k z.1.1 z.1.2.1 z.1.2.2.1 z.1.2.2.2.1 z.1.2.2.2.2 z.2.1.1).bind fun x6=>
 bif mO z.2.1.2.2.2.2.2.2.2.2.2.2 x6 then (bif !z.2.1.2.2.2.2.2.2.2.2.2.2 then some true
  else some (decide ((z.2.1.2.2.2.2.2.2.2.1.length:Int)=0)))
 else some false
abbrev qOy:Type:=Int×Bool×tt×AC×AC×vD×fS×yI
abbrev yBu:Type:=Int→Bool→EQ→Int→Int→tt→AC→AC→vD→fS→yI→Option qOy
def yo (k:Nat)(rec:yBu)(s2:Int)(bA:Bool)(SM:EQ)(s73 M4:Int)(b0:tt)(r1 r2:AC)(b3:vD)(b4:fS)(b5:yI):Option qOy:=
 bif decide (M4 < s73) then (bif zB M4 SM.length then ((tc k (SM.getD M4.toNat [])).bind fun x8=>
   bif decide (x8.2 = 0) then ((hZ k b3 b5 x8.1).bind fun x9=>
    rec s2 bA SM s73 (zA (M4+1)) b0 r1 r2 b3 b4 x9.1)
   else rec s2 bA SM s73 (zA (M4+1)) b0 r1 r2 b3 b4 b5)
  else none)
 else some (s2,bA,b0,r1,r2,b3,b4,b5)
def yn (k:Nat):Nat→yBu:=yD (fun _ _ _ _ _ _ _ _ _ _ _=>none) (yo k)
def fx (k:Nat)(a0:vD)(a1:vX)(a2:Int):Option ((Int×vX×nH×fS)⊕(Int×vX)):=
 (nD k a0).bind fun x0=>
 bif !x0 then some (.inr (1,a1))
 else bif decide (a2<1) then some (.inr (1,a1))
 else bif decide (a2>1000) then some (.inr (1,a1))
 else(Mb k a1).bind fun x1=>
 (rp k a0).bind fun x2=>
 (mn k x2).bind fun x3=>
 (QT k a1 x3).bind fun x4=>
 match x4 with
 |.inl x5=>bif !(decide (x5.2.2.1=0)) then some (.inr (x5.2.2.1,x5.2.2.2.1))
  else(Mh k x5.1).bind fun x6=>
  bif !x6.2 then ((rp k a0).bind fun x7=>
   (yn k k a2 x1.2.2.2.2 x5.2.1 (x5.2.1.length:Int) 0 (x5.2.2.2.1.1,x5.2.2.2.1.2.2.1,x5.2.2.2.1.2.2.2.2) x5.2.2.2.1.2.1 x5.2.2.2.1.2.2.2.1 a0 x5.2.2.2.2 x7).bind fun z=>
   bif z.2.1 then ((mn k z.2.2.2.2.2.2.2).bind fun bW=>
    (vh k z.2.2.2.2.2.2.1 (z.2.2.1.1,z.2.2.2.1,z.2.2.1.2.1,z.2.2.2.2.1,z.2.2.1.2.2) bW).bind fun dq=>
    bif !(decide (dq.1=0)) then some (.inr (dq.1,dq.2.2))
    else some (.inl (0,dq.2.2,(jI z.2.2.2.2.2.1 (Im z (z.1,false))),dq.2.1)))
   else some (.inl (0,(z.2.2.1.1,z.2.2.2.1,z.2.2.1.2.1,z.2.2.2.2.1,z.2.2.1.2.2),(jI z.2.2.2.2.2.1 (Im z (z.1,false))),z.2.2.2.2.2.2.1)))
  else(LZ k a0 x6.1).bind fun dP=>
  bif !dP then ((rp k a0).bind fun mz=>
   (yn k k a2 x1.2.2.2.2 x5.2.1 (x5.2.1.length:Int) 0 (x5.2.2.2.1.1,x5.2.2.2.1.2.2.1,x5.2.2.2.1.2.2.2.2) x5.2.2.2.1.2.1 x5.2.2.2.1.2.2.2.1 a0 x5.2.2.2.2 mz).bind fun z1=>
   bif z1.2.1 then ((mn k z1.2.2.2.2.2.2.2).bind fun oE=>
    (vh k z1.2.2.2.2.2.2.1 (z1.2.2.1.1,z1.2.2.2.1,z1.2.2.1.2.1,z1.2.2.2.2.1,z1.2.2.1.2.2) oE).bind fun bM=>
    bif !(decide (bM.1=0)) then some (.inr (bM.1,bM.2.2))
    else some (.inl (0,bM.2.2,(jI z1.2.2.2.2.2.1 (Im z1 (z1.1,false))),bM.2.1)))
   else some (.inl (0,(z1.2.2.1.1,z1.2.2.2.1,z1.2.2.1.2.1,z1.2.2.2.2.1,z1.2.2.1.2.2),(jI z1.2.2.2.2.2.1 (Im z1 (z1.1,false))),z1.2.2.2.2.2.2.1)))
  else(yn k k a2 x1.2.2.2.2 x5.2.1 (x5.2.1.length:Int) 0 (x5.2.2.2.1.1,x5.2.2.2.1.2.2.1,x5.2.2.2.1.2.2.2.2) x5.2.2.2.1.2.1 x5.2.2.2.1.2.2.2.1 a0 x5.2.2.2.2 x6.1).bind fun z2=>
  bif z2.2.1 then ((mn k z2.2.2.2.2.2.2.2).bind fun gL=>
   (vh k z2.2.2.2.2.2.2.1 (z2.2.2.1.1,z2.2.2.2.1,z2.2.2.1.2.1,z2.2.2.2.2.1,z2.2.2.1.2.2) gL).bind fun eE=>
   bif !(decide (eE.1=0)) then some (.inr (eE.1,eE.2.2))
   else some (.inl (0,eE.2.2,(jI z2.2.2.2.2.2.1 (Im z2 (z2.1,false))),eE.2.1)))
  else some (.inl (0,(z2.2.2.1.1,z2.2.2.2.1,z2.2.2.1.2.1,z2.2.2.2.2.1,z2.2.2.1.2.2),(jI z2.2.2.2.2.2.1 (Im z2 (z2.1,false))),z2.2.2.2.2.2.2.1))
 |.inr mA=>bif !(decide (mA.2.2.1=0)) then some (.inr (mA.2.2.1,mA.2.2.2))
  else(Mh k mA.1).bind fun ja=>
  bif !ja.2 then ((rp k a0).bind fun eF=>
   none)
  else(LZ k a0 ja.1).bind fun lH=>
  bif !lH then ((rp k a0).bind fun mB=>
   none)
  else none
def yEu (k:Nat)(rec:qSk)(s0 s1 s6:Int)(r0:AC):Option AC:=
 bif decide (s6 < s0) then (bif zB s6 r0.length then(rec s0 s1 (zA (s6+1)) (r0.set s6.toNat s1))
  else none)
 else some r0
def RR (k:Nat):Nat→qSk
 |0,_,_,_,_=>none
 |n+1,s0,s1,s6,r0=>yEu k (RR k n) s0 s1 s6 r0
def qLn (k:Nat)(a0 a1:Int):Option AC:=
 bif decide (a0<0) then some []
 else bif decide (a0>6) then some []
 else bif qb a0 a0 8 then ((RR k k a0 a1 0 (List.replicate a0.toNat (0:Int))).bind fun z=>
  some z)
 else none
abbrev qZj:Type:=Int→Int→Int→EQ→Option EQ
def yHw (k:Nat)(rec:qZj)(s0 s1 s6:Int)(m0:EQ):Option EQ:=
 bif decide (s6 < s0) then ((qLn k s0 s1).bind fun x0=>
  bif zL (m0.length+1) 24 then(rec s0 s1 (zA (s6+1)) (m0++[x0]))
  else none)
 else some m0
def RT (k:Nat):Nat→qZj
 |0,_,_,_,_=>none
 |n+1,s0,s1,s6,m0=>yHw k (RT k n) s0 s1 s6 m0
def yCc (k:Nat)(a0 a1:Int):Option EQ:=
 bif decide (a0<0) then some []
 else bif decide (a0>6) then some []
 else(RT k k a0 a1 0 []).bind fun z=>
 some z
abbrev yCh:Type:=Int→Int→vD→yK→yK→List zJ→EQ→AC→EQ→AC→Option qNx
def yF1 (k:Nat)(rec:yCh)(s3 s5:Int)(b0:vD)(b1 b2:yK)(r3:List zJ)(m4:EQ)(r5:AC)(m6:EQ)(r7:AC):Option qNx:=
 bif decide (s5 < (b0.2.1.length : Int)) then (bif zB s5 b0.2.1.length then (bif zL (r7.length+1) 8 then(rec s3 (zA (s5+1)) b0 b1 b2 r3 m4 r5 m6 (r7++[(b0.2.1.getD s5.toNat (0,0)).1]))
   else none)
  else none)
 else some (s3,b0,b1,b2,r3,m4,r5,m6,r7)
def qQl (k:Nat):Nat→yCh:=yD (fun _ _ _ _ _ _ _ _ _ _=>none) (yF1 k)
def yXf (k:Nat)(rec:qVf)(s3 s6:Int)(b0:vD)(b1 b2:yK)(r3:List zJ)(m4:EQ)(r5:AC)(m6:EQ)(r7:AC)(m8:EQ):Option qO0:=
 bif decide (s6 < s3) then (bif qb (b0.2.1.length : Int) (b0.2.1.length : Int) 8 then (bif zL (m8.length+1) 24 then(rec s3 (zA (s6+1)) b0 b1 b2 r3 m4 r5 m6 r7 (m8++[(List.replicate b0.2.1.length (0:Int))]))
   else none)
  else none)
 else some (b1,b2,r3,m4,r5,m6,r7,m8)
def qOp (k:Nat):Nat→qVf:=yD (fun _ _ _ _ _ _ _ _ _ _ _=>none) (yXf k)
def Z9 (k:Nat)(a0:vD):Option yI:=
 bif qb a0.1 a0.1 24 then ((yCc k a0.1 (-1)).bind fun x0=>
  (qLn k a0.1 (-1)).bind fun x1=>
  (yCc k a0.1 0).bind fun x2=>
  (qQl k k a0.1 0 a0 (0,0,false) (0,0,false) (List.replicate a0.1.toNat ((0,0,0):Int×Int×Int)) x0 x1 x2 []).bind fun z=>
  (qOp k k z.1 0 z.2.1 z.2.2.1 z.2.2.2.1 z.2.2.2.2.1 z.2.2.2.2.2.1 z.2.2.2.2.2.2.1 z.2.2.2.2.2.2.2.1 z.2.2.2.2.2.2.2.2 []).bind fun z1=>
  some (z1.2.1.1,(yDq z1 ([],[],z1.2.1.2))))
 else none
def RW (k:Nat)(a0:vX)(a1:wC):Option vX:=
 some (pL a0 (a1.1,a1.2,true,a0.2.2.2.2.2.2.2.2))
def lg (k:Nat)(bj:nH)(dy:fS)(mI:vX):Option (Bool×nH×fS×vX):=
 some (bj.2.2.2.2.2.2.2.2.2.2.2.2.2.2.2.2.2,bj,dy,mI)
def MJ (k:Nat)(a0 a1:Int):Option (List qE):=
 some [(a0,16,a1,0,0,0,0,0)]
def Yt (k:Nat)(a0:zC):Option AC:=
 (lG k a0).bind fun x0=>
 bif !x0 then some []
 else(uu k a0.1).bind fun x1=>
 bif (decide (0 ≤ x1)) && (decide (x1 ≤ 6)) then ((xu k (qR [a0.2.1,a0.2.2.1,a0.2.2.2.1,a0.2.2.2.2.1,a0.2.2.2.2.2.1,a0.2.2.2.2.2.2] 0 (x1.toNat-0))).bind fun x2=>
  bif zL (1+x2.length) 1 then some ([(IntKind.wrap .u8 (a0.1))]++x2)
  else none)
 else none
def Qa (k:Nat)(a0:qE):Option AC:=
 (Yt k a0.2).bind fun x0=>
 bif decide ((x0.length:Int)=0) then some []
 else(xu k [a0.1]).bind fun x1=>
 bif zL (x1.length+x0.length) 1 then some (x1++x0)
 else none
def L9 (k:Nat)(bj:fS)(dy:vX)(a1:AC):Option (Int×fS×vX):=
 (JP k a1).bind fun x0=>
 bif !x0.2 then some (10,bj,dy)
 else bif bj.2.2.2 then some (10,bj,dy)
 else(yk k dy bj.1 x0.1).bind fun x1=>
 bif decide (x1.1=3) then some (10,bj,x1.2)
 else bif decide (x1.1 = 0) then ((vg k x1.2).bind fun x2=>
  bif decide (x2.1=0) then some (x2.1,(bj.1,bj.2.1,(zA (bj.2.2.1+1)),bj.2.2.2),x2.2)
  else some (x2.1,bj,x2.2))
 else bif decide (x1.1=0) then some (x1.1,(bj.1,bj.2.1,(zA (bj.2.2.1+1)),bj.2.2.2),x1.2)
 else some (x1.1,bj,x1.2)
def QY (k:Nat)(bj:nH)(dy:fS)(mI:vX)(a1:AC):Option (Int×nH×fS×vX):=
 (L9 k dy mI a1).bind fun x0=>
 bif !(decide (x0.1=10)) then some (x0.1,bj,x0.2.1,x0.2.2)
 else(mn k (rq bj)).bind fun x1=>
 (vh k x0.2.1 x0.2.2 x1).bind fun x2=>
 bif !(decide (x2.1=0)) then some (x2.1,bj,x2.2.1,x2.2.2)
 else(L9 k x2.2.1 x2.2.2 a1).bind fun x3=>
 some (x3.1,bj,x3.2.1,x3.2.2)
def QZ (k:Nat)(bj:fS)(dy:vX):Option (Int×fS×vX):=
 some (bj.2.2.1,bj,dy)
def Mj (k:Nat)(bj:nH)(dy:fS)(mI:vX)(a1:Int)(a2:AC):Option ((List qE)×nH×fS×vX):=
 (lg k bj dy mI).bind fun x0=>
 bif x0.1 then some ([],x0.2.1,x0.2.2.1,x0.2.2.2)
 else(uv k a2).bind fun x1=>
 bif !(decide (x1.2 = 0)) then ((MJ k a1 x1.2).bind fun x2=>
  some (x2,x0.2.1,x0.2.2.1,x0.2.2.2))
 else(hZ k (yR x0.2.1) (rq x0.2.1) (a1,x1.1)).bind fun x3=>
 bif !(decide (x3.2.2 = 0)) then ((MJ k a1 x3.2.2).bind fun x4=>
  some (x4,x0.2.1,x0.2.2.1,x0.2.2.2))
 else bif decide (x1.1.1=9) then some (x3.2.1,x0.2.1,x0.2.2.1,x0.2.2.2)
 else(Qa k (a1,x1.1)).bind fun x5=>
 (QY k x0.2.1 x0.2.2.1 x0.2.2.2 x5).bind fun x6=>
 bif decide (x6.1 = 0) then ((QZ k x6.2.2.1 x6.2.2.2).bind fun x7=>
  bif decide (x7.1 ≥ x6.2.1.2.2.2.2.2.2.2.2.2.2.2.2.2.2.2.2.1) then ((mn k x3.1).bind fun x8=>
   (vh k x7.2.1 x7.2.2 x8).bind fun x9=>
   bif decide (x9.1=11) then some (x3.2.1,(pL x6.2.1 (vY x3.1 (x6.2.1.2.2.2.2.2.2.2.2.2.2.2.2.2.2.2.2.1,true))),x9.2.1,x9.2.2)
   else some (x3.2.1,(pL x6.2.1 (vY x3.1 x6.2.1.2.2.2.2.2.2.2.2.2.2.2.2.2.2.2.2)),x9.2.1,x9.2.2))
  else some (x3.2.1,(pL x6.2.1 (vY x3.1 x6.2.1.2.2.2.2.2.2.2.2.2.2.2.2.2.2.2.2)),x7.2.1,x7.2.2))
 else bif decide (x6.1 = 10) then ((MJ k a1 10).bind fun bW=>
  some (bW,x6.2.1,x6.2.2.1,x6.2.2.2))
 else some ([],(yE x6.2.1 true),x6.2.2.1,x6.2.2.2)
def Oy (k:Nat)(rec:AC→Int→Int→Option Int)(s0:AC)(s3 s4:Int):Option Int:=
 bif decide (s4 < 8) then (bif zB s4 s0.length then(rec s0 (wM .u64 (shl .u64 s3 8) (IntKind.wrap .u64 ((s0.getD s4.toNat 0)))) (zA (s4+1)))
  else none)
 else some s3
def JL (k:Nat):Nat→AC→Int→Int→Option Int:=yD (fun _ _ _=>none) (Oy k)
def JK (k:Nat)(a0:AC):Option Int:=
 (JL k k a0 0 0).bind fun z=>
 some (zA (z))
abbrev qXm:Type:=AC→Int→AC→Option AC
def Et (k:Nat)(rec:qXm)(s0:AC)(s5:Int)(r0:AC):Option AC:=
 bif decide (s5 < (s0.length : Int)) then (bif ((decide (0 ≤ s5)) && (decide (s5 ≤ (zA (s5 + 8))))) && (decide ((zA (s5 + 8)) ≤ (s0.length : Int))) then ((JK k (qR s0 s5.toNat ((zA (s5+8)).toNat-s5.toNat))).bind fun x0=>
   bif zL (r0.length+1) 8 then(rec s0 (zA (s5+8)) (r0++[x0]))
   else none)
  else none)
 else some r0
def Bo (k:Nat):Nat→qXm:=yD (fun _ _ _=>none) (Et k)
def JM (k:Nat)(a0:AC):Option (AC×Int):=
 bif !(decide ((Int.tmod (a0.length:Int) 8)=0)) then some ([],2)
 else(Bo k k a0 0 []).bind fun z=>
 some (z,0)
def Bp (k:Nat)(a0:Int):Option Int:=
 bif decide (a0<0) then some (-1)
 else bif decide (a0≥24) then some (-1)
 else bif zB a0 24 then some (List.getD [(-1),6,1,2,2,2,1,1,2,0,2,2,2,0,0,0,1,5,4,1,1,1,1,1] a0.toNat 0)
 else none
abbrev qUa:Type:=zC×zC
abbrev yBk:Type:=Int→zC→zC→AC→Option qUa
def yKc (k:Nat)(rec:yBk)(s7:Int)(b0 b1:zC)(r2:AC):Option qUa:=
 bif decide (s7 < (r2.length : Int)) then (bif zB s7 r2.length then (bif decide (s7=0) then(rec (zA (s7+1)) b0 (b1.1,(r2.getD s7.toNat 0),b1.2.2) r2)
   else bif decide (s7=1) then(rec (zA (s7+1)) b0 (b1.1,b1.2.1,(r2.getD s7.toNat 0),b1.2.2.2) r2)
   else bif decide (s7=2) then(rec (zA (s7+1)) b0 (b1.1,b1.2.1,b1.2.2.1,(r2.getD s7.toNat 0),b1.2.2.2.2) r2)
   else bif decide (s7=3) then(rec (zA (s7+1)) b0 (wA b1 ((r2.getD s7.toNat 0),b1.2.2.2.2.2)) r2)
   else bif decide (s7=4) then(rec (zA (s7+1)) b0 (pL b1 ((r2.getD s7.toNat 0),b1.2.2.2.2.2.2)) r2)
   else bif decide (s7=5) then(rec (zA (s7+1)) b0 (jK b1 (r2.getD s7.toNat 0)) r2)
   else none)
  else none)
 else some (b0,b1)
def OC (k:Nat):Nat→yBk:=yD (fun _ _ _ _=>none) (yKc k)
def JN (k:Nat)(a0:AC):Option (zC×Int):=
 bif decide ((a0.length:Int)=0) then some ((0,0,0,0,0,0,0),2)
 else bif zB 0 a0.length then (bif decide (1 ≤ (a0.length : Int)) then ((JM k (List.drop 1 a0)).bind fun x0=>
   bif !(decide (x0.2=0)) then some ((0,0,0,0,0,0,0),2)
   else(Bp k (zA ((a0.getD 0 0)))).bind fun x1=>
   bif !(decide ((x0.1.length:Int)=x1)) then some ((0,0,0,0,0,0,0),2)
   else(OC k k 0 (0,0,0,0,0,0,0) ((zA ((a0.getD 0 0))),0,0,0,0,0,0) x0.1).bind fun z=>
   some (z.2,0))
  else none)
 else none
def QI (k:Nat)(a0:Int):Option Bool:=
 bif decide (a0≥1) then some (decide (a0≤14))
 else some false
abbrev yCb:Type:=Int→Int→zC→Option (Int⊕Bool)
def Zg (k:Nat)(rec:yCb)(s3 s4:Int)(b0:zC):Option (Int⊕Bool):=
 bif decide (s4 < 6) then (bif decide (s4 = 0) then (bif !(decide (b0.2.1=0)) then some (.inr false)
   else rec s3 (zA (s4+1)) b0)
  else bif decide (s4 = 1) then (bif !(decide (b0.2.2.1=0)) then some (.inr false)
   else rec s3 (zA (s4+1)) b0)
  else bif decide (s4 = 2) then (bif !(decide (b0.2.2.2.1=0)) then some (.inr false)
   else rec s3 (zA (s4+1)) b0)
  else bif decide (s4 = 3) then (bif !(decide (b0.2.2.2.2.1=0)) then some (.inr false)
   else rec s3 (zA (s4+1)) b0)
  else bif decide (s4 = 4) then (bif !(decide (b0.2.2.2.2.2.1=0)) then some (.inr false)
   else rec s3 (zA (s4+1)) b0)
  else bif decide (s4 = 5) then (bif !(decide (b0.2.2.2.2.2.2=0)) then some (.inr false)
   else rec s3 (zA (s4+1)) b0)
  else none)
 else some (.inl s3)
def Ho (k:Nat):Nat→yCb:=yD (fun _ _ _=>none) (Zg k)
def Cg (k:Nat)(a0:zC):Option Bool:=
 (Bp k a0.1).bind fun x0=>
 (Ho k k x0 (wN false x0 0) a0).bind fun z=>
 match z with
 |.inl z1=>some (decide (z1≥0))
 |.inr z2=>some z2
def QJ (k:Nat)(a0:Int):Option Bool:=
 bif decide (a0≥10) then some (decide (a0≤14))
 else some false
def Ch (k:Nat)(a0:vD)(a1:qE):Option Bool:=
 (QI k a1.2.1).bind fun x0=>
 bif !x0 then some false
 else(Cg k a1.2).bind fun x1=>
 bif !x1 then some false
 else(QJ k a1.2.1).bind fun x2=>
 bif x2 then some (decide (a1.1=(-1)))
 else bif decide (a1.1≥0) then some (decide (a1.1<a0.1))
 else some false
abbrev qNo:Type:=List zC→Int→Int→List zC→Option qNg
def FB (k:Nat)(rec:qNo)(s0:List zC)(s1 s6:Int)(r0:List zC):Option qNg:=
 bif decide (s6 < (s0.length : Int)) then (bif zB s6 s0.length then (bif decide ((s0.getD s6.toNat (0, 0, 0, 0, 0, 0, 0)).2.1 = s1) then (bif zB s6 s0.length then (bif zL (r0.length + 1) 56 then (let y0:List zC:=(r0++[(s0.getD s6.toNat (0,0,0,0,0,0,0))])
      rec s0 s1 (zA (s6+1)) y0)
     else none)
    else none)
   else rec s0 s1 (zA (s6+1)) r0)
  else none)
 else some r0
def KC (k:Nat):Nat→qNo
 |0,_,_,_,_=>none
 |n+1,s0,s1,s6,r0=>FB k (KC k n) s0 s1 s6 r0
def uE (k:Nat)(a0:List zC)(a1:Int):Option (List zC):=
 (KC k k a0 a1 0 []).bind fun z=>
 some z
abbrev qPp:Type:=Int×Int×Int×Int×Int×Int×Int×Int×Int×Int×Int×Int×Int×Int
abbrev qNq:Type:=AC→Int→Int→Int→Int→Int→Int→Int→Int→Int→Int→Int→Int→Int→Int→Int→Option qPp
def vF0 (k:Nat)(rec:qNq)(s1:AC)(s6 af ai aj ah aX bp bq av aB aC aE aG aH aI:Int):Option qPp:=
 bif decide (s6 < (s1.length : Int)) then (bif decide (s6 < 6) then (bif zB s6 s1.length then (bif decide (s6=0) then(rec s1 (zA (s6+1)) af ai aj ah aX bp bq av (s1.getD s6.toNat 0) aC aE aG aH aI)
    else bif decide (s6=1) then(rec s1 (zA (s6+1)) af ai aj ah aX bp bq av aB (s1.getD s6.toNat 0) aE aG aH aI)
    else bif decide (s6=2) then(rec s1 (zA (s6+1)) af ai aj ah aX bp bq av aB aC (s1.getD s6.toNat 0) aG aH aI)
    else bif decide (s6=3) then(rec s1 (zA (s6+1)) af ai aj ah aX bp bq av aB aC aE (s1.getD s6.toNat 0) aH aI)
    else bif decide (s6=4) then(rec s1 (zA (s6+1)) af ai aj ah aX bp bq av aB aC aE aG (s1.getD s6.toNat 0) aI)
    else bif decide (s6=5) then(rec s1 (zA (s6+1)) af ai aj ah aX bp bq av aB aC aE aG aH (s1.getD s6.toNat 0))
    else none)
   else none)
  else some (af,ai,aj,ah,aX,bp,bq,av,aB,aC,aE,aG,aH,aI))
 else some (af,ai,aj,ah,aX,bp,bq,av,aB,aC,aE,aG,aH,aI)
def R3 (k:Nat):Nat→qNq
 |0,_,_,_,_,_,_,_,_,_,_,_,_,_,_,_,_=>none
 |n+1,s1,s6,af,ai,aj,ah,aX,bp,bq,av,aB,aC,aE,aG,aH,aI=>vF0 k (R3 k n) s1 s6 af ai aj ah aX bp bq av aB aC aE aG aH aI
def fQ (k:Nat)(a0:Int)(a1:AC):Option zC:=
 (R3 k k a1 0 0 0 0 0 0 0 0 a0 0 0 0 0 0 0).bind fun z=>
 some (z.2.2.2.2.2.2.2.1,z.2.2.2.2.2.2.2.2.1,z.2.2.2.2.2.2.2.2.2.1,z.2.2.2.2.2.2.2.2.2.2.1,z.2.2.2.2.2.2.2.2.2.2.2.1,z.2.2.2.2.2.2.2.2.2.2.2.2.1,z.2.2.2.2.2.2.2.2.2.2.2.2.2)
def QG (k:Nat)(a0:vD)(a1:Int):Option Bool:=
 some (decide (a1=a0.2.2.2.1))
def Zd (k:Nat)(cf bg bD ct bQ cc bT a1:Int):Option Bool:=
 some (decide (a1>bT))
abbrev qT7:Type:=List zC→Int→Int→Option (Unit⊕Int)
def FJ (k:Nat)(rec:qT7)(s0:List zC)(s1 s5:Int):Option (Unit⊕Int):=
 bif decide (s5 < (s0.length : Int)) then (bif zB s5 s0.length then (bif decide ((s0.getD s5.toNat (0,0,0,0,0,0,0)).1=s1) then some (.inr s5)
   else rec s0 s1 (zA (s5+1)))
  else none)
 else some (.inl ())
def FI (k:Nat):Nat→qT7
 |0,_,_,_=>none
 |n+1,s0,s1,s5=>FJ k (FI k n) s0 s1 s5
def nq (k:Nat)(a0:List zC)(a1:Int):Option Int:=
 (FI k k a0 a1 0).bind fun z=>
 match z with
 |.inl z1=>some (-1)
 |.inr z2=>some z2
def oC (k:Nat)(a0:List zC)(a1:Int):Option qOi:=
 (nq k a0 a1).bind fun x0=>
 bif decide (x0<0) then some (a0,0,0,0,0,0,0,0,4)
 else bif (decide (0 ≤ x0)) && (decide (x0 ≤ (a0.length : Int))) then (bif zL (0 + (List.take x0.toNat a0).length) 56 then (bif (decide (0 ≤ (zA (x0 + 1)))) && (decide ((zA (x0 + 1)) ≤ (a0.length : Int))) then (bif zL ((List.take x0.toNat a0).length + (List.drop (zA (x0 + 1)).toNat a0).length) 56 then (bif zB x0 a0.length then some (((List.take x0.toNat a0)++(List.drop (zA (x0+1)).toNat a0)),(gi (a0.getD x0.toNat (0,0,0,0,0,0,0)) 0))
     else none)
    else none)
   else none)
  else none)
 else none
def LM (k:Nat)(a0:vD)(a1:Int):Option Bool:=
 bif decide (a1 > 0) then (bif decide (a1 < a0.2.2.2.1) then (bif !(decide (a0.2.2.2.2=0)) then some (decide ((Int.tmod a1 a0.2.2.2.2)=0))
   else none)
  else some false)
 else some false
def Xo (k:Nat)(cf bg bD ct bQ cc bT a1:Int):Option Bool:=
 bif decide (a1≥cc) then some (decide (a1≤bT))
 else some false
def FA (k:Nat)(rec:qNo)(s0:List zC)(s1 s6:Int)(r0:List zC):Option qNg:=
 bif decide (s6 < (s0.length : Int)) then (bif zB s6 s0.length then ((Xo k (s0.getD s6.toNat (0,0,0,0,0,0,0)).1 (s0.getD s6.toNat (0,0,0,0,0,0,0)).2.1 (s0.getD s6.toNat (0,0,0,0,0,0,0)).2.2.1 (s0.getD s6.toNat (0,0,0,0,0,0,0)).2.2.2.1 (s0.getD s6.toNat (0,0,0,0,0,0,0)).2.2.2.2.1 (s0.getD s6.toNat (0,0,0,0,0,0,0)).2.2.2.2.2.1 (s0.getD s6.toNat (0,0,0,0,0,0,0)).2.2.2.2.2.2 s1).bind fun x0=>
   bif x0 then (bif zB s6 s0.length then (bif zL (r0.length + 1) 56 then (let y0:List zC:=(r0++[(s0.getD s6.toNat (0,0,0,0,0,0,0))])
      rec s0 s1 (zA (s6+1)) y0)
     else none)
    else none)
   else rec s0 s1 (zA (s6+1)) r0)
  else none)
 else some r0
def KB (k:Nat):Nat→qNo
 |0,_,_,_,_=>none
 |n+1,s0,s1,s6,r0=>FA k (KB k n) s0 s1 s6 r0
def Fz (k:Nat)(a0:List zC)(a1:Int):Option (List zC):=
 (KB k k a0 a1 0 []).bind fun z=>
 some z
abbrev qPb:Type:=Int×Bool×(List zC)×(List zC)×(List zC)
abbrev qMh:Type:=Int→Bool→Int→List zC→List zC→List zC→Option qPb
def FD (k:Nat)(rec:qMh)(s7:Int)(s9:Bool)(aw:Int)(r0 r1 r2:List zC):Option qPb:=
 bif decide (aw < (r2.length : Int)) then (bif s9 then (bif zB aw r2.length then(rec s7 (decide ((r2.getD aw.toNat (0,0,0,0,0,0,0)).2.2.2.2.1=3)) (zA (aw+1)) r0 r1 r2)
   else none)
  else rec s7 false (zA (aw+1)) r0 r1 r2)
 else some (s7,s9,r0,r1,r2)
def FC (k:Nat):Nat→qMh
 |0,_,_,_,_,_,_=>none
 |n+1,s7,s9,aw,r0,r1,r2=>FD k (FC k n) s7 s9 aw r0 r1 r2
abbrev qNi:Type:=Int→List zC→List zC→Option qNg
def FE (k:Nat)(rec:qNi)(s7:Int)(r0 r1:List zC):Option qNg:=
 bif decide (s7 < (r0.length : Int)) then (bif zB s7 r0.length then ((uE k r0 (r0.getD s7.toNat (0,0,0,0,0,0,0)).2.1).bind fun x1=>
   (FC k k s7 true 0 r0 r1 x1).bind fun z=>
   bif zB 0 z.2.2.2.2.length then (bif zB z.1 z.2.2.1.length then (bif (decide ((z.2.2.2.2.getD 0 (0, 0, 0, 0, 0, 0, 0)).1 = (z.2.2.1.getD z.1.toNat (0, 0, 0, 0, 0, 0, 0)).1)) && ((decide ((z.2.2.2.2.getD 0 (0, 0, 0, 0, 0, 0, 0)).2.1 = (z.2.2.1.getD z.1.toNat (0, 0, 0, 0, 0, 0, 0)).2.1)) && ((decide ((z.2.2.2.2.getD 0 (0, 0, 0, 0, 0, 0, 0)).2.2.1 = (z.2.2.1.getD z.1.toNat (0, 0, 0, 0, 0, 0, 0)).2.2.1)) && ((decide ((z.2.2.2.2.getD 0 (0, 0, 0, 0, 0, 0, 0)).2.2.2.1 = (z.2.2.1.getD z.1.toNat (0, 0, 0, 0, 0, 0, 0)).2.2.2.1)) && ((decide ((z.2.2.2.2.getD 0 (0, 0, 0, 0, 0, 0, 0)).2.2.2.2.1 = (z.2.2.1.getD z.1.toNat (0, 0, 0, 0, 0, 0, 0)).2.2.2.2.1)) && ((decide ((z.2.2.2.2.getD 0 (0, 0, 0, 0, 0, 0, 0)).2.2.2.2.2.1 = (z.2.2.1.getD z.1.toNat (0, 0, 0, 0, 0, 0, 0)).2.2.2.2.2.1)) && (decide ((z.2.2.2.2.getD 0 (0, 0, 0, 0, 0, 0, 0)).2.2.2.2.2.2 = (z.2.2.1.getD z.1.toNat (0, 0, 0, 0, 0, 0, 0)).2.2.2.2.2.2))))))) then (bif zB z.1 z.2.2.1.length then (bif zL (z.2.2.2.1.length + 1) 56 then (let y0:List zC:=(z.2.2.2.1++[(z.2.2.1.getD z.1.toNat (0,0,0,0,0,0,0))])
        rec (zA (z.1+1)) z.2.2.1 y0)
       else none)
      else none)
     else bif z.2.1 then (bif zB z.1 z.2.2.1.length then (bif zL (z.2.2.2.1.length + 1) 56 then (let y1:List zC:=(z.2.2.2.1++[(z.2.2.1.getD z.1.toNat (0,0,0,0,0,0,0))])
        rec (zA (z.1+1)) z.2.2.1 y1)
       else none)
      else none)
     else rec (zA (z.1+1)) z.2.2.1 z.2.2.2.1)
    else none)
   else none)
  else none)
 else some r1
def KE (k:Nat):Nat→qNi
 |0,_,_,_=>none
 |n+1,s7,r0,r1=>FE k (KE k n) s7 r0 r1
def KD (k:Nat)(a0:List zC)(a1:Int):Option (List zC):=
 (Fz k a0 a1).bind fun x0=>
 (KE k k 0 x0 []).bind fun z1=>
 some z1
def WT (k:Nat)(au:List zJ)(az:EQ)(ay:AC)(ax:EQ)(ie cw dv eI dw je jg:Int):Option Bool:=
 bif decide (cw ≥ 0) then (bif decide (cw < (au.length : Int)) then (bif decide (dv ≥ 0) then (bif decide (dv < (au.length : Int)) then (bif !(decide (cw = dv)) then (bif decide (eI ≥ 1) then (bif decide (eI ≤ 1099511627776) then (bif decide (dw≥1) then some (decide (dw≤3))
        else some false)
       else some false)
      else some false)
     else some false)
    else some false)
   else some false)
  else some false)
 else some false
abbrev qU6:Type:=List zC→Int→List zJ→EQ→AC→EQ→Option qLe
def E1 (k:Nat)(rec:qU6)(s1:List zC)(s5:Int)(af:List zJ)(ai:EQ)(aj:AC)(ah:EQ):Option qLe:=
 bif decide (s5 < (s1.length : Int)) then (bif zB s5 s1.length then ((WT k af ai aj ah (s1.getD s5.toNat (0,0,0,0,0,0,0)).1 (s1.getD s5.toNat (0,0,0,0,0,0,0)).2.1 (s1.getD s5.toNat (0,0,0,0,0,0,0)).2.2.1 (s1.getD s5.toNat (0,0,0,0,0,0,0)).2.2.2.1 (s1.getD s5.toNat (0,0,0,0,0,0,0)).2.2.2.2.1 (s1.getD s5.toNat (0,0,0,0,0,0,0)).2.2.2.2.2.1 (s1.getD s5.toNat (0,0,0,0,0,0,0)).2.2.2.2.2.2).bind fun x0=>
   bif !x0 then some (.inr false)
   else rec s1 (zA (s5+1)) af ai aj ah)
  else none)
 else some (.inl s1)
def Ki (k:Nat):Nat→qU6
 |0,_,_,_,_,_,_=>none
 |n+1,s1,s5,af,ai,aj,ah=>E1 k (Ki k n) s1 s5 af ai aj ah
def Kh (k:Nat)(au:List zJ)(az:EQ)(ay:AC)(ax:EQ)(a1:List zC):Option Bool:=
 (Ki k k a1 0 au az ay ax).bind fun z=>
 match z with
 |.inl z1=>some (decide ((z1.length:Int)≤64))
 |.inr z2=>some z2
abbrev qTi:Type:=EQ→Int→EQ→Option EQ
def ES (k:Nat)(rec:qTi)(s0:EQ)(s4:Int)(m0:EQ):Option EQ:=
 bif decide (s4 < (s0.length : Int)) then (bif zB s4 s0.length then (bif zL (0 + (s0.getD s4.toNat []).length) 8 then (bif zL (m0.length+1) 24 then(rec s0 (zA (s4+1)) (m0++[(s0.getD s4.toNat [])]))
    else none)
   else none)
  else none)
 else some m0
def J4 (k:Nat):Nat→qTi
 |0,_,_,_=>none
 |n+1,s0,s4,m0=>ES k (J4 k n) s0 s4 m0
def J5 (k:Nat)(a0:EQ):Option EQ:=
 (J4 k k a0 0 []).bind fun z=>
 some z
def pt (k:Nat)(au:List zJ)(az:EQ)(ay:AC)(ax:EQ):Option zh:=
 bif zL (0 + au.length) 24 then ((J5 k az).bind fun x0=>
  bif zL (0 + ay.length) 8 then ((J5 k ax).bind fun x1=>
   some (au,x0,ay,x1))
  else none)
 else none
abbrev qJg:Type:=List zC→Int→Int→Int→Int→Option wC
def E6 (k:Nat)(rec:qJg)(s0:List zC)(s1 s6 s7 s8:Int):Option wC:=
 bif decide (s8 < (s0.length : Int)) then (bif zB s8 s0.length then (bif !(decide ((s0.getD s8.toNat (0,0,0,0,0,0,0)).2.1=s1)) then(rec s0 s1 s6 s7 (zA (s8+1)))
   else bif zB s8 s0.length then (bif decide ((s0.getD s8.toNat (0, 0, 0, 0, 0, 0, 0)).2.2.2.2.1 = 3) then (bif zB s8 s0.length then(rec s0 s1 (zA (s6+(s0.getD s8.toNat (0,0,0,0,0,0,0)).2.2.2.1)) s7 (zA (s8+1)))
     else none)
    else bif zB s8 s0.length then(rec s0 s1 s6 (zA (s7+(s0.getD s8.toNat (0,0,0,0,0,0,0)).2.2.2.1)) (zA (s8+1)))
    else none)
   else none)
  else none)
 else some (s6,s7)
def Kl (k:Nat):Nat→qJg
 |0,_,_,_,_,_=>none
 |n+1,s0,s1,s6,s7,s8=>E6 k (Kl k n) s0 s1 s6 s7 s8
def Kk (k:Nat)(a0:List zC)(a1:Int):Option wC:=
 (Kl k k a0 a1 0 0 0).bind fun z=>
 some (z.1,z.2)
def O7 (k:Nat)(a0:List zC)(a1:Int):Option Int:=
 (Kk k a0 a1).bind fun x0=>
 some x0.2
def Km (k:Nat)(bx bH aT a1:Int):Option Int:=
 bif decide (a1≥aT) then some 0
 else some (zA (aT-a1))
abbrev yBa:Type:=List zC→Int→Int→Int→Int→Option Int
def E5 (k:Nat)(rec:yBa)(s0:List zC)(s1 s2 s7 s8:Int):Option Int:=
 bif decide (s8 < (s0.length : Int)) then (bif zB s8 s0.length then (bif decide ((s0.getD s8.toNat (0, 0, 0, 0, 0, 0, 0)).2.1 = s1) then (bif zB s8 s0.length then (bif decide ((s0.getD s8.toNat (0, 0, 0, 0, 0, 0, 0)).2.2.1 = s2) then (bif zB s8 s0.length then(rec s0 s1 s2 (zA (s7+(s0.getD s8.toNat (0,0,0,0,0,0,0)).2.2.2.1)) (zA (s8+1)))
      else none)
     else rec s0 s1 s2 s7 (zA (s8+1)))
    else none)
   else rec s0 s1 s2 s7 (zA (s8+1)))
  else none)
 else some s7
def Kj (k:Nat):Nat→yBa
 |0,_,_,_,_,_=>none
 |n+1,s0,s1,s2,s7,s8=>E5 k (Kj k n) s0 s1 s2 s7 s8
def xz (k:Nat)(a0:List zC)(a1 a2:Int):Option Int:=
 (Kj k k a0 a1 a2 0 0).bind fun z=>
 some z
def O5 (k:Nat)(a0:List zC)(a1 a2:Int):Option Int:=
 (xz k a0 a1 a2).bind fun x0=>
 (xz k a0 a2 a1).bind fun x1=>
 some (zA (x0-x1))
abbrev qTy:Type:=EQ→Int→Int→Option (Unit⊕Bool)
def EE (k:Nat)(rec:qTy)(s0:EQ)(s1 s5:Int):Option (Unit⊕Bool):=
 bif decide (s5 < s1) then (bif zB s5 s0.length then (bif !(decide (((s0.getD s5.toNat []).length:Int)=s1)) then some (.inr false)
   else rec s0 s1 (zA (s5+1)))
  else none)
 else some (.inl ())
def JW (k:Nat):Nat→qTy
 |0,_,_,_=>none
 |n+1,s0,s1,s5=>EE k (JW k n) s0 s1 s5
def JV (k:Nat)(a0:EQ)(a1:Int):Option Bool:=
 bif !(decide ((a0.length:Int)=a1)) then some false
 else(JW k k a0 a1 0).bind fun z=>
 match z with
 |.inl z1=>some true
 |.inr z2=>some z2
def JT (k:Nat)(bx bH aT:Int):Option Bool:=
 bif decide (bx > (-4611686018427387904)) then (bif decide (bx < 4611686018427387904) then (bif decide (bH ≥ 0) then (bif decide (bH ≤ 2305843009213693952) then (bif decide (aT≥0) then some (decide (aT≤2305843009213693952))
     else some false)
    else some false)
   else some false)
  else some false)
 else some false
def JU (k:Nat)(a0:Int):Option Bool:=
 bif decide (a0≥(-1)) then some (decide (a0≤2305843009213693952))
 else some false
abbrev qTa:Type:=(Int×Int×(List zJ)×EQ×AC×EQ)⊕Bool
abbrev qUi:Type:=Int→Int→Int→List zJ→EQ→AC→EQ→Option qTa
def EG (k:Nat)(rec:qUi)(s3 s4 s5:Int)(af:List zJ)(ai:EQ)(aj:AC)(ah:EQ):Option qTa:=
 bif decide (s5 < s3) then (bif zB s4 ai.length then (bif zB s5 (ai.getD s4.toNat []).length then ((JU k ((ai.getD s4.toNat []).getD s5.toNat 0)).bind fun x4=>
    bif !x4 then some (.inr false)
    else bif zB s4 ah.length then (bif zB s5 (ah.getD s4.toNat []).length then (bif decide (((ah.getD s4.toNat []).getD s5.toNat 0)≤(-72057594037927936)) then some (.inr false)
      else bif zB s4 ah.length then (bif zB s5 (ah.getD s4.toNat []).length then (bif decide (((ah.getD s4.toNat []).getD s5.toNat 0)≥72057594037927936) then some (.inr false)
        else bif zB s4 ah.length then (bif zB s5 (ah.getD s4.toNat []).length then (bif zB s5 ah.length then (bif zB s4 (ah.getD s5.toNat []).length then (bif !(decide (((ah.getD s4.toNat []).getD s5.toNat 0)=(zA (0-((ah.getD s5.toNat []).getD s4.toNat 0))))) then some (.inr false)
            else rec s3 s4 (zA (s5+1)) af ai aj ah)
           else none)
          else none)
         else none)
        else none)
       else none)
      else none)
     else none)
    else none)
   else none)
  else none)
 else some (.inl (s3,s4,af,ai,aj,ah))
def EF (k:Nat):Nat→qUi
 |0,_,_,_,_,_,_,_=>none
 |n+1,s3,s4,s5,af,ai,aj,ah=>EG k (EF k n) s3 s4 s5 af ai aj ah
abbrev qJ5:Type:=Int→Int→List zJ→EQ→AC→EQ→Option (Unit⊕Bool)
def EI (k:Nat)(rec:qJ5)(s3 s4:Int)(af:List zJ)(ai:EQ)(aj:AC)(ah:EQ):Option (Unit⊕Bool):=
 bif decide (s4 < s3) then (bif zB s4 af.length then ((JT k (af.getD s4.toNat (0,0,0)).1 (af.getD s4.toNat (0,0,0)).2.1 (af.getD s4.toNat (0,0,0)).2.2).bind fun x2=>
   bif !x2 then some (.inr false)
   else bif zB s4 aj.length then ((JU k (aj.getD s4.toNat 0)).bind fun x3=>
    bif !x3 then some (.inr false)
    else(EF k k s3 s4 0 af ai aj ah).bind fun z=>
    match z with
    |.inl z1=>rec z1.1 (zA (z1.2.1+1)) z1.2.2.1 z1.2.2.2.1 z1.2.2.2.2.1 z1.2.2.2.2.2
    |.inr z2=>some (.inr z2))
   else none)
  else none)
 else some (.inl ())
def EH (k:Nat):Nat→qJ5
 |0,_,_,_,_,_,_=>none
 |n+1,s3,s4,af,ai,aj,ah=>EI k (EH k n) s3 s4 af ai aj ah
def ON (k:Nat)(au:List zJ)(az:EQ)(ay:AC)(ax:EQ):Option Bool:=
 bif decide ((au.length:Int)<1) then some false
 else bif decide ((au.length:Int)>6) then some false
 else(JV k az (au.length:Int)).bind fun x0=>
 bif !x0 then some false
 else(JV k ax (au.length:Int)).bind fun x1=>
 bif !x1 then some false
 else bif !(decide ((ay.length:Int)=(au.length:Int))) then some false
 else(EH k k (au.length:Int) 0 au az ay ax).bind fun z3=>
 match z3 with
 |.inl z4=>some true
 |.inr z5=>some z5
abbrev qWa:Type:=(List zC)×Int×(List zJ)×EQ×AC×EQ×(List zJ)×EQ×AC×EQ
abbrev qX3:Type:=List zC→Int→Int→List zJ→EQ→AC→EQ→List zJ→EQ→AC→EQ→Option qWa
def E8 (k:Nat)(rec:qX3)(s1:List zC)(s7 s8:Int)(af:List zJ)(ai:EQ)(aj:AC)(ah:EQ)(r3:List zJ)(m4:EQ)(r5:AC)(m6:EQ):Option qWa:=
 bif decide (s8 < (r3.length : Int)) then ((O5 k s1 s7 s8).bind fun x4=>
  bif zB s7 r3.length then (bif zB s7 r3.length then (let y1:List zJ:=(r3.set s7.toNat ((zA ((r3.getD s7.toNat (0,0,0)).1-x4)),(r3.getD s7.toNat (0,0,0)).2))
    bif zB s7 m6.length then (bif zB s7 m6.length then (bif zB s8 (m6.getD s7.toNat []).length then (bif zB s8 (m6.getD s7.toNat []).length then (let y2:EQ:=(m6.set s7.toNat ((m6.getD s7.toNat []).set s8.toNat (zA (((m6.getD s7.toNat []).getD s8.toNat 0)+x4))))
        rec s1 s7 (zA (s8+1)) af ai aj ah y1 m4 r5 y2)
       else none)
      else none)
     else none)
    else none)
   else none)
  else none)
 else some (s1,s7,af,ai,aj,ah,r3,m4,r5,m6)
def E7 (k:Nat):Nat→qX3
 |0,_,_,_,_,_,_,_,_,_,_,_=>none
 |n+1,s1,s7,s8,af,ai,aj,ah,r3,m4,r5,m6=>E8 k (E7 k n) s1 s7 s8 af ai aj ah r3 m4 r5 m6
abbrev qWt:Type:=List zC→Int→List zJ→EQ→AC→EQ→List zJ→EQ→AC→EQ→Option qOs
def Fa (k:Nat)(rec:qWt)(s1:List zC)(s7:Int)(af:List zJ)(ai:EQ)(aj:AC)(ah:EQ)(r3:List zJ)(m4:EQ)(r5:AC)(m6:EQ):Option qOs:=
 bif decide (s7 < (r3.length : Int)) then (bif zB s7 r3.length then ((O7 k s1 s7).bind fun x2=>
   (Km k (r3.getD s7.toNat (0,0,0)).1 (r3.getD s7.toNat (0,0,0)).2.1 (r3.getD s7.toNat (0,0,0)).2.2 x2).bind fun x3=>
   bif zB s7 r3.length then (let y0:List zJ:=(r3.set s7.toNat ((r3.getD s7.toNat (0,0,0)).1,(r3.getD s7.toNat (0,0,0)).2.1,x3))
    (E7 k k s1 s7 0 af ai aj ah y0 m4 r5 m6).bind fun z=>
    rec z.1 (zA (z.2.1+1)) z.2.2.1 z.2.2.2.1 z.2.2.2.2.1 z.2.2.2.2.2.1 z.2.2.2.2.2.2.1 z.2.2.2.2.2.2.2.1 z.2.2.2.2.2.2.2.2.1 z.2.2.2.2.2.2.2.2.2)
   else none)
  else none)
 else some (af,ai,aj,ah,r3,m4,r5,m6)
def E9 (k:Nat):Nat→qWt
 |0,_,_,_,_,_,_,_,_,_,_=>none
 |n+1,s1,s7,af,ai,aj,ah,r3,m4,r5,m6=>Fa k (E9 k n) s1 s7 af ai aj ah r3 m4 r5 m6
def Bz (k:Nat)(au:List zJ)(az:EQ)(ay:AC)(ax:EQ)(a1:List zC):Option ((List zJ)×EQ×AC×EQ×Int):=
 (Kh k au az ay ax a1).bind fun x0=>
 bif !x0 then some (au,az,ay,ax,1)
 else(pt k au az ay ax).bind fun x1=>
 (E9 k k a1 0 au az ay ax x1.1 x1.2.1 x1.2.2.1 x1.2.2.2).bind fun z1=>
 (ON k z1.2.2.2.2.1 z1.2.2.2.2.2.1 z1.2.2.2.2.2.2.1 z1.2.2.2.2.2.2.2).bind fun x5=>
 bif !x5 then some (wA z1 8)
 else some (yLp z1 0)
abbrev qWk:Type:=Int→Int→Int→List zJ→EQ→AC→EQ→Option Int
def Fe (k:Nat)(rec:qWk)(s1 s5 s6:Int)(af:List zJ)(ai:EQ)(aj:AC)(ah:EQ):Option Int:=
 bif zB s1 ah.length then (bif decide (s6 < ((ah.getD s1.toNat []).length : Int)) then (bif zB s1 ah.length then (bif zB s6 (ah.getD s1.toNat []).length then(rec s1 (zA (s5+((ah.getD s1.toNat []).getD s6.toNat 0))) (zA (s6+1)) af ai aj ah)
    else none)
   else none)
  else some s5)
 else none
def Fc (k:Nat):Nat→qWk
 |0,_,_,_,_,_,_,_=>none
 |n+1,s1,s5,s6,af,ai,aj,ah=>Fe k (Fc k n) s1 s5 s6 af ai aj ah
def Pb (k:Nat)(au:List zJ)(az:EQ)(ay:AC)(ax:EQ)(a1:Int):Option Int:=
 (Fc k k a1 0 0 au az ay ax).bind fun z=>
 some z
abbrev qW0:Type:=(Int×Int×Int×Int×Int×(List zJ)×EQ×AC×EQ)⊕Bool
abbrev qJy:Type:=List zC→Int→Int→Int→Int→Int→Int→List zJ→EQ→AC→EQ→Option qW0
def Fg (k:Nat)(rec:qJy)(s1:List zC)(s2 s7 s8 s9 aw aQ:Int)(af:List zJ)(ai:EQ)(aj:AC)(ah:EQ):Option qW0:=
 bif decide (aQ < (af.length : Int)) then ((xz k s1 s2 aQ).bind fun x2=>
  (xz k s1 aQ s2).bind fun x3=>
  (xz k s1 s2 aQ).bind fun x4=>
  bif decide (x4 > 0) then (bif zB s2 ai.length then (bif zB aQ (ai.getD s2.toNat []).length then (bif !(decide (((ai.getD s2.toNat []).getD aQ.toNat 0) = (-1))) then (bif zB s2 ah.length then (bif zB aQ (ah.getD s2.toNat []).length then (bif zB s2 ai.length then (bif zB aQ (ai.getD s2.toNat []).length then (bif decide ((zA (((ah.getD s2.toNat []).getD aQ.toNat 0)+(zA (x2-x3))))>((ai.getD s2.toNat []).getD aQ.toNat 0)) then some (.inr true)
          else rec s1 s2 s7 s8 (zA (s9-(zA (x2-x3)))) (zA (aw+(zA (x2-x3)))) (zA (aQ+1)) af ai aj ah)
         else none)
        else none)
       else none)
      else none)
     else rec s1 s2 s7 s8 (zA (s9-(zA (x2-x3)))) (zA (aw+(zA (x2-x3)))) (zA (aQ+1)) af ai aj ah)
    else none)
   else none)
  else rec s1 s2 s7 s8 (zA (s9-(zA (x2-x3)))) (zA (aw+(zA (x2-x3)))) (zA (aQ+1)) af ai aj ah)
 else some (.inl (s2,s7,s8,s9,aw,af,ai,aj,ah))
def sS (k:Nat):Nat→qJy
 |0,_,_,_,_,_,_,_,_,_,_,_=>none
 |n+1,s1,s2,s7,s8,s9,aw,aQ,af,ai,aj,ah=>Fg k (sS k n) s1 s2 s7 s8 s9 aw aQ af ai aj ah
def Pf (k:Nat)(au:List zJ)(az:EQ)(ay:AC)(ax:EQ)(a1:List zC)(a2:Int):Option Bool:=
 (Kk k a1 a2).bind fun x0=>
 bif decide ((zA (x0.1+x0.2))=0) then some false
 else bif zB a2 au.length then (bif zB a2 au.length then ((Pb k au az ay ax a2).bind fun x1=>
   (sS k k a1 a2 x0.1 x0.2 (zA ((au.getD a2.toNat (0,0,0)).1+(au.getD a2.toNat (0,0,0)).2.1)) x1 0 au az ay ax).bind fun z=>
   match z with
   |.inl z1=>bif decide (z1.2.2.2.1<0) then some true
    else bif decide (z1.2.1 > 0) then (bif zB z1.1 z1.2.2.2.2.2.1.length then ((Km k (z1.2.2.2.2.2.1.getD z1.1.toNat (0,0,0)).1 (z1.2.2.2.2.2.1.getD z1.1.toNat (0,0,0)).2.1 (z1.2.2.2.2.2.1.getD z1.1.toNat (0,0,0)).2.2 z1.2.2.1).bind fun x5=>
      bif decide (z1.2.2.2.1<x5) then some true
      else bif zB z1.1 z1.2.2.2.2.2.2.2.1.length then (bif !(decide ((z1.2.2.2.2.2.2.2.1.getD z1.1.toNat 0) = (-1))) then (bif zB z1.1 z1.2.2.2.2.2.2.2.1.length then some (decide (z1.2.2.2.2.1>(z1.2.2.2.2.2.2.2.1.getD z1.1.toNat 0)))
        else none)
       else some false)
      else none)
     else none)
    else bif zB z1.1 z1.2.2.2.2.2.2.2.1.length then (bif !(decide ((z1.2.2.2.2.2.2.2.1.getD z1.1.toNat 0) = (-1))) then (bif zB z1.1 z1.2.2.2.2.2.2.2.1.length then some (decide (z1.2.2.2.2.1>(z1.2.2.2.2.2.2.2.1.getD z1.1.toNat 0)))
      else none)
     else some false)
    else none
   |.inr z2=>some z2)
  else none)
 else none
end Go.Ab.Gi
