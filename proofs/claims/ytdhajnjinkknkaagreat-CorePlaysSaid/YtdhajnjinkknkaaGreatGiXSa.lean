/- part 6 -/
import Derived.Test.YtdhajnjinkknkaaGreatGiAbD
set_option linter.unusedVariables false
set_option maxRecDepth 100000
namespace Go.Ab.Gi
abbrev fa:Go.Ab.Ty:=.pair (.int .i64) (.int .i64)
abbrev wZ:Type:=Int×Bool
abbrev wP:Type:=Int×Int×Bool
abbrev qY:Type:=Int×Int×Int×Int×Int×Int×Int×Int
abbrev zD:Type:=Int×Int×Int×Int×Int×Int×Int
abbrev Ha:Type:=Int×Int×Int×Int×Int×Int
abbrev zO:Type:=Int×Int×Int
abbrev wO:Type:=Int×Int
abbrev X3:Type:=(List zD)×Int×Int×Int×Int×Int×Int×Int×Int
abbrev oO:Type:=(List zO)×(List (List Int))×(List Int)×(List (List Int))×(List zD)×(List zD)
abbrev yH:Go.Ab.Ty:=.pair (.int .i64) fa
abbrev ySn:Type:=Bool×Int×Int×Int×Int×Int×Int×Int×Int×Int×Int×Int×Int×Int×Int×(List zO)×(List (List Int))×(List Int)×(List (List Int))
abbrev GI:Type:=Int×(List zO)×(List (List Int))×(List Int)×(List (List Int))×(List Int)×(List (List Int))×(List zD)×(List Int)×Int×Bool×(List qY)
abbrev vW:Type:=Int×(List zO)×(List (List Int))×(List Int)×(List (List Int))×(List Int)×(List (List Int))×(List zD)×(List Int)×Int×Bool
abbrev qy:Type:=Int×(List wO)×Int×Int×Int×Int×(List zO)×(List (List Int))×(List Int)×(List (List Int))×(List Int)×(List (List Int))×(List zD)×(List Int)×Int×Bool×Int×(List qY)×Int
abbrev wW:Type:=Int×(List wO)×Int×Int×Int×Int×(List zO)×(List (List Int))×(List Int)×(List (List Int))×(List Int)×(List (List Int))×(List zD)×(List Int)×Int×Bool×Int×(List qY)
abbrev nG:Type:=Int×(List wO)×Int×Int×Int×Int×(List zO)×(List (List Int))×(List Int)×(List (List Int))×(List Int)×(List (List Int))×(List zD)×(List Int)×Int×Bool×Int×Int
abbrev jo:Type:=Int×(List wO)×Int×Int×Int×Int×(List zO)×(List (List Int))×(List Int)×(List (List Int))×(List Int)×(List (List Int))×(List zD)×(List Int)×Int×Bool×Int
abbrev vH:Type:=Int×(List wO)×Int×Int×Int
abbrev vMs:Go.Ab.Ty:=.pair (.int .i64) yH
abbrev vB5:Go.Ab.Ty:=.pair (.int .i64) vMs
abbrev vE5:Go.Ab.Ty:=.pair (.int .i64) vB5
abbrev zG:Go.Ab.Ty:=.pair (.int .i64) vE5
abbrev yA:Go.Ab.Ty:=.pair (.int .i64) zG
abbrev T0:List Go.Ab.CS:=[.dat false (.int .i64),.dat false (.int .i64),.dat false (.sl (.int .i64))]
abbrev jI:List Go.Ab.CS:=[.dat false yH,.dat false (.sl (.int .i64)),.dat false (.int .i64),.dat false (.sl (.int .i64))]
abbrev vZ:List Go.Ab.CS:=[.dat true yH,.dat true (.sl (.int .i64)),.dat true (.int .i64),.dat true (.sl (.int .i64))]
abbrev nF:List Go.Ab.CS:=[.int .i64,.dat false fa,.int .i64,.int .i64,.int .i64]
abbrev KZ:List Go.Ab.CS:=[.int .i64,.dat false yH,.dat false (.sl (.int .i64)),.dat false (.int .i64),.dat false (.sl (.int .i64)),.dat false (.int .i64),.dat false (.sl (.int .i64)),.dat false zG,.dat false (.int .i64),.int .i64,.bool]
abbrev K1:List Go.Ab.CS:=[.int .i64,.dat true fa,.int .i64,.int .i64,.int .i64]
abbrev Tz:List Go.Ab.CS:=[.int .i64,.dat true fa,.int .i64,.int .i64,.int .i64,.int .i64,.dat true yH,.dat true (.sl (.int .i64)),.dat true (.int .i64),.dat true (.sl (.int .i64)),.dat true (.int .i64),.dat true (.sl (.int .i64)),.dat true zG,.dat true (.int .i64),.int .i64,.bool,.int .i64,.lit (.osl 1001001 none)]
abbrev Vc:List Go.Ab.CS:=[.int .i64,.dat true fa,.int .i64,.int .i64,.int .i64,.int .i64,.dat true yH,.dat true (.sl (.int .i64)),.dat true (.int .i64),.dat true (.sl (.int .i64)),.dat true (.int .i64),.dat true (.sl (.int .i64)),.dat true zG,.dat true (.int .i64),.int .i64,.bool,.int .i64,.lit .nsl]
abbrev Xx:List Go.Ab.CS:=[.int .i64,.dat true fa,.int .i64,.int .i64,.int .i64,.int .i64,.dat true yH,.dat true (.sl (.int .i64)),.dat true (.int .i64),.dat true (.sl (.int .i64)),.dat true (.int .i64),.dat true (.sl (.int .i64)),.dat true zG,.dat true (.int .i64),.int .i64,.bool,.int .i64,.lit .nsl,.int .i64]
abbrev kn:List Go.Ab.CS:=[.int .i64,.dat true yH,.dat true (.sl (.int .i64)),.dat true (.int .i64),.dat true (.sl (.int .i64)),.dat true (.int .i64),.dat true (.sl (.int .i64)),.dat true zG,.dat true (.int .i64),.int .i64,.bool]
abbrev wD:List Go.Ab.CS:=[.int .i64,.int .i64,.int .i64,.int .i64,.int .i64,.int .i64,.int .i64]
abbrev yPk:List Go.Ab.CS:=[.int .i64,.int .i64,.int .i64,.int .i64,.int .i64,.int .i64,.int .i64,.int .i64,.int .i64,.int .i64,.int .i64,.int .i64,.int .i64,.int .i64,.dat true yH,.dat true (.sl (.int .i64)),.dat true (.int .i64),.dat true (.sl (.int .i64))]
abbrev LV:List Go.Ab.CS:=[.int .i64,.int .i64,.int .i64,.int .i64,.int .i64,.int .i64,.int .i64,.int .i64,.int .i64,.int .i64,.int .i64,.int .i64,.int .i64,.int .i64,.lit .nsl,.lit .nsl,.lit .nsl,.lit .nsl]
abbrev yAu:List Go.Ab.CS:=[.int .i64,.lit (.osl 1001002 none),.lit (.osl 1001003 none),.lit (.osl 1001004 none),.lit (.osl 1001005 none),.lit (.osl 1001006 none),.lit (.osl 1001007 none),.lit .nsl,.lit .nsl,.int .i64,.bool]
abbrev yO3:List Go.Ab.CS:=[.int .i64,.lit (.osl 1001003 none),.lit (.osl 1001004 none),.lit (.osl 1001005 none),.lit (.osl 1001006 none),.lit (.osl 1001007 none),.lit (.osl 1001008 none),.lit .nsl,.lit .nsl,.int .i64,.bool]
abbrev K4:List Go.Ab.CS:=[.int .i64,.lit (.osl 1001003 none),.lit (.osl 1001004 none),.lit (.osl 1001005 none),.lit (.osl 1001006 none),.lit (.osl 1001007 none),.lit .nsl,.lit .nsl,.lit .nsl,.int .i64,.bool]
abbrev gk:List Go.Ab.CS:=[.int .i64,.lit .nsl,.lit .nsl,.lit .nsl,.lit .nsl,.lit .nsl,.lit .nsl,.lit .nsl,.lit .nsl,.int .i64,.bool]
abbrev TT:List Go.Ab.CS:=[.lit (.osl 1001002 none),.lit (.osl 1001003 none),.lit (.osl 1001004 none)]
abbrev oN:List Go.Ab.CS:=[.lit (.osl 1001003 none),.lit (.osl 1001004 none),.lit (.osl 1001005 none),.lit (.osl 1001006 none)]
abbrev yRj:List Go.Ab.CS:=[.lit (.osl 1001004 none),.lit (.osl 1001005 none),.lit (.osl 1001006 none),.lit (.osl 1001007 none)]
abbrev lP:List Go.Ab.CS:=[.lit .nsl,.lit .nsl,.lit .nsl,.lit .nsl]
abbrev LN:List Go.Ab.PC:=[.dat false (.int .i64),.dat false (.int .i64),.dat false (.sl (.int .i64))]
abbrev jD:List Go.Ab.PC:=[.dat false yH,.dat false (.sl (.int .i64)),.dat false (.int .i64),.dat false (.sl (.int .i64))]
abbrev iS:List Go.Ab.PC:=[.dat true yH,.dat true (.sl (.int .i64)),.dat true (.int .i64),.dat true (.sl (.int .i64))]
abbrev iR:List Go.Ab.PC:=[.int .i64,.dat false fa,.int .i64,.int .i64,.int .i64]
abbrev S1:List Go.Ab.PC:=[.int .i64,.dat false fa,.int .i64,.int .i64,.int .i64,.int .i64,.dat false yH,.dat false (.sl (.int .i64)),.dat false (.int .i64),.dat false (.sl (.int .i64)),.dat false (.int .i64),.dat false (.sl (.int .i64)),.dat false zG,.dat false (.int .i64),.int .i64,.bool,.int .i64,.dat false yA]
abbrev yUl:List Go.Ab.PC:=[.int .i64,.dat false fa,.int .i64,.int .i64,.int .i64,.int .i64,.dat false yH,.dat false (.sl (.int .i64)),.dat false (.int .i64),.dat false (.sl (.int .i64)),.dat false (.int .i64),.dat false (.sl (.int .i64)),.dat false zG,.dat false (.int .i64),.int .i64,.bool,.int .i64,.dat false yA,.int .i64]
abbrev oL:List Go.Ab.PC:=[.int .i64,.dat false yH,.dat false (.sl (.int .i64)),.dat false (.int .i64),.dat false (.sl (.int .i64)),.dat false (.int .i64),.dat false (.sl (.int .i64)),.dat false zG,.dat false (.int .i64),.int .i64,.bool]
abbrev Mk:List Go.Ab.PC:=[.int .i64,.dat true fa,.int .i64,.int .i64,.int .i64]
abbrev tF:List Go.Ab.PC:=[.int .i64,.dat true yH,.dat true (.sl (.int .i64)),.dat true (.int .i64),.dat true (.sl (.int .i64)),.dat true (.int .i64),.dat true (.sl (.int .i64)),.dat true zG,.dat true (.int .i64),.int .i64,.bool]
abbrev lO:List Go.Ab.PC:=[.int .i64,.int .i64,.int .i64]
abbrev GZ:List Go.Ab.PC:=[.int .i64,.int .i64,.int .i64,.int .i64,.int .i64,.int .i64]
abbrev vI:List Go.Ab.PC:=[.int .i64,.int .i64,.int .i64,.int .i64,.int .i64,.int .i64,.int .i64]
abbrev GW:List Go.Ab.PC:=[.int .i64,.int .i64,.int .i64,.int .i64,.int .i64,.int .i64,.int .i64,.int .i64]
abbrev wU:List Go.Ab.RC:=[.fro yH,.fro (.sl (.int .i64)),.fro (.int .i64),.fro (.sl (.int .i64))]
abbrev vE:List Go.Ab.RC:=[.fro zG]
abbrev qX:List Go.Ab.RC:=[.int .i64]
abbrev wG:List Go.Ab.RC:=[.int .i64,.fro fa,.int .i64,.int .i64,.int .i64,.int .i64,.fro yH,.fro (.sl (.int .i64)),.fro (.int .i64),.fro (.sl (.int .i64)),.fro (.int .i64),.fro (.sl (.int .i64)),.fro zG,.fro (.int .i64),.int .i64,.bool,.int .i64,.own yA]
abbrev kY:List Go.Ab.RC:=[.int .i64,.fro fa,.int .i64,.int .i64,.int .i64,.int .i64,.fro yH,.fro (.sl (.int .i64)),.fro (.int .i64),.fro (.sl (.int .i64)),.fro (.int .i64),.fro (.sl (.int .i64)),.fro zG,.fro (.int .i64),.int .i64,.bool,.int .i64,.own yA,.int .i64]
abbrev kX:List Go.Ab.RC:=[.int .i64,.fro yH,.fro (.sl (.int .i64)),.fro (.int .i64),.fro (.sl (.int .i64)),.fro (.int .i64),.fro (.sl (.int .i64)),.fro zG,.fro (.int .i64),.int .i64,.bool]
abbrev yRp:List Go.Ab.RC:=[.int .i64,.fro yH,.fro (.sl (.int .i64)),.fro (.int .i64),.fro (.sl (.int .i64)),.fro (.int .i64),.fro (.sl (.int .i64)),.own zG,.fro (.int .i64),.int .i64,.bool]
abbrev tD:List Go.Ab.RC:=[.int .i64,.int .i64,.int .i64]
abbrev gl:List Go.Ab.RC:=[.int .i64,.int .i64,.int .i64,.int .i64,.int .i64,.int .i64,.int .i64]
abbrev LA:List Go.Ab.RC:=[.int .i64,.int .i64,.int .i64,.int .i64,.int .i64,.int .i64,.int .i64,.int .i64]
abbrev yP7:List Go.Ab.RC:=[.int .i64,.int .i64,.int .i64,.int .i64,.int .i64,.int .i64,.int .i64,.int .i64,.int .i64,.int .i64,.int .i64,.int .i64,.int .i64,.int .i64,.fro yH,.fro (.sl (.int .i64)),.fro (.int .i64),.fro (.sl (.int .i64))]
abbrev yEj:List Go.Ab.RC:=[.int .i64,.own fa,.int .i64,.int .i64,.int .i64,.int .i64,.own yH,.mat,.own (.int .i64),.mat,.own (.int .i64),.mat,.own zG,.own (.int .i64),.int .i64,.bool,.int .i64,.own yA]
abbrev K9:List Go.Ab.RC:=[.int .i64,.own yH,.mat,.own (.int .i64),.mat,.own (.int .i64),.mat,.own zG,.own (.int .i64),.int .i64,.bool]
abbrev Lp:List Go.Ab.RC:=[.own yH,.mat,.own (.int .i64),.mat]
abbrev tB:List Go.Ab.XC:=[.p (.int .i64),.p (.dat true fa),.p (.int .i64),.p (.int .i64),.p (.int .i64),.p (.int .i64),.p (.dat true yH),.p (.dat true (.sl (.int .i64))),.p (.dat true (.int .i64)),.p (.dat true (.sl (.int .i64))),.p (.dat true (.int .i64)),.p (.dat true (.sl (.int .i64))),.p (.dat true zG),.p (.dat true (.int .i64)),.p (.int .i64),.p (.bool),.p (.int .i64),.own yA]
abbrev tA:List Go.Ab.XC:=[.p (.int .i64),.p (.dat true fa),.p (.int .i64),.p (.int .i64),.p (.int .i64),.p (.int .i64),.p (.dat true yH),.p (.dat true (.sl (.int .i64))),.p (.dat true (.int .i64)),.p (.dat true (.sl (.int .i64))),.p (.dat true (.int .i64)),.p (.dat true (.sl (.int .i64))),.p (.dat true zG),.p (.dat true (.int .i64)),.p (.int .i64),.p (.bool),.p (.int .i64),.p (.nil)]
abbrev xm:List Go.Ab.XC:=[.p (.int .i64),.p (.dat true fa),.p (.int .i64),.p (.int .i64),.p (.int .i64),.p (.int .i64),.p (.dat true yH),.p (.dat true (.sl (.int .i64))),.p (.dat true (.int .i64)),.p (.dat true (.sl (.int .i64))),.p (.dat true (.int .i64)),.p (.dat true (.sl (.int .i64))),.p (.dat true zG),.p (.dat true (.int .i64)),.p (.int .i64),.p (.bool),.p (.int .i64),.p (.nil),.p (.int .i64)]
section
variable {A B C D E F G H I J K L M N O P Q R S U V W X Z a b Aa T Y:Type}
abbrev qt (x:A×B×C×D)(t:T):=(x.1,x.2.1,x.2.2.1,x.2.2.2,t)
abbrev gj (x:A×B×C×D×E)(t:T):=(x.1,qt x.2 t)
abbrev lQ (x:A×B×C×D×E×F)(t:T):=(x.1,gj x.2 t)
abbrev gi (x:A×B×C×D×E×F×G)(t:T):=(x.1,lQ x.2 t)
abbrev LB (x:A×B×C×D×E×F×G×H)(t:T):=(x.1,gi x.2 t)
abbrev Ll (x:A×B×C×D×E×F×G×H×I)(t:T):=(x.1,LB x.2 t)
abbrev yZ0 (x:A×B×C×D×E×F×G×H×I×J)(t:T):=(x.1,Ll x.2 t)
abbrev fz (x:A×B×C×D×E×F×G×H×I×J×K)(t:T):=(x.1,yZ0 x.2 t)
abbrev CY (x:A×B×C×D×E×F×G×H×I×J×K×L)(t:T):=(x.1,fz x.2 t)
abbrev vHc (x:A×B×C×D×E×F×G×H×I×J×K×L×M)(t:T):=(x.1,CY x.2 t)
abbrev UH (x:A×B×C×D×E×F×G×H×I×J×K×L×M×N)(t:T):=(x.1,vHc x.2 t)
abbrev yWz (x:A×B×C×D×E×F×G×H×I×J×K×L×M×N×O)(t:T):=(x.1,UH x.2 t)
abbrev vO2 (x:A×B×C×D×E×F×G×H×I×J×K×L×M×N×O×P)(t:T):=(x.1,yWz x.2 t)
abbrev vG (x:A×B×C×D×E×F×G×H×I×J×K×L×M×N×O×P×Q)(t:T):=(x.1,vO2 x.2 t)
abbrev eZ (x:A×B×C×D×E×F×G×H×I×J×K×L×M×N×O×P×Q×R)(t:T):=(x.1,vG x.2 t)
abbrev tG (x:A×B×C×D×E×F×G×H×I×J×K×L×M×N×O×P×Q×R×S)(t:T):=(x.1,eZ x.2 t)
abbrev qw (x:A×B×C×D×E):=(x.1,x.2.1,x.2.2.1,x.2.2.2.1)
abbrev vC (x:A×B×C×D×E×F):=(x.1,qw x.2)
abbrev kW (x:A×B×C×D×E×F×G):=(x.1,vC x.2)
abbrev wI (x:A×B×C×D×E×F×G×H):=(x.1,kW x.2)
abbrev CX (x:A×B×C×D×E×F×G×H×I):=(x.1,wI x.2)
abbrev Lm (x:A×B×C×D×E×F×G×H×I×J):=(x.1,CX x.2)
abbrev vHs (x:A×B×C×D×E×F×G×H×I×J×K):=(x.1,Lm x.2)
abbrev yD (x:A×B×C×D×E×F×G×H×I×J×K×L):=(x.1,vHs x.2)
abbrev CZ (x:A×B×C×D×E×F×G×H×I×J×K×L×M):=(x.1,yD x.2)
abbrev vS7 (x:A×B×C×D×E×F×G×H×I×J×K×L×M×N):=(x.1,CZ x.2)
abbrev yCl (x:A×B×C×D×E×F×G×H×I×J×K×L×M×N×O):=(x.1,vS7 x.2)
abbrev qYi (x:A×B×C×D×E×F×G×H×I×J×K×L×M×N×O×P):=(x.1,yCl x.2)
abbrev vD5 (x:A×B×C×D×E×F×G×H×I×J×K×L×M×N×O×P×Q):=(x.1,qYi x.2)
abbrev jl (x:A×B×C×D×E×F×G×H×I×J×K×L×M×N×O×P×Q×R):=(x.1,vD5 x.2)
abbrev fO (x:A×B×C×D×E×F×G×H×I×J×K×L×M×N×O×P×Q×R×S):=(x.1,jl x.2)
abbrev LY (x:A×B×C×D×E×F×G×H×I×J×K×L×M×N×O×P×Q×R×S×U):=(x.1,fO x.2)
abbrev vO (x:A×B×C×D×E)(t:T):=(x.1,x.2.1,x.2.2.1,x.2.2.2.1,t)
abbrev xk (x:A×B×C×D×E×F)(t:T):=(x.1,vO x.2 t)
abbrev wT (x:A×B×C×D×E×F×G)(t:T):=(x.1,xk x.2 t)
abbrev im (x:A×B×C×D×E×F×G×H)(t:T):=(x.1,wT x.2 t)
abbrev vPu (x:A×B×C×D×E×F×G×H×I)(t:T):=(x.1,im x.2 t)
abbrev vR9 (x:A×B×C×D×E×F×G×H×I×J)(t:T):=(x.1,vPu x.2 t)
abbrev vRc (x:A×B×C×D×E×F×G×H×I×J×K)(t:T):=(x.1,vR9 x.2 t)
abbrev tE (x:A×B×C×D×E×F×G×H×I×J×K×L)(t:T):=(x.1,vRc x.2 t)
abbrev iu (x:A×B×C×D×E×F×G×H×I×J×K×L×M)(t:T):=(x.1,tE x.2 t)
abbrev vMm (x:A×B×C×D×E×F×G×H×I×J×K×L×M×N)(t:T):=(x.1,iu x.2 t)
abbrev UK (x:A×B×C×D×E×F×G×H×I×J×K×L×M×N×O)(t:T):=(x.1,vMm x.2 t)
abbrev vRz (x:A×B×C×D×E×F×G×H×I×J×K×L×M×N×O×P)(t:T):=(x.1,UK x.2 t)
abbrev vEv (x:A×B×C×D×E×F×G×H×I×J×K×L×M×N×O×P×Q)(t:T):=(x.1,vRz x.2 t)
abbrev yG (x:A×B×C×D×E×F×G×H×I×J×K×L×M×N×O×P×Q×R)(t:T):=(x.1,vEv x.2 t)
abbrev yM7 (x:A×B×C×D×E×F×G×H×I×J×K×L×M×N×O×P×Q×R×S)(t:T):=(x.1,yG x.2 t)
abbrev vB (f:A→B→C→D→Y)(x:A×B×C×D×E):Y:=f x.1 x.2.1 x.2.2.1 x.2.2.2.1
abbrev jm (f:A→B→C→D→E→Y)(x:A×B×C×D×E×F):Y:=vB (f x.1) x.2
abbrev ir (f:A→B→C→D→E→F→Y)(x:A×B×C×D×E×F×G):Y:=jm (f x.1) x.2
abbrev kp (f:A→B→C→D→E→F→G→Y)(x:A×B×C×D×E×F×G×H):Y:=ir (f x.1) x.2
abbrev ko (f:A→B→C→D→E→F→G→H→Y)(x:A×B×C×D×E×F×G×H×I):Y:=kp (f x.1) x.2
abbrev LJ (f:A→B→C→D→E→F→G→H→I→Y)(x:A×B×C×D×E×F×G×H×I×J):Y:=ko (f x.1) x.2
abbrev yYd (f:A→B→C→D→E→F→G→H→I→J→Y)(x:A×B×C×D×E×F×G×H×I×J×K):Y:=LJ (f x.1) x.2
abbrev oK (f:A→B→C→D→E→F→G→H→I→J→K→Y)(x:A×B×C×D×E×F×G×H×I×J×K×L):Y:=yYd (f x.1) x.2
abbrev GV (f:A→B→C→D→E→F→G→H→I→J→K→L→Y)(x:A×B×C×D×E×F×G×H×I×J×K×L×M):Y:=oK (f x.1) x.2
abbrev T3 (f:A→B→C→D→E→F→G→H→I→J→K→L→M→Y)(x:A×B×C×D×E×F×G×H×I×J×K×L×M×N):Y:=GV (f x.1) x.2
abbrev CU (f:A→B→C→D→E→F→G→H→I→J→K→L→M→N→Y)(x:A×B×C×D×E×F×G×H×I×J×K×L×M×N×O):Y:=T3 (f x.1) x.2
abbrev vBj (f:A→B→C→D→E→F→G→H→I→J→K→L→M→N→O→Y)(x:A×B×C×D×E×F×G×H×I×J×K×L×M×N×O×P):Y:=CU (f x.1) x.2
abbrev yEi (f:A→B→C→D→E→F→G→H→I→J→K→L→M→N→O→P→Y)(x:A×B×C×D×E×F×G×H×I×J×K×L×M×N×O×P×Q):Y:=vBj (f x.1) x.2
abbrev vJn (f:A→B→C→D→E→F→G→H→I→J→K→L→M→N→O→P→Q→Y)(x:A×B×C×D×E×F×G×H×I×J×K×L×M×N×O×P×Q×R):Y:=yEi (f x.1) x.2
abbrev vM6 (f:A→B→C→D→E→F→G→H→I→J→K→L→M→N→O→P→Q→R→Y)(x:A×B×C×D×E×F×G×H×I×J×K×L×M×N×O×P×Q×R×S):Y:=vJn (f x.1) x.2
abbrev vC9 (f:A→B→C→D→E→F→G→H→I→J→K→L→M→N→O→P→Q→R→S→Y)(x:A×B×C×D×E×F×G×H×I×J×K×L×M×N×O×P×Q×R×S×U):Y:=vM6 (f x.1) x.2
abbrev X4 (x:A×B×C×D×E×F×G×H×I×J×K×L×M×N×O×P×Q)(t:T):=qt x.2.2.2.2.2.2.2.2.2.2.2.2.2 t
abbrev wi (x:A×B×C×D×E×F)(t:T):=qt x.2.2 t
abbrev vGv (x:A×B×C×D×E×F×G)(t:T):=qt x.2.2.2 t
abbrev yCm (x:A×B×C×D×E×F×G×H)(t:T):=qt x.2.2.2.2 t
abbrev vNc (x:A×B×C×D×E×F×G×H×I)(t:T):=qt x.2.2.2.2.2 t
abbrev vA5 (x:A×B×C×D×E×F×G×H×I×J×K×L)(t:T):=qt x.2.2.2.2.2.2.2.2 t
abbrev yE4 (x:A×B×C×D×E×F×G×H×I×J×K×L×M×N×O×P×Q)(t:T):=gj x.2.2.2.2.2.2.2.2.2.2.2.2 t
abbrev Rp (x:A×B×C×D×E×F×G×H×I×J×K×L×M×N×O×P×Q)(t:T):=lQ x.2.2.2.2.2.2.2.2.2.2.2 t
abbrev ySm (x:A×B×C×D×E×F×G×H)(t:T):=lQ x.2.2 t
abbrev X5 (x:A×B×C×D×E×F×G×H×I×J×K×L×M×N×O×P×Q)(t:T):=gi x.2.2.2.2.2.2.2.2.2.2 t
abbrev qVf (x:A×B×C×D×E×F×G×H)(t:T):=gi x.2 t
abbrev vD9 (x:A×B×C×D×E×F×G×H×I×J×K)(t:T):=gi x.2.2.2.2 t
abbrev yF2 (x:A×B×C×D×E×F×G×H×I×J×K×L×M×N)(t:T):=gi x.2.2.2.2.2.2.2 t
abbrev yNq (x:A×B×C×D×E×F×G×H×I×J×K×L×M×N×O)(t:T):=gi x.2.2.2.2.2.2.2.2 t
abbrev vFa (x:A×B×C×D×E×F×G×H×I×J×K×L)(t:T):=fz x.2 t
abbrev vFh (x:A×B×C×D×E×F×G×H×I×J×K×L×M×N×O)(t:T):=UH x.2 t
abbrev UE (x:A×B×C×D×E×F×G×H×I×J×K×L×M×N×O×P×Q×R×S)(t:T):=eZ x.2 t
abbrev yQ9 (x:A×B×C×D×E×F×G×H×I×J×K×L×M×N×O×P×Q×R×S×U×V×W×X×Z×a):=kW x.2.2.2.2.2.2.2.2.2.2.2.2.2.2.2.2.2.2
abbrev vAd (x:A×B×C×D×E×F×G×H×I×J×K×L×M×N×O×P×Q×R×S×U×V×W×X×Z×a×b):=kW x.2.2.2.2.2.2.2.2.2.2.2.2.2.2.2.2.2.2.2
abbrev yCe (x:A×B×C×D×E×F×G×H×I×J×K×L×M×N×O×P×Q×R×S×U×V×W×X×Z×a×b×Aa):=kW x.2.2.2.2.2.2.2.2.2.2.2.2.2.2.2.2.2.2.2.2
abbrev CV (x:A×B×C×D×E×F×G×H×I×J×K×L×M×N×O×P×Q×R×S×U×V×W×X×Z×a×b):=wI x.2.2.2.2.2.2.2.2.2.2.2.2.2.2.2.2.2.2
abbrev vAn (x:A×B×C×D×E×F×G×H×I×J×K×L×M×N×O×P×Q×R×S×U×V×W×X×Z×a×b×Aa):=wI x.2.2.2.2.2.2.2.2.2.2.2.2.2.2.2.2.2.2.2
abbrev A4 (x:A×B×C×D×E×F×G×H×I):=wI x.2
abbrev SD (x:A×B×C×D×E×F×G×H×I×J×K×L×M×N):=wI x.2.2.2.2.2.2
abbrev X6 (x:A×B×C×D×E×F×G×H×I×J×K×L×M×N×O):=wI x.2.2.2.2.2.2.2
abbrev La (x:A×B×C×D×E×F×G×H×I×J×K×L×M×N×O×P×Q×R×S×U×V×W×X×Z×a):=CX x.2.2.2.2.2.2.2.2.2.2.2.2.2.2.2.2
abbrev vKj (x:A×B×C×D×E×F×G×H×I×J×K×L×M×N):=CX x.2.2.2.2.2
abbrev vQ3 (x:A×B×C×D×E×F×G×H×I×J×K×L×M×N×O×P×Q×R×S×U×V×W×X):=yD x.2.2.2.2.2.2.2.2.2.2.2
abbrev xh (x:A×B×C×D×E×F×G×H×I×J×K×L×M×N×O×P×Q):=yD x.2.2.2.2.2
abbrev vAh (x:A×B×C×D×E×F×G×H×I×J×K×L×M×N×O×P×Q×R×S):=yD x.2.2.2.2.2.2.2
abbrev kV (x:A×B×C×D×E×F×G×H×I×J×K×L×M×N×O×P×Q×R×S×U):=fO x.2
abbrev xn (x:A×B×C×D×E×F×G×H×I×J×K×L×M×N×O×P×Q×R×S×U×V):=LY x.2
abbrev C6 (x:A×B×C×D×E×F×G×H×I×J×K×L×M×N×O)(t:T):=vO x.2.2.2.2.2.2.2.2.2.2 t
abbrev Nj (x:A×B×C×D×E×F×G×H×I×J×K×L×M×N×O×P×Q×R)(t:T):=vO x.2.2.2.2.2.2.2.2.2.2.2.2.2 t
abbrev gm (x:A×B×C×D×E×F)(t:T):=vO x.2 t
abbrev Lc (x:A×B×C×D×E×F×G)(t:T):=vO x.2.2 t
abbrev vQs (x:A×B×C×D×E×F×G×H×I×J)(t:T):=vO x.2.2.2.2.2 t
abbrev yBi (x:A×B×C×D×E×F×G×H×I×J×K×L×M×N×O×P×Q×R)(t:T):=xk x.2.2.2.2.2.2.2.2.2.2.2.2 t
abbrev yUh (x:A×B×C×D×E×F×G×H×I×J×K×L×M×N×O×P×Q×R)(t:T):=wT x.2.2.2.2.2.2.2.2.2.2.2 t
abbrev X7 (x:A×B×C×D×E×F×G×H×I×J×K×L×M×N×O×P×Q×R)(t:T):=im x.2.2.2.2.2.2.2.2.2.2 t
abbrev vHb (x:A×B×C×D×E×F×G×H×I×J×K×L×M×N×O×P×Q×R×S×U)(t:T):=im x.2.2.2.2.2.2.2.2.2.2.2.2 t
abbrev Uz (x:A×B×C×D×E×F×G×H×I)(t:T):=im x.2 t
abbrev vCx (x:A×B×C×D×E×F×G×H×I×J×K×L×M)(t:T):=im x.2.2.2.2.2 t
abbrev vA0 (x:A×B×C×D×E×F×G×H×I×J×K×L×M×N×O×P×Q)(t:T):=tE x.2.2.2.2.2 t
abbrev vRv (x:A×B×C×D×E×F×G×H×I×J×K×L×M×N×O×P×Q×R×S×U×V)(t:T):=UK x.2.2.2.2.2.2 t
abbrev KQ (x:A×B×C×D×E×F×G×H×I×J×K×L×M×N×O×P×Q×R×S)(t:T):=yG x.2 t
end
def GS (k:Nat)(a0:Int):Option vH:=
 bif decide ((yK .i64 a0 3)=1) then some (4,[(100,1000),(7,0)],12,20,100)
 else bif decide ((yK .i64 a0 3)=2) then some (3,[],20,20,4)
 else bif decide ((yK .i64 a0 3)=3) then some (3,[(100,1000),(7,0)],0,6,1)
 else some (3,[(100,1000),(7,0)],12,20,4)
def E8 (k:Nat)(a0:Int):Option Bool:=
 bif decide (a0≥0) then some (decide (a0≤6))
 else some false
abbrev Sk:Type:=Int→Int→Int→List Int→Option (List Int)
def An (k:Nat)(rec:Sk)(s1 bV bE:Int)(r0:List Int):Option (List Int):=
 bif decide (bE < bV) then (bif zE bE r0.length then(rec s1 bV (zA (bE+1)) (r0.set bE.toNat s1))
  else none)
 else some r0
def E9 (k:Nat):Nat→Sk
 |0,_,_,_,_=>none
 |n+1,s1,bV,bE,r0=>An k (E9 k n) s1 bV bE r0
def vg (k:Nat)(a0 a1:Int):Option (List Int):=
 (E8 k a0).bind fun x0=>
 bif !x0 then some []
 else bif pB a0 a0 8 then ((E9 k k a1 ((List.replicate a0.toNat (0:Int)).length:Int) 0 (List.replicate a0.toNat (0:Int))).bind fun z=>
  some z)
 else none
abbrev Sn:Type:=Int→Int→Int→Int→List (List Int)→Option (List (List Int))
def Ap (k:Nat)(rec:Sn)(s0 s1 bV bE:Int)(m0:List (List Int)):Option (List (List Int)):=
 bif decide (bE < bV) then ((vg k s0 s1).bind fun x1=>
  bif zE bE m0.length then(rec s0 s1 bV (zA (bE+1)) (m0.set bE.toNat x1))
  else none)
 else some m0
def Fa (k:Nat):Nat→Sn
 |0,_,_,_,_,_=>none
 |n+1,s0,s1,bV,bE,m0=>Ap k (Fa k n) s0 s1 bV bE m0
def Ao (k:Nat)(a0 a1:Int):Option (List (List Int)):=
 (E8 k a0).bind fun x0=>
 bif !x0 then some []
 else bif pB a0 a0 24 then ((Fa k k a0 a1 ((List.replicate a0.toNat ([]:List Int)).length:Int) 0 (List.replicate a0.toNat ([]:List Int))).bind fun z=>
  some z)
 else none
abbrev K5:Type:=Int×vH×wP×wP×(List zO)×(List (List Int))×(List Int)×(List (List Int))×(List Int)
abbrev Sq:Type:=Int→List wO→Int→Int→vH→wP→wP→List zO→List (List Int)→List Int→List (List Int)→List Int→Option K5
def qYz (k:Nat)(rec:Sq)(s3:Int)(cL:List wO)(s21 Nk:Int)(b0:vH)(b1 b2:wP)(r3:List zO)(m4:List (List Int))(r5:List Int)(m6:List (List Int))(r7:List Int):Option K5:=
 bif decide (Nk < s21) then (bif zE Nk cL.length then (bif zW (r7.length+1) 8 then(rec s3 cL s21 (zA (Nk+1)) b0 b1 b2 r3 m4 r5 m6 (r7++[(cL.getD Nk.toNat (0,0)).1]))
   else none)
  else none)
 else some (s3,b0,b1,b2,r3,m4,r5,m6,r7)
def Sr (k:Nat):Nat→Sq:=vY (fun _ _ _ _ _ _ _ _ _ _ _ _=>none) (qYz k)
abbrev K7:Type:=wP×wP×(List zO)×(List (List Int))×(List Int)×(List (List Int))×(List Int)×(List (List Int))
abbrev Ss:Type:=Int→Int→vH→wP→wP→List zO→List (List Int)→List Int→List (List Int)→List Int→List (List Int)→Option K7
def qZ0 (k:Nat)(rec:Ss)(xo oP:Int)(b0:vH)(b1 b2:wP)(r3:List zO)(m4:List (List Int))(r5:List Int)(m6:List (List Int))(r7:List Int)(m8:List (List Int)):Option K7:=
 bif decide (oP < xo) then (bif pB (b0.2.1.length : Int) (b0.2.1.length : Int) 8 then (bif zW (m8.length+1) 24 then(rec xo (zA (oP+1)) b0 b1 b2 r3 m4 r5 m6 r7 (m8++[(List.replicate b0.2.1.length (0:Int))]))
   else none)
  else none)
 else some (b1,b2,r3,m4,r5,m6,r7,m8)
def Su (k:Nat):Nat→Ss:=vY (fun _ _ _ _ _ _ _ _ _ _ _=>none) (qZ0 k)
def KU (k:Nat)(a0:vH):Option vW:=
 bif pB a0.1 a0.1 24 then ((Ao k a0.1 (-1)).bind fun x0=>
  (vg k a0.1 (-1)).bind fun x1=>
  (Ao k a0.1 0).bind fun x2=>
  (Sr k k a0.1 a0.2.1 (a0.2.1.length:Int) 0 a0 (0,0,false) (0,0,false) (List.replicate a0.1.toNat ((0,0,0):Int×Int×Int)) x0 x1 x2 []).bind fun z=>
  (Su k k z.1 0 z.2.1 z.2.2.1 z.2.2.2.1 z.2.2.2.2.1 z.2.2.2.2.2.1 z.2.2.2.2.2.2.1 z.2.2.2.2.2.2.2.1 z.2.2.2.2.2.2.2.2 []).bind fun z1=>
  some (z1.2.1.1,(ySm z1 ([],[],z1.2.1.2))))
 else none
def KK (k:Nat)(a0:Int):Option Bool:=
 bif decide (a0≥10) then some (decide (a0≤14))
 else some false
def GL (k:Nat)(a0:Int):Option Bool:=
 bif decide (a0≥1) then some (decide (a0≤14))
 else some false
def GK (k:Nat)(a0:Int):Option Int:=
 bif decide (a0=9) then some 0
 else bif decide (a0=13) then some 0
 else bif decide (a0=14) then some 0
 else bif decide (a0=15) then some 0
 else bif decide (a0=2) then some 1
 else bif decide (a0=6) then some 1
 else bif decide (a0=7) then some 1
 else bif decide (a0=16) then some 1
 else bif decide (a0=19) then some 1
 else bif decide (a0=20) then some 1
 else bif decide (a0=21) then some 1
 else bif decide (a0=22) then some 1
 else bif decide (a0=23) then some 1
 else bif decide (a0=3) then some 2
 else bif decide (a0=4) then some 2
 else bif decide (a0=5) then some 2
 else bif decide (a0=8) then some 2
 else bif decide (a0=10) then some 2
 else bif decide (a0=11) then some 2
 else bif decide (a0=12) then some 2
 else bif decide (a0=18) then some 4
 else bif decide (a0=17) then some 5
 else bif decide (a0=1) then some 6
 else some (-1)
abbrev Sx:Type:=List Int→Int→Int→Option (Unit⊕Bool)
def tt (k:Nat)(rec:Sx)(bV:List Int)(bE bd:Int):Option (Unit⊕Bool):=
 bif decide (bd < bE) then (bif zE bd bV.length then (bif !(decide ((bV.getD bd.toNat 0)=0)) then some (.inr false)
   else rec bV bE (zA (bd+1)))
  else none)
 else some (.inl ())
def qs (k:Nat):Nat→Sx:=vY (fun _ _ _=>none) (tt k)
def tu (k:Nat)(a0:zD):Option Bool:=
 (GK k a0.1).bind fun x0=>
 bif decide (x0<0) then some false
 else bif (decide (0 ≤ x0)) && (decide (x0 ≤ 6)) then ((qs k k (yB [a0.2.1,a0.2.2.1,a0.2.2.2.1,a0.2.2.2.2.1,a0.2.2.2.2.2.1,a0.2.2.2.2.2.2] x0.toNat (6-x0.toNat)) ((yB [a0.2.1,a0.2.2.1,a0.2.2.2.1,a0.2.2.2.2.1,a0.2.2.2.2.2.1,a0.2.2.2.2.2.2] x0.toNat (6-x0.toNat)).length:Int) 0).bind fun z=>
  match z with
  |.inl z1=>some true
  |.inr z2=>some z2)
 else none
def tv (k:Nat)(a0:vH)(a1:vW)(a2:qY):Option Int:=
 (KK k a2.2.1).bind fun x0=>
 bif decide (a2.1 ≥ 0) then ((GL k a2.2.1).bind fun x1=>
  bif !x1 then some 5
  else(tu k a2.2).bind fun x2=>
  bif !x2 then some 5
  else bif x0 then (bif !(decide (a2.1=(-1))) then some 5
   else bif !x0 then (bif !(decide (a2.1<a0.1)) then some 5
    else bif a1.2.2.2.2.2.2.2.2.2.2 then (bif !(decide (a2.2.1=9)) then some 7
     else some 0)
    else some 0)
   else bif a1.2.2.2.2.2.2.2.2.2.2 then (bif !(decide (a2.2.1=9)) then some 7
    else some 0)
   else some 0)
  else bif !x0 then (bif !(decide (a2.1<a0.1)) then some 5
   else bif a1.2.2.2.2.2.2.2.2.2.2 then (bif !(decide (a2.2.1=9)) then some 7
    else some 0)
   else some 0)
  else bif a1.2.2.2.2.2.2.2.2.2.2 then (bif !(decide (a2.2.1=9)) then some 7
   else some 0)
  else some 0)
 else(GL k a2.2.1).bind fun x3=>
 bif !x3 then some 5
 else(tu k a2.2).bind fun x4=>
 bif !x4 then some 5
 else bif x0 then (bif !(decide (a2.1=(-1))) then some 5
  else bif !x0 then some 5
  else bif a1.2.2.2.2.2.2.2.2.2.2 then (bif !(decide (a2.2.1=9)) then some 7
   else some 0)
  else some 0)
 else bif !x0 then some 5
 else bif a1.2.2.2.2.2.2.2.2.2.2 then (bif !(decide (a2.2.1=9)) then some 7
  else some 0)
 else some 0
def Ra (k:Nat)(cj ay bC aI aE aN aS a1:Int):Option Bool:=
 some (decide (ay=a1))
abbrev Lb:Type:=List zD
abbrev Sz:Type:=List zD→Int→Int→Int→List zD→Option Lb
def Bw (k:Nat)(rec:Sz)(s8:List zD)(s9 ax aa:Int)(r1:List zD):Option Lb:=
 bif decide (ax < s9) then (bif zE ax s8.length then ((Ra k (s8.getD ax.toNat (0,0,0,0,0,0,0)).1 (s8.getD ax.toNat (0,0,0,0,0,0,0)).2.1 (s8.getD ax.toNat (0,0,0,0,0,0,0)).2.2.1 (s8.getD ax.toNat (0,0,0,0,0,0,0)).2.2.2.1 (s8.getD ax.toNat (0,0,0,0,0,0,0)).2.2.2.2.1 (s8.getD ax.toNat (0,0,0,0,0,0,0)).2.2.2.2.2.1 (s8.getD ax.toNat (0,0,0,0,0,0,0)).2.2.2.2.2.2 aa).bind fun x0=>
   bif x0 then (bif zW (r1.length + 1) 56 then (let y0:List zD:=(r1++[(s8.getD ax.toNat (0,0,0,0,0,0,0))])
     rec s8 s9 (zA (ax+1)) aa y0)
    else none)
   else rec s8 s9 (zA (ax+1)) aa r1)
  else none)
 else some r1
def FM (k:Nat):Nat→Sz
 |0,_,_,_,_,_=>none
 |n+1,s8,s9,ax,aa,r1=>Bw k (FM k n) s8 s9 ax aa r1
def Q9 (k:Nat)(a0:List zD)(cT:Int):Option (List zD):=
 (FM k k a0 (a0.length:Int) 0 cT []).bind fun z=>
 some z
def FL (k:Nat)(a0:List zD)(a1:Int):Option (List zD):=
 (Q9 k a0 a1).bind fun x0=>
 some x0
def yNy (k:Nat)(a0:(Int×Int×Int×Int×Int×Int×Bool×Int))(a1:Int)(a2:List Int):Option wW:=
 some (a0.1,[],(gm a0 ([],[],[],[],[],[],[],[],a0.2.2.2.2.2.1,a0.2.2.2.2.2.2.1,a0.2.2.2.2.2.2.2,[(a0.2.2.2.2.2.2.2,a1,(bif (Nat.blt 0 a2.length) then(a2.getD 0 0) else 0),(bif (Nat.blt 1 a2.length) then(a2.getD 1 0) else 0),(bif (Nat.blt 2 a2.length) then(a2.getD 2 0) else 0),(bif (Nat.blt 3 a2.length) then(a2.getD 3 0) else 0),(bif (Nat.blt 4 a2.length) then(a2.getD 4 0) else 0),(bif (Nat.blt 5 a2.length) then(a2.getD 5 0) else 0))])))
def KR (k:Nat)(a0:vW)(a1:Int):Option (List qY):=
 bif zE a1 a0.2.1.length then ((FL k a0.2.2.2.2.2.2.2.1 a1).bind fun x0=>
  (yNy k (0,0,0,0,0,0,false,a1) 17 [(a0.2.1.getD a1.toNat (0,0,0)).1,(a0.2.1.getD a1.toNat (0,0,0)).2.1,(a0.2.1.getD a1.toNat (0,0,0)).2.2,(x0.length:Int),a0.1]).bind fun x1=>
  some x1.2.2.2.2.2.2.2.2.2.2.2.2.2.2.2.2.2)
 else none
def KT (k:Nat)(a0:jo)(a1:Int)(a2:List Int):Option wW:=
 some (vG a0 [(a0.2.2.2.2.2.2.2.2.2.2.2.2.2.2.2.2,a1,(bif (Nat.blt 0 a2.length) then(a2.getD 0 0) else 0),(bif (Nat.blt 1 a2.length) then(a2.getD 1 0) else 0),(bif (Nat.blt 2 a2.length) then(a2.getD 2 0) else 0),(bif (Nat.blt 3 a2.length) then(a2.getD 3 0) else 0),(bif (Nat.blt 4 a2.length) then(a2.getD 4 0) else 0),(bif (Nat.blt 5 a2.length) then(a2.getD 5 0) else 0))])
def vA (k:Nat)(a0 a1 a2:Int):Option Bool:=
 bif decide (a0≥a1) then some (decide (a0≤a2))
 else some false
def FR (k:Nat)(a0:vH)(a1:Int):Option Bool:=
 bif decide (a1≥0) then some (decide (a1<a0.1))
 else some false
def J2 (k:Nat)(a0:vH)(a1:Int)(a2:zD):Option Bool:=
 (FR k a0 a2.2.1).bind fun x0=>
 bif x0 then ((FR k a0 a2.2.2.1).bind fun x1=>
  bif x1 then (bif decide (a2.1 ≥ 1) then (bif decide (a2.2.2.2.1 ≥ 1) then (bif decide (a2.2.2.2.1 ≤ 1099511627776) then (bif decide (a2.2.2.2.2.1 ≥ 1) then (bif !(decide (a2.2.1 = a2.2.2.1)) then (bif decide (a2.2.2.2.2.1 ≤ 3) then (bif decide (a2.2.2.2.2.2.1 ≥ 0) then (bif decide (a2.2.2.2.2.2.1 ≤ a2.2.2.2.2.2.2) then (bif decide (a2.2.2.2.2.2.2≥a1) then some (decide (a2.2.2.2.2.2.2≤1048576))
           else some false)
          else some false)
         else some false)
        else some false)
       else some false)
      else bif !(decide (a2.2.1=a2.2.2.1)) then some false
      else some false)
     else bif !(decide (a2.2.1=a2.2.2.1)) then some false
     else some false)
    else bif !(decide (a2.2.1=a2.2.2.1)) then some false
    else some false)
   else bif !(decide (a2.2.1=a2.2.2.1)) then some false
   else some false)
  else bif decide (a2.1 ≥ 1) then (bif decide (a2.2.2.2.1 ≥ 1) then (bif decide (a2.2.2.2.1 ≤ 1099511627776) then (bif decide (a2.2.2.2.2.1≥1) then some false
     else some false)
    else some false)
   else some false)
  else some false)
 else bif decide (a2.1 ≥ 1) then (bif decide (a2.2.2.2.1 ≥ 1) then (bif decide (a2.2.2.2.1 ≤ 1099511627776) then (bif decide (a2.2.2.2.2.1≥1) then some false
    else some false)
   else some false)
  else some false)
 else some false
def wc (k:Nat)(a0:vH)(a1 a2:Int):Option Int:=
 bif decide (a1≥a0.2.2.2.1) then some 7
 else bif decide (a2 = 3) then (bif decide (a1≥a0.2.2.1) then some 7
  else some 0)
 else some 0
def BS (k:Nat)(a0:vH)(a1:Int)(a2:zD):Option Int:=
 (J2 k a0 a1 a2).bind fun x0=>
 bif !x0 then some 1
 else(wc k a0 a1 a2.2.2.2.2.1).bind fun x1=>
 some x1
def Jz (k:Nat)(a0:Int):Option Bool:=
 some (!(decide (a0=a0)))
def Jy (k:Nat)(a0 a1:Int):Option Bool:=
 (Jz k a0).bind fun x0=>
 bif x0 then ((Jz k a1).bind fun x1=>
  bif !x1 then some true
  else some (decide (a0<a1)))
 else some (decide (a0<a1))
def JB (k:Nat)(a0:Int):Option Bool:=
 some (!(decide (a0=a0)))
abbrev Le:Type:=(List Int)×Int×Int×Int
abbrev SG:Type:=List Int→Int→Int→Int→Int→Option Le
def JA (k:Nat)(rec:SG)(s0:List Int)(s1 s6 s7 s8:Int):Option Le:=
 bif decide (s7 < s8) then (bif zE (zA ((shr .u64 (IntKind.wrap .u64 ((zA (s7 + s8)))) 1))) s0.length then ((Jy k (s0.getD (zA ((shr .u64 (IntKind.wrap .u64 ((zA (s7+s8)))) 1))).toNat 0) s1).bind fun x0=>
   bif x0 then(rec s0 s1 s6 (zA ((zA ((shr .u64 (IntKind.wrap .u64 ((zA (s7+s8)))) 1)))+1)) s8)
   else rec s0 s1 s6 s7 (zA ((shr .u64 (IntKind.wrap .u64 ((zA (s7+s8)))) 1))))
  else none)
 else some (s0,s1,s6,s7)
def FA (k:Nat):Nat→SG:=vY (fun _ _ _ _ _=>none) (JA k)
def A8 (k:Nat)(a0:List Int)(a1:Int):Option wZ:=
 (FA k k a0 a1 (a0.length:Int) 0 (a0.length:Int)).bind fun z=>
 bif decide (z.2.2.2 < z.2.2.1) then (bif zE z.2.2.2 z.1.length then (bif decide ((z.1.getD z.2.2.2.toNat 0)=z.2.1) then some (z.2.2.2,true)
   else bif zE z.2.2.2 z.1.length then ((JB k (z.1.getD z.2.2.2.toNat 0)).bind fun x1=>
    bif x1 then ((JB k z.2.1).bind fun x2=>
     some (z.2.2.2,x2))
    else some (z.2.2.2,false))
   else none)
  else none)
 else some (z.2.2.2,false)
def nn (k:Nat)(a0:List Int):Option (List Int):=
 bif zW (0+a0.length) 8 then some a0
 else none
abbrev yR9 (k:Nat)(a0:List Int)(a1:Int)(a2:List Int):Option (List Int):=ins 8 a0 a1 a2
def A9 (k:Nat)(a0:List Int)(a1:Int):Option ((List Int)×Int):=
 (A8 k a0 a1).bind fun x0=>
 bif x0.2 then some (a0,6)
 else bif decide ((a0.length:Int)≥200) then some (a0,3)
 else(nn k a0).bind fun x1=>
 (yR9 k x1 x0.1 [a1]).bind fun x2=>
 some (x2,0)
def QL (k:Nat)(cj ay bC aI aE aN aS a1:Int):Option Bool:=
 some (decide (cj=a1))
abbrev SP:Type:=List zD→Int→Int→Int→Option (Unit⊕Int)
def AT (k:Nat)(rec:SP)(s0:List zD)(s7 s8 aa:Int):Option (Unit⊕Int):=
 bif decide (s8 < s7) then (bif zE s8 s0.length then ((QL k (s0.getD s8.toNat (0,0,0,0,0,0,0)).1 (s0.getD s8.toNat (0,0,0,0,0,0,0)).2.1 (s0.getD s8.toNat (0,0,0,0,0,0,0)).2.2.1 (s0.getD s8.toNat (0,0,0,0,0,0,0)).2.2.2.1 (s0.getD s8.toNat (0,0,0,0,0,0,0)).2.2.2.2.1 (s0.getD s8.toNat (0,0,0,0,0,0,0)).2.2.2.2.2.1 (s0.getD s8.toNat (0,0,0,0,0,0,0)).2.2.2.2.2.2 aa).bind fun x0=>
   bif x0 then some (.inr s8)
   else rec s0 s7 (zA (s8+1)) aa)
  else none)
 else some (.inl ())
def AR (k:Nat):Nat→SP
 |0,_,_,_,_=>none
 |n+1,s0,s7,s8,aa=>AT k (AR k n) s0 s7 s8 aa
def QM (k:Nat)(a0:List zD)(cT:Int):Option Int:=
 (AR k k a0 (a0.length:Int) 0 cT).bind fun z=>
 match z with
 |.inl z1=>some (-1)
 |.inr z2=>some z2
def mo (k:Nat)(a0:List zD)(a1:Int):Option Int:=
 (QM k a0 a1).bind fun x0=>
 some x0
def Jw (k:Nat)(a0:Int):Option Bool:=
 some (!(decide (a0=a0)))
def Fv (k:Nat)(a0 a1:Int):Option Int:=
 (Jw k a0).bind fun x0=>
 (Jw k a1).bind fun x1=>
 bif x0 then (bif x1 then some 0
  else some (-1))
 else bif x1 then some 1
 else bif decide (a0<a1) then some (-1)
 else bif decide (a0>a1) then some 1
 else some 0
abbrev SR:Type:=Int→List Int→Int→Int→Option (Int⊕Int)
def yH7 (k:Nat)(rec:SR)(s3:Int)(s6:List Int)(s7 s8:Int):Option (Int⊕Int):=
 bif decide (s8 < s7) then (bif zE s8 s6.length then (bif !(decide ((s6.getD s8.toNat 0)=s3)) then some (.inr (s6.getD s8.toNat 0))
   else rec s3 s6 s7 (zA (s8+1)))
  else none)
 else some (.inl s3)
def AU (k:Nat):Nat→SR
 |0,_,_,_,_=>none
 |n+1,s3,s6,s7,s8=>yH7 k (AU k n) s3 s6 s7 s8
def Jv (k:Nat)(a0:List Int):Option Int:=
 (AU k k 0 a0 (a0.length:Int) 0).bind fun z=>
 match z with
 |.inl z1=>some z1
 |.inr z2=>some z2
def AV (k:Nat)(cj ay bC aI aE aN aS fP bj dq bc bm bQ cA:Int):Option Int:=
 (Fv k ay bj).bind fun x0=>
 (Fv k aE bm).bind fun x1=>
 (Jv k [x0,x1]).bind fun x2=>
 some x2
def sK (k:Nat)(a0:List zD):Option (List zD):=
 bif zW (0+a0.length) 56 then some a0
 else none
abbrev Jx (k:Nat)(a0:List zD)(a1:Int)(a2:List zD):Option (List zD):=ins 56 a0 a1 a2
abbrev Lj:Type:=(List zD)×Int×zD
abbrev SY:Type:=List zD→Int→zD→Option Lj
def A0 (k:Nat)(rec:SY)(s0:List zD)(s6:Int)(b0:zD):Option Lj:=
 bif decide (s6 < (s0.length : Int)) then (bif zE s6 s0.length then ((AV k (s0.getD s6.toNat (0,0,0,0,0,0,0)).1 (s0.getD s6.toNat (0,0,0,0,0,0,0)).2.1 (s0.getD s6.toNat (0,0,0,0,0,0,0)).2.2.1 (s0.getD s6.toNat (0,0,0,0,0,0,0)).2.2.2.1 (s0.getD s6.toNat (0,0,0,0,0,0,0)).2.2.2.2.1 (s0.getD s6.toNat (0,0,0,0,0,0,0)).2.2.2.2.2.1 (s0.getD s6.toNat (0,0,0,0,0,0,0)).2.2.2.2.2.2 b0.1 b0.2.1 b0.2.2.1 b0.2.2.2.1 b0.2.2.2.2.1 b0.2.2.2.2.2.1 b0.2.2.2.2.2.2).bind fun x1=>
   bif decide (x1≤0) then(rec s0 (zA (s6+1)) b0)
   else some (s0,s6,b0))
  else none)
 else some (s0,s6,b0)
def AZ (k:Nat):Nat→SY:=vY (fun _ _ _=>none) (A0 k)
def sL (k:Nat)(a0:List zD)(a1:zD):Option ((List zD)×Int):=
 (mo k a0 a1.1).bind fun x0=>
 bif decide (x0≥0) then some (a0,6)
 else bif decide ((a0.length:Int)≥40) then some (a0,3)
 else(AZ k k a0 0 a1).bind fun z=>
 (sK k z.1).bind fun x2=>
 (Jx k x2 z.2.1 [z.2.2]).bind fun x3=>
 some (x3,0)
def J3 (k:Nat)(a0:wW)(a1:Ha):Option (Int×wW):=
 (vA k a1.2.1 0 (zA (a0.1-1))).bind fun x0=>
 bif !x0 then some (1,a0)
 else(vA k a1.2.2.2.1 1 3).bind fun x1=>
 bif !x1 then some (1,a0)
 else(BS k (vC a0) a0.2.2.2.2.2.1 (a1.1,a0.2.2.2.2.2.2.2.2.2.2.2.2.2.2.2.2.1,a1.2)).bind fun x2=>
 bif !(decide (x2=0)) then some (x2,a0)
 else(A9 k a0.2.2.2.2.2.2.2.2.2.2.2.2.2.1 a1.1).bind fun x3=>
 bif !(decide (x3.2=0)) then some (x3.2,a0)
 else(sL k a0.2.2.2.2.2.2.2.2.2.2.2.2.1 (a1.1,a0.2.2.2.2.2.2.2.2.2.2.2.2.2.2.2.2.1,a1.2)).bind fun x4=>
 bif !(decide (x4.2=0)) then some (x4.2,a0)
 else some (0,(iu a0 (x4.1,x3.1,a0.2.2.2.2.2.2.2.2.2.2.2.2.2.2)))
def S2 (k:Nat)(a0:wW)(a1:Int):Option (zD×Int):=
 (mo k a0.2.2.2.2.2.2.2.2.2.2.2.2.1 a1).bind fun x0=>
 bif decide (x0<0) then some ((0,0,0,0,0,0,0),4)
 else bif zE x0 a0.2.2.2.2.2.2.2.2.2.2.2.2.1.length then (bif !(decide ((a0.2.2.2.2.2.2.2.2.2.2.2.2.1.getD x0.toNat (0,0,0,0,0,0,0)).2.1=a0.2.2.2.2.2.2.2.2.2.2.2.2.2.2.2.2.1)) then some ((0,0,0,0,0,0,0),4)
  else bif zE x0 a0.2.2.2.2.2.2.2.2.2.2.2.2.1.length then some ((a0.2.2.2.2.2.2.2.2.2.2.2.2.1.getD x0.toNat (0,0,0,0,0,0,0)),0)
  else none)
 else none
def Fu (k:Nat)(a0:List zD)(a1 a2:Int):Option (List zD):=
 bif ((((decide (0 ≤ a1)) && (decide (a1 ≤ a2))) && (decide (a2 ≤ (a0.length : Int)))) && (decide (((a2.toNat : Nat) : Int) ≤ (a0.length : Int)))) && (decide ((a0.length : Int) ≤ (a0.length : Int))) then (bif decide (a1=a2) then some a0
  else bif (decide (0 ≤ a1)) && (decide (a1 ≤ (a0.length : Int))) then (bif (decide (0 ≤ a2)) && (decide (a2 ≤ (a0.length : Int))) then (bif Nat.ble (a1.toNat - 0) (0 + a2.toNat) then (let y0:List zD:=(((List.take (a1.toNat-0) a0)++(yB a0 (0+a2.toNat) (a0.length-a2.toNat)))++(List.drop ((a1.toNat-0)+(a0.length-a2.toNat)) a0))
     bif ((decide (0 ≤ ((yB y0 0 ((a1.toNat - 0) + (a0.length - a2.toNat))).length : Int))) && (decide (((yB y0 0 ((a1.toNat - 0) + (a0.length - a2.toNat))).length : Int) ≤ (a0.length : Int)))) && (decide ((a0.length : Int) ≤ (((y0.length - 0) : Nat) : Int))) then (let y1:List zD:=(((List.take (0+(yB y0 0 ((a1.toNat-0)+(a0.length-a2.toNat))).length) y0)++(List.replicate (a0.length-(yB y0 0 ((a1.toNat-0)+(a0.length-a2.toNat))).length) ((0,0,0,0,0,0,0):Int×Int×Int×Int×Int×Int×Int)))++(List.drop ((0+(yB y0 0 ((a1.toNat-0)+(a0.length-a2.toNat))).length)+(a0.length-(yB y0 0 ((a1.toNat-0)+(a0.length-a2.toNat))).length)) y0))
      some (List.take ((a1.toNat-0)+(a0.length-a2.toNat)) y1))
     else none)
    else none)
   else none)
  else none)
 else none
def nu (k:Nat)(a0:List zD)(a1:Int):Option X3:=
 (mo k a0 a1).bind fun x0=>
 bif decide (x0<0) then some (a0,0,0,0,0,0,0,0,4)
 else(sK k a0).bind fun x1=>
 (Fu k x1 x0 (zA (x0+1))).bind fun x2=>
 bif zE x0 a0.length then some (x2,(gi (a0.getD x0.toNat (0,0,0,0,0,0,0)) 0))
 else none
def sZ (k:Nat)(a0:wW)(a1:Int)(a2:List Int):Option wW:=
 bif zW (a0.2.2.2.2.2.2.2.2.2.2.2.2.2.2.2.2.2.length + 1) 64 then (let y0:List qY:=(a0.2.2.2.2.2.2.2.2.2.2.2.2.2.2.2.2.2++[(a0.2.2.2.2.2.2.2.2.2.2.2.2.2.2.2.2.1,a1,(bif (Nat.blt 0 a2.length) then(a2.getD 0 0) else 0),(bif (Nat.blt 1 a2.length) then(a2.getD 1 0) else 0),(bif (Nat.blt 2 a2.length) then(a2.getD 2 0) else 0),(bif (Nat.blt 3 a2.length) then(a2.getD 3 0) else 0),(bif (Nat.blt 4 a2.length) then(a2.getD 4 0) else 0),(bif (Nat.blt 5 a2.length) then(a2.getD 5 0) else 0))])
  some (yG a0 y0))
 else none
def A2 (k:Nat)(a0:List zD)(a1 a2:Int):Option ((List zD)×Int):=
 (nu k a0 a1).bind fun x0=>
 bif !(decide (x0.2.2.2.2.2.2.2.2=0)) then some (a0,x0.2.2.2.2.2.2.2.2)
 else(sL k x0.1 (gm x0 (a2,x0.2.2.2.2.2.2.1,x0.2.2.2.2.2.2.2.1))).bind fun x1=>
 some (x1.1,x1.2)
def QS (k:Nat)(a0:List zD)(a1:Int):Option X3:=
 (mo k a0 a1).bind fun x0=>
 bif decide (x0<0) then none
 else(sK k a0).bind fun x1=>
 (Fu k x1 x0 (zA (x0+1))).bind fun x2=>
 bif zE x0 a0.length then some (x2,(gi (a0.getD x0.toNat (0,0,0,0,0,0,0)) 0))
 else none
abbrev Ln:Type:=Int×(List zD)×zD
abbrev S6:Type:=Int→List zD→zD→Option Ln
def A6 (k:Nat)(rec:S6)(s9:Int)(r0:List zD)(b1:zD):Option Ln:=
 bif decide (s9 < (r0.length : Int)) then (bif zE s9 r0.length then ((AV k (r0.getD s9.toNat (0,0,0,0,0,0,0)).1 (r0.getD s9.toNat (0,0,0,0,0,0,0)).2.1 (r0.getD s9.toNat (0,0,0,0,0,0,0)).2.2.1 (r0.getD s9.toNat (0,0,0,0,0,0,0)).2.2.2.1 (r0.getD s9.toNat (0,0,0,0,0,0,0)).2.2.2.2.1 (r0.getD s9.toNat (0,0,0,0,0,0,0)).2.2.2.2.2.1 (r0.getD s9.toNat (0,0,0,0,0,0,0)).2.2.2.2.2.2 b1.1 b1.2.1 b1.2.2.1 b1.2.2.2.1 b1.2.2.2.2.1 b1.2.2.2.2.2.1 b1.2.2.2.2.2.2).bind fun x1=>
   bif decide (x1<0) then(rec (zA (s9+1)) r0 b1)
   else some (s9,r0,b1))
  else none)
 else some (s9,r0,b1)
def A5 (k:Nat):Nat→S6:=vY (fun _ _ _=>none) (A6 k)
def A7 (k:Nat)(a0:List zD)(a1:Int):Option ((List zD)×Int):=
 (QS k a0 a1).bind fun x0=>
 bif !(decide (x0.2.2.2.2.2.2.2.2=0)) then some (a0,x0.2.2.2.2.2.2.2.2)
 else(A5 k k 0 x0.1 (A4 x0)).bind fun z=>
 (Jx k z.2.1 z.1 [z.2.2]).bind fun x2=>
 some (x2,0)
def A3 (k:Nat)(a0:List zD)(a1:Int):Option ((List zD)×Int):=
 (nu k a0 a1).bind fun x0=>
 bif !(decide (x0.2.2.2.2.2.2.2.2=0)) then some (a0,x0.2.2.2.2.2.2.2.2)
 else(sL k x0.1 (A4 x0)).bind fun x1=>
 some (x1.1,x1.2)
def we (k:Nat)(a0:wW)(a1:zD):Option (Int×wW):=
 (S2 k a0 a1.2.1).bind fun x0=>
 bif !(decide (x0.2=0)) then some (x0.2,a0)
 else bif decide (a1.1 = 2) then ((nu k a0.2.2.2.2.2.2.2.2.2.2.2.2.1 a1.2.1).bind fun x1=>
  (sZ k (iu a0 (x1.1,a0.2.2.2.2.2.2.2.2.2.2.2.2.2)) 20 [a1.2.1]).bind fun x2=>
  some (x1.2.2.2.2.2.2.2.2,x2))
 else bif decide (a1.1 = 4) then ((vA k a1.2.2.1 1 3).bind fun x3=>
  bif !x3 then some (1,a0)
  else(wc k (vC a0) a0.2.2.2.2.2.1 a1.2.2.1).bind fun x4=>
  bif !(decide (x4=0)) then some (x4,a0)
  else(A2 k a0.2.2.2.2.2.2.2.2.2.2.2.2.1 a1.2.1 a1.2.2.1).bind fun x5=>
  some (x5.2,(iu a0 (x5.1,a0.2.2.2.2.2.2.2.2.2.2.2.2.2))))
 else bif decide (a1.2.2.1 = 0) then ((A7 k a0.2.2.2.2.2.2.2.2.2.2.2.2.1 a1.2.1).bind fun x6=>
  some (x6.2,(iu a0 (x6.1,a0.2.2.2.2.2.2.2.2.2.2.2.2.2))))
 else bif decide (a1.2.2.1 = 1) then ((A3 k a0.2.2.2.2.2.2.2.2.2.2.2.2.1 a1.2.1).bind fun x7=>
  some (x7.2,(iu a0 (x7.1,a0.2.2.2.2.2.2.2.2.2.2.2.2.2))))
 else some (1,a0)
def Qg (k:Nat)(a0:List zO):Option (List zO):=
 bif zW (0+a0.length) 24 then some a0
 else none
def Qd (k:Nat)(a0:List (List Int)):Option Nat:=
 bif zW (0+a0.length) 24 then some a0.length
 else none
abbrev Ta:Type:=List (List Int)→Int→Int→List (List Int)→Nat→Option ((List (List Int))×Nat)
def zn (k:Nat)(rec:Ta)(s8:List (List Int))(s9 ax:Int)(m0:List (List Int))(n0:Nat):Option ((List (List Int))×Nat):=
 bif decide (ax < s9) then (bif zE ax s8.length then ((nn k (s8.getD ax.toNat [])).bind fun x1=>
   bif zE ax n0 then (bif Nat.beq ax.toNat m0.length then(rec s8 s9 (zA (ax+1)) (m0++[x1]) n0)
    else none)
   else none)
  else none)
 else some (m0,n0)
def EL (k:Nat):Nat→Ta
 |0,_,_,_,_,_=>none
 |n+1,s8,s9,ax,m0,n0=>zn k (EL k n) s8 s9 ax m0 n0
def EM (k:Nat)(a0:List (List Int)):Option (List (List Int)):=
 (Qd k a0).bind fun x0=>
 (EL k k a0 (a0.length:Int) 0 [] x0).bind fun z=>
 Py z.1 z.2
def fq (k:Nat)(ab:List zO)(ar:List (List Int))(aq:List Int)(an:List (List Int)):Option ((List zO)×(List (List Int))×(List Int)×(List (List Int))):=
 (Qg k ab).bind fun x0=>
 (EM k ar).bind fun x1=>
 (nn k aq).bind fun x2=>
 (EM k an).bind fun x3=>
 some (x0,x1,x2,x3)
def Td (k:Nat)(a0:wW)(a1:Int):Option Bool:=
 (vA k a1 0 (zA (a0.1-1))).bind fun x0=>
 bif x0 then some (!(decide (a1=a0.2.2.2.2.2.2.2.2.2.2.2.2.2.2.2.2.1)))
 else some false
def wg (k:Nat)(a0:wW)(a1:zD):Option (Int×wW):=
 (fq k a0.2.2.2.2.2.2.1 a0.2.2.2.2.2.2.2.1 a0.2.2.2.2.2.2.2.2.1 a0.2.2.2.2.2.2.2.2.2.1).bind fun x0=>
 bif decide (a1.1 = 5) then ((Td k a0 a1.2.1).bind fun x1=>
  bif !x1 then some (1,a0)
  else(vA k a1.2.2.1 (-1) 1152921504606846976).bind fun x2=>
  bif !x2 then some (1,a0)
  else bif zE a0.2.2.2.2.2.2.2.2.2.2.2.2.2.2.2.2.1 x0.2.1.length then (bif zE a1.2.1 (x0.2.1.getD a0.2.2.2.2.2.2.2.2.2.2.2.2.2.2.2.2.1.toNat []).length then (let y0:List (List Int):=(x0.2.1.set a0.2.2.2.2.2.2.2.2.2.2.2.2.2.2.2.2.1.toNat ((x0.2.1.getD a0.2.2.2.2.2.2.2.2.2.2.2.2.2.2.2.2.1.toNat []).set a1.2.1.toNat a1.2.2.1))
    some (0,(wT a0 (x0.1,y0,x0.2.2.1,x0.2.2.2,a0.2.2.2.2.2.2.2.2.2.2))))
   else none)
  else none)
 else bif decide (a1.1 = 6) then ((vA k a1.2.1 (-1) 1152921504606846976).bind fun x3=>
  bif !x3 then some (1,a0)
  else bif zE a0.2.2.2.2.2.2.2.2.2.2.2.2.2.2.2.2.1 x0.2.2.1.length then (let y1:List Int:=(x0.2.2.1.set a0.2.2.2.2.2.2.2.2.2.2.2.2.2.2.2.2.1.toNat a1.2.1)
   some (0,(wT a0 (x0.1,x0.2.1,y1,x0.2.2.2,a0.2.2.2.2.2.2.2.2.2.2))))
  else none)
 else(vA k a1.2.1 0 1152921504606846976).bind fun x4=>
 bif !x4 then some (1,a0)
 else bif zE a0.2.2.2.2.2.2.2.2.2.2.2.2.2.2.2.2.1 x0.1.length then (let y2:List zO:=(x0.1.set a0.2.2.2.2.2.2.2.2.2.2.2.2.2.2.2.2.1.toNat ((x0.1.getD a0.2.2.2.2.2.2.2.2.2.2.2.2.2.2.2.2.1.toNat (0,0,0)).1,(x0.1.getD a0.2.2.2.2.2.2.2.2.2.2.2.2.2.2.2.2.1.toNat (0,0,0)).2.1,a1.2.1))
  some (0,(wT a0 (y2,x0.2.1,x0.2.2.1,x0.2.2.2,a0.2.2.2.2.2.2.2.2.2.2))))
 else none
def G1 (k:Nat)(a0:wW)(a1:Int):Option Bool:=
 (vA k a1 0 (zA ((a0.2.1.length:Int)-1))).bind fun x0=>
 some x0
def BV (k:Nat)(a0:List (List Int)):Option (List (List Int)):=
 bif zW (0+a0.length) 24 then some a0
 else none
def nw (k:Nat)(a0:List Int)(a1 a2:Int):Option (List Int):=
 (nn k a0).bind fun x0=>
 bif decide (a1 ≥ 0) then (bif decide (a1 < (x0.length : Int)) then (bif zE a1 x0.length then some (x0.set a1.toNat a2)
   else none)
  else some x0)
 else some x0
def QV (k:Nat)(a0:Int):Option Bool:=
 bif decide (a0≥0) then some (decide (a0≤10000))
 else some false
def FB (k:Nat)(a0 a1:Int):Option wO:=
 some ((IntKind.wrap .u64 ((IntKind.wrap .u64 ((IntKind.wrap .u64 ((shr .u64 a0 32)*(shr .u64 a1 32)))+(shr .u64 (IntKind.wrap .u64 ((IntKind.wrap .u64 ((shr .u64 a0 32)*(yK .u64 a1 4294967295)))+(shr .u64 (IntKind.wrap .u64 ((yK .u64 a0 4294967295)*(yK .u64 a1 4294967295))) 32))) 32)))+(shr .u64 (IntKind.wrap .u64 ((yK .u64 (IntKind.wrap .u64 ((IntKind.wrap .u64 ((shr .u64 a0 32)*(yK .u64 a1 4294967295)))+(shr .u64 (IntKind.wrap .u64 ((yK .u64 a0 4294967295)*(yK .u64 a1 4294967295))) 32))) 4294967295)+(IntKind.wrap .u64 ((yK .u64 a0 4294967295)*(shr .u64 a1 32))))) 32))),(IntKind.wrap .u64 (a0*a1)))
def yOx (k:Nat)(a0:Int):Option Int:=
 bif decide (a0 ≥ 4294967296) then (bif decide ((shr .u64 a0 32) ≥ 65536) then (bif decide ((shr .u64 (shr .u64 a0 32) 16)≥256) then none
   else none)
  else bif decide ((shr .u64 a0 32)≥256) then none
  else none)
 else bif decide (a0 ≥ 65536) then (bif decide ((shr .u64 a0 16)≥256) then none
  else none)
 else bif decide (a0≥256) then none
 else none
def yPp (k:Nat)(a0:Int):Option Int:=
 (yOx k a0).bind fun x0=>
 some (zA (64-x0))
abbrev Ls:Type:=Int×Int×Int×Int×Int×Int×Int×Int
abbrev Tf:Type:=Int→Int→Int→Int→Int→Int→Int→Int→Int→Option Ls
def yFg (k:Nat)(rec:Tf)(s2 s8 s9 ax bo bV bE bd cy:Int):Option Ls:=
 bif decide (bd ≥ 4294967296) then (bif decide ((IntKind.wrap .u64 (cy+s9))≥4294967296) then some (s2,s8,s9,ax,bo,bV,bE,(IntKind.wrap .u64 (bd-1)))
  else rec s2 s8 s9 ax bo bV bE (IntKind.wrap .u64 (bd-1)) (IntKind.wrap .u64 (cy+s9)))
 else bif decide ((IntKind.wrap .u64 (bd * ax)) > (IntKind.wrap .u64 ((IntKind.wrap .u64 (4294967296 * cy)) + bV))) then (bif decide ((IntKind.wrap .u64 (cy+s9))≥4294967296) then some (s2,s8,s9,ax,bo,bV,bE,(IntKind.wrap .u64 (bd-1)))
  else rec s2 s8 s9 ax bo bV bE (IntKind.wrap .u64 (bd-1)) (IntKind.wrap .u64 (cy+s9)))
 else some (s2,s8,s9,ax,bo,bV,bE,bd)
def Tg (k:Nat):Nat→Tf:=vY (fun _ _ _ _ _ _ _ _ _=>none) (yFg k)
abbrev Lu:Type:=Int×Int×Int×Int×Int×Int
abbrev Th:Type:=Int→Int→Int→Int→Int→Int→Int→Int→Int→Option Lu
def yGp (k:Nat)(rec:Th)(s2 s8 s9 ax bE bd cy bz mA:Int):Option Lu:=
 bif decide (mA ≥ 4294967296) then (bif decide ((IntKind.wrap .u64 (cy+s9))≥4294967296) then some (s2,s8,bE,bd,bz,(IntKind.wrap .u64 (mA-1)))
  else rec s2 s8 s9 ax bE bd (IntKind.wrap .u64 (cy+s9)) bz (IntKind.wrap .u64 (mA-1)))
 else bif decide ((IntKind.wrap .u64 (mA * ax)) > (IntKind.wrap .u64 ((IntKind.wrap .u64 (4294967296 * cy)) + bE))) then (bif decide ((IntKind.wrap .u64 (cy+s9))≥4294967296) then some (s2,s8,bE,bd,bz,(IntKind.wrap .u64 (mA-1)))
  else rec s2 s8 s9 ax bE bd (IntKind.wrap .u64 (cy+s9)) bz (IntKind.wrap .u64 (mA-1)))
 else some (s2,s8,bE,bd,bz,mA)
def Ti (k:Nat):Nat→Th:=vY (fun _ _ _ _ _ _ _ _ _=>none) (yGp k)
def JF (k:Nat)(a0 a1 a2:Int):Option wO:=
 bif decide (a2=0) then none
 else bif decide (a2≤a0) then none
 else bif decide (a0 = 0) then (bif !(decide (a2 = 0)) then (bif !(decide (a2=0)) then some ((IntKind.wrap .u64 (Int.tdiv a1 a2)),(Int.tmod a1 a2))
   else none)
  else none)
 else(yPp k a2).bind fun x0=>
 bif !(decide ((IntKind.wrap .u64 (x0)) < 0)) then (bif !(decide ((IntKind.wrap .u64 (x0)) < 0)) then (bif !(decide ((IntKind.wrap .u64 (64 - (IntKind.wrap .u64 (x0)))) < 0)) then (bif !(decide ((IntKind.wrap .u64 (x0)) < 0)) then (bif !(decide ((shr .u64 (shl .u64 a2 (IntKind.wrap .u64 (x0))) 32) = 0)) then ((Tg k k (shl .u64 a2 (IntKind.wrap .u64 (x0))) (IntKind.wrap .u64 (x0)) (shr .u64 (shl .u64 a2 (IntKind.wrap .u64 (x0))) 32) (yK .u64 (shl .u64 a2 (IntKind.wrap .u64 (x0))) 4294967295) (fK .u64 (shl .u64 a0 (IntKind.wrap .u64 (x0))) (shr .u64 a1 (IntKind.wrap .u64 (64-(IntKind.wrap .u64 (x0)))))) (shr .u64 (shl .u64 a1 (IntKind.wrap .u64 (x0))) 32) (yK .u64 (shl .u64 a1 (IntKind.wrap .u64 (x0))) 4294967295) (IntKind.wrap .u64 (Int.tdiv (fK .u64 (shl .u64 a0 (IntKind.wrap .u64 (x0))) (shr .u64 a1 (IntKind.wrap .u64 (64-(IntKind.wrap .u64 (x0)))))) (shr .u64 (shl .u64 a2 (IntKind.wrap .u64 (x0))) 32))) (IntKind.wrap .u64 ((fK .u64 (shl .u64 a0 (IntKind.wrap .u64 (x0))) (shr .u64 a1 (IntKind.wrap .u64 (64-(IntKind.wrap .u64 (x0))))))-(IntKind.wrap .u64 ((IntKind.wrap .u64 (Int.tdiv (fK .u64 (shl .u64 a0 (IntKind.wrap .u64 (x0))) (shr .u64 a1 (IntKind.wrap .u64 (64-(IntKind.wrap .u64 (x0)))))) (shr .u64 (shl .u64 a2 (IntKind.wrap .u64 (x0))) 32)))*(shr .u64 (shl .u64 a2 (IntKind.wrap .u64 (x0))) 32)))))).bind fun z=>
      bif !(decide (z.2.2.1 = 0)) then ((Ti k k z.1 z.2.1 z.2.2.1 z.2.2.2.1 z.2.2.2.2.2.2.1 z.2.2.2.2.2.2.2 (IntKind.wrap .u64 ((IntKind.wrap .u64 ((IntKind.wrap .u64 ((IntKind.wrap .u64 (z.2.2.2.2.1*4294967296))+z.2.2.2.2.2.1))-(IntKind.wrap .u64 (z.2.2.2.2.2.2.2*z.1))))-(IntKind.wrap .u64 ((IntKind.wrap .u64 (Int.tdiv (IntKind.wrap .u64 ((IntKind.wrap .u64 ((IntKind.wrap .u64 (z.2.2.2.2.1*4294967296))+z.2.2.2.2.2.1))-(IntKind.wrap .u64 (z.2.2.2.2.2.2.2*z.1)))) z.2.2.1))*z.2.2.1)))) (IntKind.wrap .u64 ((IntKind.wrap .u64 ((IntKind.wrap .u64 (z.2.2.2.2.1*4294967296))+z.2.2.2.2.2.1))-(IntKind.wrap .u64 (z.2.2.2.2.2.2.2*z.1)))) (IntKind.wrap .u64 (Int.tdiv (IntKind.wrap .u64 ((IntKind.wrap .u64 ((IntKind.wrap .u64 (z.2.2.2.2.1*4294967296))+z.2.2.2.2.2.1))-(IntKind.wrap .u64 (z.2.2.2.2.2.2.2*z.1)))) z.2.2.1))).bind fun z1=>
       bif !(decide (z1.2.1<0)) then some ((IntKind.wrap .u64 ((IntKind.wrap .u64 (z1.2.2.2.1*4294967296))+z1.2.2.2.2.2)),(shr .u64 (IntKind.wrap .u64 ((IntKind.wrap .u64 ((IntKind.wrap .u64 (z1.2.2.2.2.1*4294967296))+z1.2.2.1))-(IntKind.wrap .u64 (z1.2.2.2.2.2*z1.1)))) z1.2.1))
       else none)
      else none)
     else none)
    else none)
   else none)
  else none)
 else none
def JG (k:Nat)(a0 a1 a2:Int):Option wZ:=
 bif decide (a0<0) then some (0,false)
 else bif decide (a1<0) then some (0,false)
 else(QV k a2).bind fun x0=>
 bif !x0 then some (0,false)
 else(FB k (IntKind.wrap .u64 (a0)) (IntKind.wrap .u64 (a1))).bind fun x1=>
 (JF k (Int.tmod x1.1 10000) x1.2 10000).bind fun x2=>
 (FB k x2.1 (IntKind.wrap .u64 ((zA (10000-a2))))).bind fun x3=>
 (uU k x3.2 (IntKind.wrap .u64 (Int.tdiv (IntKind.wrap .u64 (x2.2*(IntKind.wrap .u64 ((zA (10000-a2)))))) 10000)) 0).bind fun x4=>
 bif decide ((IntKind.wrap .u64 (Int.tdiv x1.1 10000)) > 0) then (bif decide ((IntKind.wrap .u64 ((zA (10000-a2))))>0) then some (0,false)
  else bif decide ((IntKind.wrap .u64 (x3.1+x4.2))>0) then some (0,false)
  else bif decide (x4.1>9223372036854775807) then some (0,false)
  else some ((zA (x4.1)),true))
 else bif decide ((IntKind.wrap .u64 (x3.1+x4.2))>0) then some (0,false)
 else bif decide (x4.1>9223372036854775807) then some (0,false)
 else some ((zA (x4.1)),true)
abbrev Tm:Type:=Int→Int→List Int→Int→Int→Option wO
def Bc (k:Nat)(rec:Tm)(s4 s5:Int)(s9:List Int)(ax bo:Int):Option wO:=
 bif decide (bo < ax) then (bif zE bo s9.length then ((uU k s5 (IntKind.wrap .u64 ((s9.getD bo.toNat 0))) 0).bind fun x0=>
   rec (zA (s4+(zA ((shr .i64 (s9.getD bo.toNat 0) 63)+(zA (x0.2)))))) x0.1 s9 ax (zA (bo+1)))
  else none)
 else some (s4,s5)
def Bb (k:Nat):Nat→Tm
 |0,_,_,_,_,_=>none
 |n+1,s4,s5,s9,ax,bo=>Bc k (Bb k n) s4 s5 s9 ax bo
def Ba (k:Nat)(a0:List Int):Option wZ:=
 (Bb k k 0 0 a0 (a0.length:Int) 0).bind fun z=>
 bif !(decide (z.1=(shr .i64 (zA (z.2)) 63))) then some (0,false)
 else some ((zA (z.2)),true)
abbrev To:Type:=List Int→List Int→List wO→Int→Int→List Int→Option ((List Int)⊕wZ)
def Be (k:Nat)(rec:To)(s1 s2:List Int)(iw:List wO)(aZ eO:Int)(r0:List Int):Option ((List Int)⊕wZ):=
 bif decide (eO < aZ) then (bif zE eO iw.length then (bif zE eO s1.length then (bif zE eO s2.length then ((JG k (s1.getD eO.toNat 0) (s2.getD eO.toNat 0) (iw.getD eO.toNat (0,0)).2).bind fun x0=>
     bif !x0.2 then some (.inr (0,false))
     else bif zW (r0.length+1) 8 then(rec s1 s2 iw aZ (zA (eO+1)) (r0++[x0.1]))
     else none)
    else none)
   else none)
  else none)
 else some (.inl r0)
def Bd (k:Nat):Nat→To:=vY (fun _ _ _ _ _ _=>none) (Be k)
def oE (k:Nat)(a0:List wO)(a1 a2:List Int):Option wZ:=
 bif !(decide ((a1.length:Int)=(a0.length:Int))) then some (0,false)
 else bif !(decide ((a2.length:Int)=(a0.length:Int))) then some (0,false)
 else(Bd k k a1 a2 a0 (a0.length:Int) 0 []).bind fun z=>
 match z with
 |.inl z1=>(Ba k z1).bind fun x1=>
  some (x1.1,x1.2)
 |.inr z2=>some (z2.1,z2.2)
def J4 (k:Nat)(a0:wW)(a1 a2:Int):Option (Int×wW):=
 (G1 k a0 a1).bind fun x0=>
 bif !x0 then some (1,a0)
 else(vA k a2 0 1099511627776).bind fun x1=>
 bif !x1 then some (1,a0)
 else(BV k a0.2.2.2.2.2.2.2.2.2.2.2.1).bind fun x2=>
 bif zE a0.2.2.2.2.2.2.2.2.2.2.2.2.2.2.2.2.1 x2.length then ((nw k (x2.getD a0.2.2.2.2.2.2.2.2.2.2.2.2.2.2.2.2.1.toNat []) a1 a2).bind fun x3=>
  bif zE a0.2.2.2.2.2.2.2.2.2.2.2.2.2.2.2.2.1 x2.length then (let y0:List (List Int):=(x2.set a0.2.2.2.2.2.2.2.2.2.2.2.2.2.2.2.2.1.toNat x3)
   bif zE a0.2.2.2.2.2.2.2.2.2.2.2.2.2.2.2.2.1 y0.length then ((oE k a0.2.1 a0.2.2.2.2.2.2.2.2.2.2.1 (y0.getD a0.2.2.2.2.2.2.2.2.2.2.2.2.2.2.2.2.1.toNat [])).bind fun x4=>
    bif zE a0.2.2.2.2.2.2.2.2.2.2.2.2.2.2.2.2.1 a0.2.2.2.2.2.2.1.length then (bif !x4.2 then some (8,a0)
     else bif decide (x4.1>1152921504606846976) then some (8,a0)
     else bif decide (x4.1 < (a0.2.2.2.2.2.2.1.getD a0.2.2.2.2.2.2.2.2.2.2.2.2.2.2.2.2.1.toNat (0, 0, 0)).2.1) then (bif decide ((zA ((a0.2.2.2.2.2.2.1.getD a0.2.2.2.2.2.2.2.2.2.2.2.2.2.2.2.2.1.toNat (0,0,0)).1+x4.1))<0) then some (9,a0)
      else(fq k a0.2.2.2.2.2.2.1 a0.2.2.2.2.2.2.2.1 a0.2.2.2.2.2.2.2.2.1 a0.2.2.2.2.2.2.2.2.2.1).bind fun x5=>
      bif zE a0.2.2.2.2.2.2.2.2.2.2.2.2.2.2.2.2.1 x5.1.length then (let y1:List zO:=(x5.1.set a0.2.2.2.2.2.2.2.2.2.2.2.2.2.2.2.2.1.toNat ((x5.1.getD a0.2.2.2.2.2.2.2.2.2.2.2.2.2.2.2.2.1.toNat (0,0,0)).1,x4.1,(x5.1.getD a0.2.2.2.2.2.2.2.2.2.2.2.2.2.2.2.2.1.toNat (0,0,0)).2.2))
       some (0,(wT a0 (y1,x5.2.1,x5.2.2.1,x5.2.2.2,a0.2.2.2.2.2.2.2.2.2.2.1,y0,a0.2.2.2.2.2.2.2.2.2.2.2.2))))
      else none)
     else(fq k a0.2.2.2.2.2.2.1 a0.2.2.2.2.2.2.2.1 a0.2.2.2.2.2.2.2.2.1 a0.2.2.2.2.2.2.2.2.2.1).bind fun x6=>
     bif zE a0.2.2.2.2.2.2.2.2.2.2.2.2.2.2.2.2.1 x6.1.length then (let y2:List zO:=(x6.1.set a0.2.2.2.2.2.2.2.2.2.2.2.2.2.2.2.2.1.toNat ((x6.1.getD a0.2.2.2.2.2.2.2.2.2.2.2.2.2.2.2.2.1.toNat (0,0,0)).1,x4.1,(x6.1.getD a0.2.2.2.2.2.2.2.2.2.2.2.2.2.2.2.2.1.toNat (0,0,0)).2.2))
      some (0,(wT a0 (y2,x6.2.1,x6.2.2.1,x6.2.2.2,a0.2.2.2.2.2.2.2.2.2.2.1,y0,a0.2.2.2.2.2.2.2.2.2.2.2.2))))
     else none)
    else none)
   else none)
  else none)
 else none
def J5 (k:Nat)(a0 a1:Int):Option wZ:=
 bif decide (a1 > 0) then (bif decide (a0>(zA (9223372036854775807-a1))) then some (0,false)
  else bif decide (a1 < 0) then (bif decide (a0<(zA ((-9223372036854775808)-a1))) then some (0,false)
   else some ((zA (a0+a1)),true))
  else some ((zA (a0+a1)),true))
 else bif decide (a1 < 0) then (bif decide (a0<(zA ((-9223372036854775808)-a1))) then some (0,false)
  else some ((zA (a0+a1)),true))
 else some ((zA (a0+a1)),true)
def IL (k:Nat)(bA bF aV:Int):Option Bool:=
 bif decide (bA > (-4611686018427387904)) then (bif decide (bA < 4611686018427387904) then (bif decide (bF ≥ 0) then (bif decide (bF ≤ 2305843009213693952) then (bif decide (aV≥0) then some (decide (aV≤2305843009213693952))
     else some false)
    else some false)
   else some false)
  else some false)
 else some false
def FV (k:Nat)(a0:zO)(a1:Int):Option (zO×Int):=
 (J5 k a0.1 a1).bind fun x0=>
 bif !x0.2 then some (a0,8)
 else(IL k x0.1 a0.2.1 a0.2.2).bind fun x1=>
 bif !x1 then some (a0,8)
 else some ((x0.1,a0.2),0)
def BW (k:Nat)(a0:zO)(a1:Int):Option (zO×Int):=
 (FV k a0 a1).bind fun x0=>
 some (x0.1,x0.2)
def sF (k:Nat)(bA bF aV a1:Int):Option Int:=
 some (sm false (zA (aV-a1)) 0)
def BX (k:Nat)(a0:zO)(a1 a2:Int):Option (zO×Int):=
 (FV k a0 (zA (0-a1))).bind fun x0=>
 bif decide (x0.2 = 0) then (bif decide (a2 = 1) then ((sF k a0.1 a0.2.1 a0.2.2 a1).bind fun x1=>
   some ((x0.1.1,x0.1.2.1,x1),x0.2))
  else bif decide (a2 = 2) then ((sF k a0.1 a0.2.1 a0.2.2 a1).bind fun x2=>
   some ((x0.1.1,x0.1.2.1,x2),x0.2))
  else some (x0.1,x0.2))
 else some (x0.1,x0.2)
def BY (k:Nat)(a0:zO)(a1:Int):Option Int:=
 bif decide (a1=3) then some (zA ((zA (a0.1+a0.2.1))-a0.2.2))
 else some (zA (a0.1+a0.2.1))
def Tx (k:Nat)(a0:wW)(a1 a2 a3:Int):Option (Int×wW):=
 (vA k a2 0 (zA (a0.1-1))).bind fun x0=>
 bif !x0 then some (1,a0)
 else(vA k a3 1 1099511627776).bind fun x1=>
 bif !x1 then some (1,a0)
 else bif zE a2 a0.2.2.2.2.2.2.1.length then ((BW k (a0.2.2.2.2.2.2.1.getD a2.toNat (0,0,0)) a3).bind fun x2=>
  bif decide (a1 = 11) then ((BX k (a0.2.2.2.2.2.2.1.getD a2.toNat (0,0,0)) a3 3).bind fun x3=>
   (BY k (a0.2.2.2.2.2.2.1.getD a2.toNat (0,0,0)) 3).bind fun x4=>
   bif decide (x4<a3) then some (9,a0)
   else bif decide ((zA (a0.2.2.2.2.2.2.2.2.2.2.2.2.2.2.1-a3))<0) then some (9,a0)
   else bif !(decide (x3.2=0)) then some (x3.2,a0)
   else bif decide ((zA (a0.2.2.2.2.2.2.2.2.2.2.2.2.2.2.1-a3))>1152921504606846976) then some (8,a0)
   else(fq k a0.2.2.2.2.2.2.1 a0.2.2.2.2.2.2.2.1 a0.2.2.2.2.2.2.2.2.1 a0.2.2.2.2.2.2.2.2.2.1).bind fun x5=>
   bif zE a2 x5.1.length then some (0,(wT a0 ((x5.1.set a2.toNat x3.1),x5.2.1,x5.2.2.1,x5.2.2.2,(C6 a0 ((zA (a0.2.2.2.2.2.2.2.2.2.2.2.2.2.2.1-a3)),a0.2.2.2.2.2.2.2.2.2.2.2.2.2.2.2)))))
   else none)
  else bif !(decide (x2.2=0)) then some (x2.2,a0)
  else bif decide ((zA (a0.2.2.2.2.2.2.2.2.2.2.2.2.2.2.1+a3))>1152921504606846976) then some (8,a0)
  else(fq k a0.2.2.2.2.2.2.1 a0.2.2.2.2.2.2.2.1 a0.2.2.2.2.2.2.2.2.1 a0.2.2.2.2.2.2.2.2.2.1).bind fun x6=>
  bif zE a2 x6.1.length then some (0,(wT a0 ((x6.1.set a2.toNat x2.1),x6.2.1,x6.2.2.1,x6.2.2.2,(C6 a0 ((zA (a0.2.2.2.2.2.2.2.2.2.2.2.2.2.2.1+a3)),a0.2.2.2.2.2.2.2.2.2.2.2.2.2.2.2)))))
  else none)
 else none
abbrev Lx:Type:=(jo×(List qY)×(List Int)×(List zO)×(List (List Int))×(List Int)×(List (List Int)))⊕(Int×jo×(List qY))
abbrev TA:Type:=List (List Int)→Int→Int→jo→List qY→List Int→List zO→List (List Int)→List Int→List (List Int)→Option Lx
def yT0 (k:Nat)(rec:TA)(gL:List (List Int))(mB iT:Int)(b0:jo)(r1:List qY)(r2:List Int)(r4:List zO)(m5:List (List Int))(r6:List Int)(m7:List (List Int)):Option Lx:=
 bif decide (iT < mB) then (bif zE iT gL.length then ((oE k b0.2.1 r2 (gL.getD iT.toNat [])).bind fun x4=>
   bif !x4.2 then some (.inr (8,b0,r1))
   else bif decide (x4.1>1152921504606846976) then some (.inr (8,b0,r1))
   else bif zE iT r4.length then (let y0:List zO:=(r4.set iT.toNat ((r4.getD iT.toNat (0,0,0)).1,x4.1,(r4.getD iT.toNat (0,0,0)).2.2))
    rec gL mB (zA (iT+1)) b0 r1 r2 y0 m5 r6 m7)
   else none)
  else none)
 else some (.inl (b0,r1,r2,r4,m5,r6,m7))
def TC (k:Nat):Nat→TA:=vY (fun _ _ _ _ _ _ _ _ _ _=>none) (yT0 k)
def yMv (k:Nat)(a0:wW)(a1 a2:Int):Option (Int×wW):=
 (G1 k a0 a1).bind fun x0=>
 bif !x0 then some (1,a0)
 else(vA k a2 0 1048576).bind fun x1=>
 bif !x1 then some (1,a0)
 else(nw k a0.2.2.2.2.2.2.2.2.2.2.1 a1 a2).bind fun x2=>
 (fq k a0.2.2.2.2.2.2.1 a0.2.2.2.2.2.2.2.1 a0.2.2.2.2.2.2.2.2.1 a0.2.2.2.2.2.2.2.2.2.1).bind fun x3=>
 (TC k k a0.2.2.2.2.2.2.2.2.2.2.2.1 (a0.2.2.2.2.2.2.2.2.2.2.2.1.length:Int) 0 (jl a0) a0.2.2.2.2.2.2.2.2.2.2.2.2.2.2.2.2.2 x2 x3.1 x3.2.1 x3.2.2.1 x3.2.2.2).bind fun z=>
 match z with
 |.inl z1=>some (0,(wT z1.1 (vGv z1 (z1.2.2.1,(Rp z1.1 z1.2.1)))))
 |.inr z2=>some (z2.1,(vG z2.2.1 z2.2.2))
def KO (k:Nat)(a0:wW)(a1:zD):Option (Int×wW):=
 bif decide (a1.1 = 1) then ((J3 k a0 a1.2).bind fun x0=>
  some (x0.1,x0.2))
 else bif decide (a1.1 = 2) then ((we k a0 a1).bind fun x1=>
  some (x1.1,x1.2))
 else bif decide (a1.1 = 3) then ((we k a0 a1).bind fun x2=>
  some (x2.1,x2.2))
 else bif decide (a1.1 = 4) then ((we k a0 a1).bind fun x3=>
  some (x3.1,x3.2))
 else bif decide (a1.1 = 5) then ((wg k a0 a1).bind fun x4=>
  some (x4.1,x4.2))
 else bif decide (a1.1 = 6) then ((wg k a0 a1).bind fun x5=>
  some (x5.1,x5.2))
 else bif decide (a1.1 = 7) then ((wg k a0 a1).bind fun x6=>
  some (x6.1,x6.2))
 else bif decide (a1.1 = 8) then ((J4 k a0 a1.2.1 a1.2.2.1).bind fun x7=>
  some (x7.1,x7.2))
 else bif decide (a1.1 = 10) then ((Tx k a0 a1.1 a1.2.1 a1.2.2.1).bind fun x8=>
  some (x8.1,x8.2))
 else bif decide (a1.1 = 11) then ((Tx k a0 a1.1 a1.2.1 a1.2.2.1).bind fun x9=>
  some (x9.1,x9.2))
 else bif decide (a1.1 = 12) then ((yMv k a0 a1.2.1 a1.2.2.1).bind fun gK=>
  some (gK.1,gK.2))
 else some (0,a0)
def wb (k:Nat)(df:Int)(dM:List wO)(dN dh cm a1:Int):Option Bool:=
 some (decide (a1=dh))
def nA (k:Nat)(a0 a1:Int)(a2:List Int):Option qY:=
 some (a0,a1,(bif (Nat.blt 0 a2.length) then(a2.getD 0 0) else 0),(bif (Nat.blt 1 a2.length) then(a2.getD 1 0) else 0),(bif (Nat.blt 2 a2.length) then(a2.getD 2 0) else 0),(bif (Nat.blt 3 a2.length) then(a2.getD 3 0) else 0),(bif (Nat.blt 4 a2.length) then(a2.getD 4 0) else 0),(bif (Nat.blt 5 a2.length) then(a2.getD 5 0) else 0))
abbrev LC:Type:=Int×(List zO)×(List (List Int))×(List Int)×(List (List Int))×(List Int)×(List (List Int))×(List zD)×(List Int)×Int×Bool×Int×Int×Bool×(List qY)
abbrev TE:Type:=List zD→Int→Int→Int→List zO→List (List Int)→List Int→List (List Int)→List Int→List (List Int)→List zD→List Int→Int→Bool→Int→Int→Bool→List qY→Option LC
def BM (k:Nat)(rec:TE)(ax:List zD)(bo lS aa:Int)(af:List zO)(ag:List (List Int))(ae:List Int)(bb:List (List Int))(bq:List Int)(bx:List (List Int))(dJ:List zD)(dK:List Int)(dL:Int)(cc:Bool)(aw bG:Int)(aW:Bool)(r2:List qY):Option LC:=
 bif decide (lS < bo) then (bif zE lS ax.length then ((nA k (ax.getD lS.toNat (0,0,0,0,0,0,0)).2.1 22 [(ax.getD lS.toNat (0,0,0,0,0,0,0)).1]).bind fun x0=>
   bif zW (r2.length+1) 64 then(rec ax bo (zA (lS+1)) aa af ag ae bb bq bx dJ dK dL cc aw bG aW (r2++[x0]))
   else none)
  else none)
 else some (aa,af,ag,ae,bb,bq,bx,dJ,dK,dL,cc,aw,bG,aW,r2)
def BL (k:Nat):Nat→TE
 |0,_,_,_,_,_,_,_,_,_,_,_,_,_,_,_,_,_,_=>none
 |n+1,ax,bo,lS,aa,af,ag,ae,bb,bq,bx,dJ,dK,dL,cc,aw,bG,aW,r2=>BM k (BL k n) ax bo lS aa af ag ae bb bq bx dJ dK dL cc aw bG aW r2
abbrev LF:Type:=Int×(List zO)×(List (List Int))×(List Int)×(List (List Int))×(List Int)×(List (List Int))×(List zD)×(List Int)×Int×Bool×Int×Int×Bool×(List qY)
abbrev TF:Type:=List zO→Int→Int→Int→List zO→List (List Int)→List Int→List (List Int)→List Int→List (List Int)→List zD→List Int→Int→Bool→Int→Int→Bool→List qY→Option LF
def BO (k:Nat)(rec:TF)(jn:List zO)(eN kq aa:Int)(af:List zO)(ag:List (List Int))(ae:List Int)(bb:List (List Int))(bq:List Int)(bx:List (List Int))(dJ:List zD)(dK:List Int)(dL:Int)(cc:Bool)(aw bG:Int)(aW:Bool)(r2:List qY):Option LF:=
 bif decide (kq < eN) then (bif zE kq jn.length then ((nA k kq 23 [(jn.getD kq.toNat (0,0,0)).1]).bind fun x1=>
   bif zW (r2.length+1) 64 then(rec jn eN (zA (kq+1)) aa af ag ae bb bq bx dJ dK dL cc aw bG aW (r2++[x1]))
   else none)
  else none)
 else some (aa,af,ag,ae,bb,bq,bx,dJ,dK,dL,cc,aw,bG,aW,r2)
def BN (k:Nat):Nat→TF
 |0,_,_,_,_,_,_,_,_,_,_,_,_,_,_,_,_,_,_=>none
 |n+1,jn,eN,kq,aa,af,ag,ae,bb,bq,bx,dJ,dK,dL,cc,aw,bG,aW,r2=>BO k (BN k n) jn eN kq aa af ag ae bb bq bx dJ dK dL cc aw bG aW r2
def J1 (k:Nat)(dr:Int)(bH:List zO)(bW:List (List Int))(bX:List Int)(bY:List (List Int))(cU:List Int)(dO:List (List Int))(dt:List zD)(iU:List Int)(dP:Int)(fb:Bool):Option GI:=
 (BL k k dt (dt.length:Int) 0 dr bH bW bX bY cU dO dt iU dP fb 0 0 false []).bind fun z=>
 (BN k k z.2.1 (z.2.1.length:Int) 0 z.1 z.2.1 z.2.2.1 z.2.2.2.1 z.2.2.2.2.1 z.2.2.2.2.2.1 z.2.2.2.2.2.2.1 z.2.2.2.2.2.2.2.1 z.2.2.2.2.2.2.2.2.1 z.2.2.2.2.2.2.2.2.2.1 z.2.2.2.2.2.2.2.2.2.2.1 z.2.2.2.2.2.2.2.2.2.2.2.1 z.2.2.2.2.2.2.2.2.2.2.2.2.1 z.2.2.2.2.2.2.2.2.2.2.2.2.2.1 z.2.2.2.2.2.2.2.2.2.2.2.2.2.2).bind fun z1=>
 some (im z1 ([],z1.2.2.2.2.2.2.2.2.1,z1.2.2.2.2.2.2.2.2.2.1,true,z1.2.2.2.2.2.2.2.2.2.2.2.2.2.2))
def Rg (k:Nat)(cj ay bC aI aE aN aS a1:Int):Option Bool:=
 some (decide (a1>aS))
def BR (k:Nat)(df:Int)(dM:List wO)(dN dh cm a1:Int):Option Bool:=
 bif decide (a1 > 0) then (bif decide (a1 < dh) then (bif !(decide (cm=0)) then some (decide ((Int.tmod a1 cm)=0))
   else none)
  else some false)
 else some false
def QC (k:Nat)(cj ay bC aI aE aN aS a1:Int):Option Bool:=
 bif decide (a1≥aN) then some (decide (a1≤aS))
 else some false
def QB (k:Nat)(cj ay bC aI aE aN aS a1:Int):Option Bool:=
 (QC k cj ay bC aI aE aN aS a1).bind fun x0=>
 some x0
abbrev LH:Type:=List zD
abbrev TI:Type:=List zD→Int→Int→Int→List zD→Option LH
def AB (k:Nat)(rec:TI)(s8:List zD)(s9 ax aa:Int)(r1:List zD):Option LH:=
 bif decide (ax < s9) then (bif zE ax s8.length then ((QB k (s8.getD ax.toNat (0,0,0,0,0,0,0)).1 (s8.getD ax.toNat (0,0,0,0,0,0,0)).2.1 (s8.getD ax.toNat (0,0,0,0,0,0,0)).2.2.1 (s8.getD ax.toNat (0,0,0,0,0,0,0)).2.2.2.1 (s8.getD ax.toNat (0,0,0,0,0,0,0)).2.2.2.2.1 (s8.getD ax.toNat (0,0,0,0,0,0,0)).2.2.2.2.2.1 (s8.getD ax.toNat (0,0,0,0,0,0,0)).2.2.2.2.2.2 aa).bind fun x0=>
   bif x0 then (bif zW (r1.length + 1) 56 then (let y0:List zD:=(r1++[(s8.getD ax.toNat (0,0,0,0,0,0,0))])
     rec s8 s9 (zA (ax+1)) aa y0)
    else none)
   else rec s8 s9 (zA (ax+1)) aa r1)
  else none)
 else some r1
def Fk (k:Nat):Nat→TI
 |0,_,_,_,_,_=>none
 |n+1,s8,s9,ax,aa,r1=>AB k (Fk k n) s8 s9 ax aa r1
def QA (k:Nat)(a0:List zD)(cT:Int):Option (List zD):=
 (Fk k k a0 (a0.length:Int) 0 cT []).bind fun z=>
 some z
def AA (k:Nat)(a0:List zD)(a1:Int):Option (List zD):=
 (QA k a0 a1).bind fun x0=>
 some x0
def QF (k:Nat)(cj ay bC aI aE aN aS fP bj dq bc bm bQ cA:Int):Option Bool:=
 bif decide (ay=bj) then some (!(decide (aE=3)))
 else some false
abbrev TL:Type:=List zD→Int→Int→Int→Int→Int→Int→Int→Int→Int→Option (Unit⊕Int)
def AL (k:Nat)(rec:TL)(s0:List zD)(s7 s8 aa af ag ae bb bq bx:Int):Option (Unit⊕Int):=
 bif decide (s8 < s7) then (bif zE s8 s0.length then ((QF k (s0.getD s8.toNat (0,0,0,0,0,0,0)).1 (s0.getD s8.toNat (0,0,0,0,0,0,0)).2.1 (s0.getD s8.toNat (0,0,0,0,0,0,0)).2.2.1 (s0.getD s8.toNat (0,0,0,0,0,0,0)).2.2.2.1 (s0.getD s8.toNat (0,0,0,0,0,0,0)).2.2.2.2.1 (s0.getD s8.toNat (0,0,0,0,0,0,0)).2.2.2.2.2.1 (s0.getD s8.toNat (0,0,0,0,0,0,0)).2.2.2.2.2.2 aa af ag ae bb bq bx).bind fun x0=>
   bif x0 then some (.inr s8)
   else rec s0 s7 (zA (s8+1)) aa af ag ae bb bq bx)
  else none)
 else some (.inl ())
def AK (k:Nat):Nat→TL
 |0,_,_,_,_,_,_,_,_,_,_=>none
 |n+1,s0,s7,s8,aa,af,ag,ae,bb,bq,bx=>AL k (AK k n) s0 s7 s8 aa af ag ae bb bq bx
def QG (k:Nat)(a0:List zD)(kt fc ku du ek eu fe:Int):Option Int:=
 (AK k k a0 (a0.length:Int) 0 kt fc ku du ek eu fe).bind fun z=>
 match z with
 |.inl z1=>some (-1)
 |.inr z2=>some z2
def Jr (k:Nat)(a0:List zD)(kt fc ku du ek eu fe:Int):Option Bool:=
 (QG k a0 kt fc ku du ek eu fe).bind fun x0=>
 some (decide (x0≥0))
def QI (k:Nat)(cj ay bC aI aE aN aS:Int)(a1:List wZ)(a2:List zD):Option (Bool×(List wZ)):=
 bif !(Option.getD (List.lookup ay a1) false) then some (true,((ay,true)::a1))
 else bif decide (aE = 3) then ((Jr k a2 cj ay bC aI aE aN aS).bind fun x0=>
  some ((!x0),((ay,true)::a1)))
 else some (false,((ay,true)::a1))
abbrev LK:Type:=(List wZ)×(List zD)×(List zD)
abbrev TN:Type:=List zD→Int→Int→List wZ→List zD→List zD→Option LK
def AN (k:Nat)(rec:TN)(s8:List zD)(s9 ax:Int)(p1:List wZ)(bg r3:List zD):Option LK:=
 bif decide (ax < s9) then (bif zE ax s8.length then ((QI k (s8.getD ax.toNat (0,0,0,0,0,0,0)).1 (s8.getD ax.toNat (0,0,0,0,0,0,0)).2.1 (s8.getD ax.toNat (0,0,0,0,0,0,0)).2.2.1 (s8.getD ax.toNat (0,0,0,0,0,0,0)).2.2.2.1 (s8.getD ax.toNat (0,0,0,0,0,0,0)).2.2.2.2.1 (s8.getD ax.toNat (0,0,0,0,0,0,0)).2.2.2.2.2.1 (s8.getD ax.toNat (0,0,0,0,0,0,0)).2.2.2.2.2.2 p1 bg).bind fun x0=>
   bif x0.1 then (bif zW (r3.length + 1) 56 then (let y0:List zD:=(r3++[(s8.getD ax.toNat (0,0,0,0,0,0,0))])
     rec s8 s9 (zA (ax+1)) x0.2 bg y0)
    else none)
   else rec s8 s9 (zA (ax+1)) x0.2 bg r3)
  else none)
 else some (p1,bg,r3)
def AM (k:Nat):Nat→TN
 |0,_,_,_,_,_,_=>none
 |n+1,s8,s9,ax,p1,bg,r3=>AN k (AM k n) s8 s9 ax p1 bg r3
def QH (k:Nat)(a0:List zD)(cT:List wZ)(X8:List zD):Option ((List zD)×(List wZ)):=
 (AM k k a0 (a0.length:Int) 0 cT X8 []).bind fun z=>
 some (z.2.2,z.1)
def Ft (k:Nat)(a0:List zD)(a1:Int):Option (List zD):=
 (AA k a0 a1).bind fun x0=>
 (QH k x0 [] x0).bind fun x1=>
 some x1.1
def zr (k:Nat)(ab:List zO)(ar:List (List Int))(aq:List Int)(an:List (List Int))(fP bj dq bc bm bQ cA:Int):Option Bool:=
 bif decide (bj ≥ 0) then (bif decide (bj < (ab.length : Int)) then (bif decide (dq ≥ 0) then (bif decide (dq < (ab.length : Int)) then (bif !(decide (bj = dq)) then (bif decide (bc ≥ 1) then (bif decide (bc ≤ 1099511627776) then (bif decide (bm≥1) then some (decide (bm≤3))
        else some false)
       else some false)
      else some false)
     else some false)
    else some false)
   else some false)
  else some false)
 else some false
def Qx (k:Nat)(cj ay bC aI aE aN aS:Int)(aX:List zO)(dQ:List (List Int))(dR:List Int)(dU:List (List Int)):Option Bool:=
 (zr k aX dQ dR dU cj ay bC aI aE aN aS).bind fun x0=>
 some (!x0)
abbrev TR:Type:=List zD→Int→Int→List zO→List (List Int)→List Int→List (List Int)→Option (Unit⊕Int)
def Az (k:Nat)(rec:TR)(s0:List zD)(s7 s8:Int)(aa:List zO)(af:List (List Int))(ag:List Int)(ae:List (List Int)):Option (Unit⊕Int):=
 bif decide (s8 < s7) then (bif zE s8 s0.length then ((Qx k (s0.getD s8.toNat (0,0,0,0,0,0,0)).1 (s0.getD s8.toNat (0,0,0,0,0,0,0)).2.1 (s0.getD s8.toNat (0,0,0,0,0,0,0)).2.2.1 (s0.getD s8.toNat (0,0,0,0,0,0,0)).2.2.2.1 (s0.getD s8.toNat (0,0,0,0,0,0,0)).2.2.2.2.1 (s0.getD s8.toNat (0,0,0,0,0,0,0)).2.2.2.2.2.1 (s0.getD s8.toNat (0,0,0,0,0,0,0)).2.2.2.2.2.2 aa af ag ae).bind fun x0=>
   bif x0 then some (.inr s8)
   else rec s0 s7 (zA (s8+1)) aa af ag ae)
  else none)
 else some (.inl ())
def Fi (k:Nat):Nat→TR
 |0,_,_,_,_,_,_,_=>none
 |n+1,s0,s7,s8,aa,af,ag,ae=>Az k (Fi k n) s0 s7 s8 aa af ag ae
def Qy (k:Nat)(a0:List zD)(bL:List zO)(cB:List (List Int))(cC:List Int)(cD:List (List Int)):Option Int:=
 (Fi k k a0 (a0.length:Int) 0 bL cB cC cD).bind fun z=>
 match z with
 |.inl z1=>some (-1)
 |.inr z2=>some z2
def Jn (k:Nat)(a0:List zD)(bL:List zO)(cB:List (List Int))(cC:List Int)(cD:List (List Int)):Option Bool:=
 (Qy k a0 bL cB cC cD).bind fun x0=>
 some (decide (x0≥0))
abbrev LM:Type:=(List Int)×(List Int)×(List (List Int))
abbrev TU:Type:=List zD→Int→Int→List Int→List Int→List (List Int)→Option LM
def Ar (k:Nat)(rec:TU)(bd:List zD)(cy bz:Int)(r2 r3:List Int)(m4:List (List Int)):Option LM:=
 bif decide (bz < cy) then (bif zE bz bd.length then (bif zE (bd.getD bz.toNat (0, 0, 0, 0, 0, 0, 0)).2.1 r2.length then (bif zE (bd.getD bz.toNat (0, 0, 0, 0, 0, 0, 0)).2.1 r2.length then (let y0:List Int:=(r2.set (bd.getD bz.toNat (0,0,0,0,0,0,0)).2.1.toNat (zA ((r2.getD (bd.getD bz.toNat (0,0,0,0,0,0,0)).2.1.toNat 0)-(bd.getD bz.toNat (0,0,0,0,0,0,0)).2.2.2.1)))
     bif zE (bd.getD bz.toNat (0, 0, 0, 0, 0, 0, 0)).2.2.1 y0.length then (bif zE (bd.getD bz.toNat (0, 0, 0, 0, 0, 0, 0)).2.2.1 y0.length then (let y1:List Int:=(y0.set (bd.getD bz.toNat (0,0,0,0,0,0,0)).2.2.1.toNat (zA ((y0.getD (bd.getD bz.toNat (0,0,0,0,0,0,0)).2.2.1.toNat 0)+(bd.getD bz.toNat (0,0,0,0,0,0,0)).2.2.2.1)))
       bif zE (bd.getD bz.toNat (0, 0, 0, 0, 0, 0, 0)).2.1 m4.length then (bif zE (bd.getD bz.toNat (0, 0, 0, 0, 0, 0, 0)).2.2.1 (m4.getD (bd.getD bz.toNat (0, 0, 0, 0, 0, 0, 0)).2.1.toNat []).length then (bif zE (bd.getD bz.toNat (0, 0, 0, 0, 0, 0, 0)).2.2.1 (m4.getD (bd.getD bz.toNat (0, 0, 0, 0, 0, 0, 0)).2.1.toNat []).length then (let y2:List (List Int):=(m4.set (bd.getD bz.toNat (0,0,0,0,0,0,0)).2.1.toNat ((m4.getD (bd.getD bz.toNat (0,0,0,0,0,0,0)).2.1.toNat []).set (bd.getD bz.toNat (0,0,0,0,0,0,0)).2.2.1.toNat (zA (((m4.getD (bd.getD bz.toNat (0,0,0,0,0,0,0)).2.1.toNat []).getD (bd.getD bz.toNat (0,0,0,0,0,0,0)).2.2.1.toNat 0)+(bd.getD bz.toNat (0,0,0,0,0,0,0)).2.2.2.1))))
          bif zE (bd.getD bz.toNat (0, 0, 0, 0, 0, 0, 0)).2.2.1 y2.length then (bif zE (bd.getD bz.toNat (0, 0, 0, 0, 0, 0, 0)).2.1 (y2.getD (bd.getD bz.toNat (0, 0, 0, 0, 0, 0, 0)).2.2.1.toNat []).length then (bif zE (bd.getD bz.toNat (0, 0, 0, 0, 0, 0, 0)).2.1 (y2.getD (bd.getD bz.toNat (0, 0, 0, 0, 0, 0, 0)).2.2.1.toNat []).length then (let y3:List (List Int):=(y2.set (bd.getD bz.toNat (0,0,0,0,0,0,0)).2.2.1.toNat ((y2.getD (bd.getD bz.toNat (0,0,0,0,0,0,0)).2.2.1.toNat []).set (bd.getD bz.toNat (0,0,0,0,0,0,0)).2.1.toNat (zA (((y2.getD (bd.getD bz.toNat (0,0,0,0,0,0,0)).2.2.1.toNat []).getD (bd.getD bz.toNat (0,0,0,0,0,0,0)).2.1.toNat 0)-(bd.getD bz.toNat (0,0,0,0,0,0,0)).2.2.2.1))))
             bif !(decide ((bd.getD bz.toNat (0, 0, 0, 0, 0, 0, 0)).2.2.2.2.1 = 3)) then (bif zE (bd.getD bz.toNat (0, 0, 0, 0, 0, 0, 0)).2.1 r3.length then (bif zE (bd.getD bz.toNat (0, 0, 0, 0, 0, 0, 0)).2.1 r3.length then (let y4:List Int:=(r3.set (bd.getD bz.toNat (0,0,0,0,0,0,0)).2.1.toNat (zA ((r3.getD (bd.getD bz.toNat (0,0,0,0,0,0,0)).2.1.toNat 0)+(bd.getD bz.toNat (0,0,0,0,0,0,0)).2.2.2.1)))
                rec bd cy (zA (bz+1)) y1 y4 y3)
               else none)
              else none)
             else rec bd cy (zA (bz+1)) y1 r3 y3)
            else none)
           else none)
          else none)
         else none)
        else none)
       else none)
      else none)
     else none)
    else none)
   else none)
  else none)
 else some (r2,r3,m4)
def Aq (k:Nat):Nat→TU
 |0,_,_,_,_,_,_=>none
 |n+1,bd,cy,bz,r2,r3,m4=>Ar k (Aq k n) bd cy bz r2 r3 m4
def Ji (k:Nat)(a0:Int)(a1:List zD):Option ((List Int)×(List Int)×(List (List Int))):=
 (vg k a0 0).bind fun x0=>
 (vg k a0 0).bind fun x1=>
 (Ao k a0 0).bind fun x2=>
 (Aq k k a1 (a1.length:Int) 0 x0 x1 x2).bind fun z=>
 some (z.1,z.2.1,z.2.2)
def Qr (k:Nat)(cj ay bC aI aE aN aS a1:Int):Option Bool:=
 some (decide (ay=a1))
abbrev TW:Type:=List zD→Int→Int→Int→Option (Unit⊕Int)
def As (k:Nat)(rec:TW)(s0:List zD)(s7 s8 aa:Int):Option (Unit⊕Int):=
 bif decide (s8 < s7) then (bif zE s8 s0.length then ((Qr k (s0.getD s8.toNat (0,0,0,0,0,0,0)).1 (s0.getD s8.toNat (0,0,0,0,0,0,0)).2.1 (s0.getD s8.toNat (0,0,0,0,0,0,0)).2.2.1 (s0.getD s8.toNat (0,0,0,0,0,0,0)).2.2.2.1 (s0.getD s8.toNat (0,0,0,0,0,0,0)).2.2.2.2.1 (s0.getD s8.toNat (0,0,0,0,0,0,0)).2.2.2.2.2.1 (s0.getD s8.toNat (0,0,0,0,0,0,0)).2.2.2.2.2.2 aa).bind fun x0=>
   bif x0 then some (.inr s8)
   else rec s0 s7 (zA (s8+1)) aa)
  else none)
 else some (.inl ())
def Fg (k:Nat):Nat→TW
 |0,_,_,_,_=>none
 |n+1,s0,s7,s8,aa=>As k (Fg k n) s0 s7 s8 aa
def Qs (k:Nat)(a0:List zD)(cT:Int):Option Int:=
 (Fg k k a0 (a0.length:Int) 0 cT).bind fun z=>
 match z with
 |.inl z1=>some (-1)
 |.inr z2=>some z2
def Jj (k:Nat)(a0:List zD)(cT:Int):Option Bool:=
 (Qs k a0 cT).bind fun x0=>
 some (decide (x0≥0))
def Am (k:Nat)(rec:Int→List Int→Int→Int→Option Int)(s5:Int)(lS:List Int)(bV bE:Int):Option Int:=
 bif decide (bE < bV) then (bif zE bE lS.length then(rec (zA (s5+(lS.getD bE.toNat 0))) lS bV (zA (bE+1)))
  else none)
 else some s5
def Al (k:Nat):Nat→Int→List Int→Int→Int→Option Int
 |0,_,_,_,_=>none
 |n+1,s5,lS,bV,bE=>Am k (Al k n) s5 lS bV bE
def Jg (k:Nat)(ab:List zO)(ar:List (List Int))(aq:List Int)(an:List (List Int))(a1:Int):Option Int:=
 bif zE a1 an.length then ((Al k k 0 (an.getD a1.toNat []) ((an.getD a1.toNat []).length:Int) 0).bind fun z=>
  some z)
 else none
def Au (k:Nat)(a0 a1:Int):Option Bool:=
 bif !(decide (a1=(-1))) then some (decide (a0>a1))
 else some false
def Qt (k:Nat)(cj ay bC aI aE aN aS a1 lT nH lU:Int)(X9 kZ:List Int)(ew:List (List Int))(a4:Int)(Nl:List zO)(gn:List (List Int))(aah:List Int)(gp:List (List Int)):Option Bool:=
 bif !(decide (ay=a1)) then some false
 else bif zE a1 kZ.length then ((sF k lT nH lU (kZ.getD a1.toNat 0)).bind fun x0=>
  bif decide (aE = 3) then (bif decide (a4<x0) then some true
   else bif zE a1 gp.length then (bif zE bC (gp.getD a1.toNat []).length then (bif zE a1 ew.length then (bif zE bC (ew.getD a1.toNat []).length then (bif zE a1 gn.length then (bif zE bC (gn.getD a1.toNat []).length then ((Au k (zA (((gp.getD a1.toNat []).getD bC.toNat 0)+((ew.getD a1.toNat []).getD bC.toNat 0))) ((gn.getD a1.toNat []).getD bC.toNat 0)).bind fun x1=>
         some x1)
        else none)
       else none)
      else none)
     else none)
    else none)
   else none)
  else bif zE a1 gp.length then (bif zE bC (gp.getD a1.toNat []).length then (bif zE a1 ew.length then (bif zE bC (ew.getD a1.toNat []).length then (bif zE a1 gn.length then (bif zE bC (gn.getD a1.toNat []).length then ((Au k (zA (((gp.getD a1.toNat []).getD bC.toNat 0)+((ew.getD a1.toNat []).getD bC.toNat 0))) ((gn.getD a1.toNat []).getD bC.toNat 0)).bind fun x2=>
        some x2)
       else none)
      else none)
     else none)
    else none)
   else none)
  else none)
 else none
abbrev T1:Type:=List zD→Int→Int→Int→Int→Int→Int→List Int→List Int→List (List Int)→Int→List zO→List (List Int)→List Int→List (List Int)→Option (Unit⊕Int)
def Av (k:Nat)(rec:T1)(s0:List zD)(s7 s8 aa aw az aA:Int)(bg bZ:List Int)(ca:List (List Int))(cn:Int)(gM:List zO)(rf:List (List Int))(rj:List Int)(rp:List (List Int)):Option (Unit⊕Int):=
 bif decide (s8 < s7) then (bif zE s8 s0.length then ((Qt k (s0.getD s8.toNat (0,0,0,0,0,0,0)).1 (s0.getD s8.toNat (0,0,0,0,0,0,0)).2.1 (s0.getD s8.toNat (0,0,0,0,0,0,0)).2.2.1 (s0.getD s8.toNat (0,0,0,0,0,0,0)).2.2.2.1 (s0.getD s8.toNat (0,0,0,0,0,0,0)).2.2.2.2.1 (s0.getD s8.toNat (0,0,0,0,0,0,0)).2.2.2.2.2.1 (s0.getD s8.toNat (0,0,0,0,0,0,0)).2.2.2.2.2.2 aa aw az aA bg bZ ca cn gM rf rj rp).bind fun x0=>
   bif x0 then some (.inr s8)
   else rec s0 s7 (zA (s8+1)) aa aw az aA bg bZ ca cn gM rf rj rp)
  else none)
 else some (.inl ())
def Fh (k:Nat):Nat→T1
 |0,_,_,_,_,_,_,_,_,_,_,_,_,_,_,_=>none
 |n+1,s0,s7,s8,aa,aw,az,aA,bg,bZ,ca,cn,gM,rf,rj,rp=>Av k (Fh k n) s0 s7 s8 aa aw az aA bg bZ ca cn gM rf rj rp
def Qu (k:Nat)(a0:List zD)(cT cV dv cW:Int)(fg ez:List Int)(fh:List (List Int))(xp:Int)(eA:List zO)(gO:List (List Int))(gP:List Int)(gQ:List (List Int)):Option Int:=
 (Fh k k a0 (a0.length:Int) 0 cT cV dv cW fg ez fh xp eA gO gP gQ).bind fun z=>
 match z with
 |.inl z1=>some (-1)
 |.inr z2=>some z2
def Jk (k:Nat)(a0:List zD)(cT cV dv cW:Int)(fg ez:List Int)(fh:List (List Int))(xp:Int)(eA:List zO)(gO:List (List Int))(gP:List Int)(gQ:List (List Int)):Option Bool:=
 (Qu k a0 cT cV dv cW fg ez fh xp eA gO gP gQ).bind fun x0=>
 some (decide (x0≥0))
abbrev LO:Type:=(List zD)×Int×(List Int)×(List Int)×(List (List Int))×(List zO)×(List (List Int))×(List Int)×(List (List Int))×Int×Int×Int×Int×Int
abbrev T4:Type:=List zD→Int→List Int→Int→Int→List Int→List Int→List (List Int)→List zO→List (List Int)→List Int→List (List Int)→Int→Int→Int→Int→Int→Option LO
def Aw (k:Nat)(rec:T4)(s3:List zD)(bo:Int)(oQ:List Int)(gL mB:Int)(aa af:List Int)(ag:List (List Int))(aw:List zO)(az:List (List Int))(aA:List Int)(aD:List (List Int))(bg cn cX di gM:Int):Option LO:=
 bif decide (mB < gL) then (bif zE mB oQ.length then(rec s3 (zA (bo+(oQ.getD mB.toNat 0))) oQ gL (zA (mB+1)) aa af ag aw az aA aD bg cn cX di gM)
  else none)
 else some (s3,bo,aa,af,ag,aw,az,aA,aD,bg,cn,cX,di,gM)
def vj (k:Nat):Nat→T4
 |0,_,_,_,_,_,_,_,_,_,_,_,_,_,_,_,_,_=>none
 |n+1,s3,bo,oQ,gL,mB,aa,af,ag,aw,az,aA,aD,bg,cn,cX,di,gM=>Aw k (vj k n) s3 bo oQ gL mB aa af ag aw az aA aD bg cn cX di gM
def Jm (k:Nat)(gT rq:List Int)(gU:List (List Int))(aX:List zO)(dQ:List (List Int))(dR:List Int)(dU:List (List Int))(a2:Int)(a3:List zD):Option Bool:=
 bif zE a2 aX.length then (bif zE a2 gT.length then (bif decide ((zA ((zA ((aX.getD a2.toNat (0,0,0)).1+(aX.getD a2.toNat (0,0,0)).2.1))+(gT.getD a2.toNat 0)))<0) then some true
   else(Jg k aX dQ dR dU a2).bind fun x0=>
   bif zE a2 gU.length then ((vj k k a3 x0 (gU.getD a2.toNat []) ((gU.getD a2.toNat []).length:Int) 0 gT rq gU aX dQ dR dU a2 (aX.getD a2.toNat (0,0,0)).1 (aX.getD a2.toNat (0,0,0)).2.1 (aX.getD a2.toNat (0,0,0)).2.2 (zA ((zA ((aX.getD a2.toNat (0,0,0)).1+(aX.getD a2.toNat (0,0,0)).2.1))+(gT.getD a2.toNat 0)))).bind fun z=>
    bif zE z.2.2.2.2.2.2.2.2.2.1 z.2.2.2.2.2.2.2.1.length then ((Au k z.2.1 (z.2.2.2.2.2.2.2.1.getD z.2.2.2.2.2.2.2.2.2.1.toNat 0)).bind fun x1=>
     bif x1 then some true
     else(Jk k z.1 z.2.2.2.2.2.2.2.2.2.1 z.2.2.2.2.2.2.2.2.2.2.1 z.2.2.2.2.2.2.2.2.2.2.2.1 z.2.2.2.2.2.2.2.2.2.2.2.2.1 z.2.2.1 z.2.2.2.1 z.2.2.2.2.1 z.2.2.2.2.2.2.2.2.2.2.2.2.2 z.2.2.2.2.2.1 z.2.2.2.2.2.2.1 z.2.2.2.2.2.2.2.1 z.2.2.2.2.2.2.2.2.1).bind fun x2=>
     some x2)
    else none)
   else none)
  else none)
 else none
abbrev T6:Type:=List zD→Int→Int→List zO→List (List Int)→List Int→List (List Int)→List Int→List Int→List (List Int)→List Int→Option (List Int)
def Ay (k:Nat)(rec:T6)(s1:List zD)(cy bz:Int)(aa:List zO)(af:List (List Int))(ag:List Int)(ae:List (List Int))(r2 r3:List Int)(m4:List (List Int))(r5:List Int):Option (List Int):=
 bif decide (bz < cy) then ((Jj k s1 bz).bind fun x1=>
  bif x1 then ((Jm k r2 r3 m4 aa af ag ae bz s1).bind fun x2=>
   bif x2 then (bif zW (r5.length+1) 8 then(rec s1 cy (zA (bz+1)) aa af ag ae r2 r3 m4 (r5++[bz]))
    else none)
   else rec s1 cy (zA (bz+1)) aa af ag ae r2 r3 m4 r5)
  else rec s1 cy (zA (bz+1)) aa af ag ae r2 r3 m4 r5)
 else some r5
def Ax (k:Nat):Nat→T6
 |0,_,_,_,_,_,_,_,_,_,_,_=>none
 |n+1,s1,cy,bz,aa,af,ag,ae,r2,r3,m4,r5=>Ay k (Ax k n) s1 cy bz aa af ag ae r2 r3 m4 r5
def vk (k:Nat)(ab:List zO)(ar:List (List Int))(aq:List Int)(an:List (List Int))(a1:List zD):Option (List Int):=
 (Ji k (ab.length:Int) a1).bind fun x0=>
 (Ax k k a1 (ab.length:Int) 0 ab ar aq an x0.1 x0.2.1 x0.2.2 []).bind fun z=>
 some z
def vl (k:Nat)(ab:List zO)(ar:List (List Int))(aq:List Int)(an:List (List Int))(a1:List zD):Option Bool:=
 bif decide ((a1.length : Int) ≤ 64) then ((Jn k a1 ab ar aq an).bind fun x0=>
  bif !x0 then ((vk k ab ar aq an a1).bind fun x1=>
   some (decide ((x1.length:Int)=0)))
  else some false)
 else some false
def Qk (k:Nat)(cj ay bC aI aE aN aS:Int)(aX:List zO)(dQ:List (List Int))(dR:List Int)(dU:List (List Int)):Option Bool:=
 (zr k aX dQ dR dU cj ay bC aI aE aN aS).bind fun x0=>
 some (!x0)
abbrev Ua:Type:=List zD→Int→Int→List zO→List (List Int)→List Int→List (List Int)→Option (Unit⊕Int)
def zu (k:Nat)(rec:Ua)(s0:List zD)(s7 s8:Int)(aa:List zO)(af:List (List Int))(ag:List Int)(ae:List (List Int)):Option (Unit⊕Int):=
 bif decide (s8 < s7) then (bif zE s8 s0.length then ((Qk k (s0.getD s8.toNat (0,0,0,0,0,0,0)).1 (s0.getD s8.toNat (0,0,0,0,0,0,0)).2.1 (s0.getD s8.toNat (0,0,0,0,0,0,0)).2.2.1 (s0.getD s8.toNat (0,0,0,0,0,0,0)).2.2.2.1 (s0.getD s8.toNat (0,0,0,0,0,0,0)).2.2.2.2.1 (s0.getD s8.toNat (0,0,0,0,0,0,0)).2.2.2.2.2.1 (s0.getD s8.toNat (0,0,0,0,0,0,0)).2.2.2.2.2.2 aa af ag ae).bind fun x0=>
   bif x0 then some (.inr s8)
   else rec s0 s7 (zA (s8+1)) aa af ag ae)
  else none)
 else some (.inl ())
def EV (k:Nat):Nat→Ua
 |0,_,_,_,_,_,_,_=>none
 |n+1,s0,s7,s8,aa,af,ag,ae=>zu k (EV k n) s0 s7 s8 aa af ag ae
def Ql (k:Nat)(a0:List zD)(bL:List zO)(cB:List (List Int))(cC:List Int)(cD:List (List Int)):Option Int:=
 (EV k k a0 (a0.length:Int) 0 bL cB cC cD).bind fun z=>
 match z with
 |.inl z1=>some (-1)
 |.inr z2=>some z2
def I1 (k:Nat)(a0:List zD)(bL:List zO)(cB:List (List Int))(cC:List Int)(cD:List (List Int)):Option Bool:=
 (Ql k a0 bL cB cC cD).bind fun x0=>
 some (decide (x0≥0))
def P7 (k:Nat)(bA bF aV:Int):Option Bool:=
 (IL k bA bF aV).bind fun x0=>
 some (!x0)
abbrev Uc:Type:=List zO→Int→Int→Option (Unit⊕Int)
def zd (k:Nat)(rec:Uc)(s0:List zO)(s7 s8:Int):Option (Unit⊕Int):=
 bif decide (s8 < s7) then (bif zE s8 s0.length then ((P7 k (s0.getD s8.toNat (0,0,0)).1 (s0.getD s8.toNat (0,0,0)).2.1 (s0.getD s8.toNat (0,0,0)).2.2).bind fun x0=>
   bif x0 then some (.inr s8)
   else rec s0 s7 (zA (s8+1)))
  else none)
 else some (.inl ())
def EC (k:Nat):Nat→Uc
 |0,_,_,_=>none
 |n+1,s0,s7,s8=>zd k (EC k n) s0 s7 s8
def P8 (k:Nat)(a0:List zO):Option Int:=
 (EC k k a0 (a0.length:Int) 0).bind fun z=>
 match z with
 |.inl z1=>some (-1)
 |.inr z2=>some z2
def IP (k:Nat)(a0:List zO):Option Bool:=
 (P8 k a0).bind fun x0=>
 some (decide (x0≥0))
def P5 (k:Nat)(a0:Int):Option Bool:=
 bif decide (a0≥(-1)) then some (decide (a0≤2305843009213693952))
 else some false
def P9 (k:Nat)(a0:Int):Option Bool:=
 (P5 k a0).bind fun x0=>
 some (!x0)
abbrev Ue:Type:=List Int→Int→Int→Option (Unit⊕Int)
def ze (k:Nat)(rec:Ue)(s0:List Int)(s7 s8:Int):Option (Unit⊕Int):=
 bif decide (s8 < s7) then (bif zE s8 s0.length then ((P9 k (s0.getD s8.toNat 0)).bind fun x0=>
   bif x0 then some (.inr s8)
   else rec s0 s7 (zA (s8+1)))
  else none)
 else some (.inl ())
def ED (k:Nat):Nat→Ue
 |0,_,_,_=>none
 |n+1,s0,s7,s8=>ze k (ED k n) s0 s7 s8
def Qa (k:Nat)(a0:List Int):Option Int:=
 (ED k k a0 (a0.length:Int) 0).bind fun z=>
 match z with
 |.inl z1=>some (-1)
 |.inr z2=>some z2
def IQ (k:Nat)(a0:List Int):Option Bool:=
 (Qa k a0).bind fun x0=>
 some (decide (x0≥0))
def EF (k:Nat)(a0:List Int)(a1:Int):Option Bool:=
 bif decide ((a0.length : Int) = a1) then ((IQ k a0).bind fun x0=>
  some (!x0))
 else some false
abbrev Uh:Type:=Int→List (List Int)→Int→Int→Option (Unit⊕Bool)
def zh (k:Nat)(rec:Uh)(s1:Int)(bV:List (List Int))(bE bd:Int):Option (Unit⊕Bool):=
 bif decide (bd < bE) then (bif zE bd bV.length then ((EF k (bV.getD bd.toNat []) s1).bind fun x0=>
   bif !x0 then some (.inr false)
   else rec s1 bV bE (zA (bd+1)))
  else none)
 else some (.inl ())
def EG (k:Nat):Nat→Uh
 |0,_,_,_,_=>none
 |n+1,s1,bV,bE,bd=>zh k (EG k n) s1 bV bE bd
def IU (k:Nat)(a0:List (List Int))(a1:Int):Option Bool:=
 bif !(decide ((a0.length:Int)=a1)) then some false
 else(EG k k a1 a0 (a0.length:Int) 0).bind fun z=>
 match z with
 |.inl z1=>some true
 |.inr z2=>some z2
def IM (k:Nat)(a0:Int):Option Bool:=
 bif decide (a0>(-72057594037927936)) then some (decide (a0<72057594037927936))
 else some false
def Qb (k:Nat)(a0:Int):Option Bool:=
 (IM k a0).bind fun x0=>
 some (!x0)
abbrev Uj:Type:=List Int→Int→Int→Option (Unit⊕Int)
def zg (k:Nat)(rec:Uj)(s0:List Int)(s7 s8:Int):Option (Unit⊕Int):=
 bif decide (s8 < s7) then (bif zE s8 s0.length then ((Qb k (s0.getD s8.toNat 0)).bind fun x0=>
   bif x0 then some (.inr s8)
   else rec s0 s7 (zA (s8+1)))
  else none)
 else some (.inl ())
def EE (k:Nat):Nat→Uj
 |0,_,_,_=>none
 |n+1,s0,s7,s8=>zg k (EE k n) s0 s7 s8
def Qc (k:Nat)(a0:List Int):Option Int:=
 (EE k k a0 (a0.length:Int) 0).bind fun z=>
 match z with
 |.inl z1=>some (-1)
 |.inr z2=>some z2
def IS (k:Nat)(a0:List Int):Option Bool:=
 (Qc k a0).bind fun x0=>
 some (decide (x0≥0))
def IT (k:Nat)(a0:List Int)(a1:Int):Option Bool:=
 bif decide ((a0.length : Int) = a1) then ((IS k a0).bind fun x0=>
  some (!x0))
 else some false
abbrev Ul:Type:=Int→List (List Int)→Int→Int→Option (Unit⊕Bool)
def zi (k:Nat)(rec:Ul)(s1:Int)(bV:List (List Int))(bE bd:Int):Option (Unit⊕Bool):=
 bif decide (bd < bE) then (bif zE bd bV.length then ((IT k (bV.getD bd.toNat []) s1).bind fun x0=>
   bif !x0 then some (.inr false)
   else rec s1 bV bE (zA (bd+1)))
  else none)
 else some (.inl ())
def EH (k:Nat):Nat→Ul
 |0,_,_,_,_=>none
 |n+1,s1,bV,bE,bd=>zi k (EH k n) s1 bV bE bd
def IV (k:Nat)(a0:List (List Int))(a1:Int):Option Bool:=
 bif !(decide ((a0.length:Int)=a1)) then some false
 else(EH k k a1 a0 (a0.length:Int) 0).bind fun z=>
 match z with
 |.inl z1=>some true
 |.inr z2=>some z2
abbrev LP:Type:=((List (List Int))×(List (List Int))×Int×Int)⊕Bool
abbrev Un:Type:=List (List Int)→Int→List (List Int)→Int→Int→List Int→Int→Int→Option LP
def zk (k:Nat)(rec:Un)(s0:List (List Int))(s3:Int)(s7:List (List Int))(s8 s9:Int)(bE:List Int)(bd cy:Int):Option LP:=
 bif decide (cy < bd) then (bif zE cy bE.length then (bif zE cy s0.length then (bif zE s3 (s0.getD cy.toNat []).length then (bif !(decide (((s0.getD cy.toNat []).getD s3.toNat 0)=(zA (0-(bE.getD cy.toNat 0))))) then some (.inr false)
     else rec s0 s3 s7 s8 s9 bE bd (zA (cy+1)))
    else none)
   else none)
  else none)
 else some (.inl (s0,s7,s8,s9))
def zj (k:Nat):Nat→Un
 |0,_,_,_,_,_,_,_,_=>none
 |n+1,s0,s3,s7,s8,s9,bE,bd,cy=>zk k (zj k n) s0 s3 s7 s8 s9 bE bd cy
abbrev Uq:Type:=List (List Int)→List (List Int)→Int→Int→Option (Unit⊕Bool)
def zl (k:Nat)(rec:Uq)(s0 s7:List (List Int))(s8 s9:Int):Option (Unit⊕Bool):=
 bif decide (s9 < s8) then (bif zE s9 s7.length then ((zj k k s0 s9 s7 s8 s9 (s7.getD s9.toNat []) ((s7.getD s9.toNat []).length:Int) 0).bind fun z=>
   match z with
   |.inl z1=>rec z1.1 z1.2.1 z1.2.2.1 (zA (z1.2.2.2+1))
   |.inr z2=>some (.inr z2))
  else none)
 else some (.inl ())
def EI (k:Nat):Nat→Uq
 |0,_,_,_,_=>none
 |n+1,s0,s7,s8,s9=>zl k (EI k n) s0 s7 s8 s9
def IW (k:Nat)(a0:List (List Int)):Option Bool:=
 (EI k k a0 a0 (a0.length:Int) 0).bind fun z3=>
 match z3 with
 |.inl z4=>some true
 |.inr z5=>some z5
def uZ (k:Nat)(ab:List zO)(ar:List (List Int))(aq:List Int)(an:List (List Int)):Option Bool:=
 bif decide ((ab.length:Int)<1) then some false
 else bif decide ((ab.length:Int)>6) then some false
 else(IP k ab).bind fun x0=>
 bif x0 then some false
 else(IU k ar (ab.length:Int)).bind fun x1=>
 bif x1 then ((EF k aq (ab.length:Int)).bind fun x2=>
  bif x2 then ((IV k an (ab.length:Int)).bind fun x3=>
   bif x3 then ((IW k an).bind fun x4=>
    some x4)
   else some false)
  else some false)
 else some false
abbrev LQ:Type:=(List zO)×(List (List Int))×(List Int)×(List (List Int))×(List zO)×(List (List Int))×(List Int)×(List (List Int))
abbrev Uu:Type:=List zD→Int→Int→List zO→List (List Int)→List Int→List (List Int)→List zO→List (List Int)→List Int→List (List Int)→Option LQ
def zy (k:Nat)(rec:Uu)(bB:List zD)(iw aZ:Int)(aa:List zO)(af:List (List Int))(ag:List Int)(ae:List (List Int))(r3:List zO)(m4:List (List Int))(r5:List Int)(m6:List (List Int)):Option LQ:=
 bif decide (aZ < iw) then (bif zE aZ bB.length then (bif zE (bB.getD aZ.toNat (0, 0, 0, 0, 0, 0, 0)).2.1 r3.length then (bif zE (bB.getD aZ.toNat (0, 0, 0, 0, 0, 0, 0)).2.2.1 r3.length then (let y0:List zO:=(r3.set (bB.getD aZ.toNat (0,0,0,0,0,0,0)).2.1.toNat ((zA ((r3.getD (bB.getD aZ.toNat (0,0,0,0,0,0,0)).2.1.toNat (0,0,0)).1-(bB.getD aZ.toNat (0,0,0,0,0,0,0)).2.2.2.1)),(r3.getD (bB.getD aZ.toNat (0,0,0,0,0,0,0)).2.1.toNat (0,0,0)).2))
     let y1:List zO:=(y0.set (bB.getD aZ.toNat (0,0,0,0,0,0,0)).2.2.1.toNat ((zA ((y0.getD (bB.getD aZ.toNat (0,0,0,0,0,0,0)).2.2.1.toNat (0,0,0)).1+(bB.getD aZ.toNat (0,0,0,0,0,0,0)).2.2.2.1)),(y0.getD (bB.getD aZ.toNat (0,0,0,0,0,0,0)).2.2.1.toNat (0,0,0)).2))
     bif !(decide ((bB.getD aZ.toNat (0, 0, 0, 0, 0, 0, 0)).2.2.2.2.1 = 3)) then ((sF k (y1.getD (bB.getD aZ.toNat (0,0,0,0,0,0,0)).2.1.toNat (0,0,0)).1 (y1.getD (bB.getD aZ.toNat (0,0,0,0,0,0,0)).2.1.toNat (0,0,0)).2.1 (y1.getD (bB.getD aZ.toNat (0,0,0,0,0,0,0)).2.1.toNat (0,0,0)).2.2 (bB.getD aZ.toNat (0,0,0,0,0,0,0)).2.2.2.1).bind fun x2=>
      let y2:List zO:=(y1.set (bB.getD aZ.toNat (0,0,0,0,0,0,0)).2.1.toNat ((y1.getD (bB.getD aZ.toNat (0,0,0,0,0,0,0)).2.1.toNat (0,0,0)).1,(y1.getD (bB.getD aZ.toNat (0,0,0,0,0,0,0)).2.1.toNat (0,0,0)).2.1,x2))
      bif zE (bB.getD aZ.toNat (0, 0, 0, 0, 0, 0, 0)).2.1 m6.length then (bif zE (bB.getD aZ.toNat (0, 0, 0, 0, 0, 0, 0)).2.2.1 (m6.getD (bB.getD aZ.toNat (0, 0, 0, 0, 0, 0, 0)).2.1.toNat []).length then (bif zE (bB.getD aZ.toNat (0, 0, 0, 0, 0, 0, 0)).2.2.1 (m6.getD (bB.getD aZ.toNat (0, 0, 0, 0, 0, 0, 0)).2.1.toNat []).length then (let y3:List (List Int):=(m6.set (bB.getD aZ.toNat (0,0,0,0,0,0,0)).2.1.toNat ((m6.getD (bB.getD aZ.toNat (0,0,0,0,0,0,0)).2.1.toNat []).set (bB.getD aZ.toNat (0,0,0,0,0,0,0)).2.2.1.toNat (zA (((m6.getD (bB.getD aZ.toNat (0,0,0,0,0,0,0)).2.1.toNat []).getD (bB.getD aZ.toNat (0,0,0,0,0,0,0)).2.2.1.toNat 0)+(bB.getD aZ.toNat (0,0,0,0,0,0,0)).2.2.2.1))))
         bif zE (bB.getD aZ.toNat (0, 0, 0, 0, 0, 0, 0)).2.2.1 y3.length then (bif zE (bB.getD aZ.toNat (0, 0, 0, 0, 0, 0, 0)).2.1 (y3.getD (bB.getD aZ.toNat (0, 0, 0, 0, 0, 0, 0)).2.2.1.toNat []).length then (bif zE (bB.getD aZ.toNat (0, 0, 0, 0, 0, 0, 0)).2.1 (y3.getD (bB.getD aZ.toNat (0, 0, 0, 0, 0, 0, 0)).2.2.1.toNat []).length then (let y4:List (List Int):=(y3.set (bB.getD aZ.toNat (0,0,0,0,0,0,0)).2.2.1.toNat ((y3.getD (bB.getD aZ.toNat (0,0,0,0,0,0,0)).2.2.1.toNat []).set (bB.getD aZ.toNat (0,0,0,0,0,0,0)).2.1.toNat (zA (((y3.getD (bB.getD aZ.toNat (0,0,0,0,0,0,0)).2.2.1.toNat []).getD (bB.getD aZ.toNat (0,0,0,0,0,0,0)).2.1.toNat 0)-(bB.getD aZ.toNat (0,0,0,0,0,0,0)).2.2.2.1))))
            rec bB iw (zA (aZ+1)) aa af ag ae y2 m4 r5 y4)
           else none)
          else none)
         else none)
        else none)
       else none)
      else none)
     else bif zE (bB.getD aZ.toNat (0, 0, 0, 0, 0, 0, 0)).2.1 m6.length then (bif zE (bB.getD aZ.toNat (0, 0, 0, 0, 0, 0, 0)).2.2.1 (m6.getD (bB.getD aZ.toNat (0, 0, 0, 0, 0, 0, 0)).2.1.toNat []).length then (bif zE (bB.getD aZ.toNat (0, 0, 0, 0, 0, 0, 0)).2.2.1 (m6.getD (bB.getD aZ.toNat (0, 0, 0, 0, 0, 0, 0)).2.1.toNat []).length then (let y5:List (List Int):=(m6.set (bB.getD aZ.toNat (0,0,0,0,0,0,0)).2.1.toNat ((m6.getD (bB.getD aZ.toNat (0,0,0,0,0,0,0)).2.1.toNat []).set (bB.getD aZ.toNat (0,0,0,0,0,0,0)).2.2.1.toNat (zA (((m6.getD (bB.getD aZ.toNat (0,0,0,0,0,0,0)).2.1.toNat []).getD (bB.getD aZ.toNat (0,0,0,0,0,0,0)).2.2.1.toNat 0)+(bB.getD aZ.toNat (0,0,0,0,0,0,0)).2.2.2.1))))
        bif zE (bB.getD aZ.toNat (0, 0, 0, 0, 0, 0, 0)).2.2.1 y5.length then (bif zE (bB.getD aZ.toNat (0, 0, 0, 0, 0, 0, 0)).2.1 (y5.getD (bB.getD aZ.toNat (0, 0, 0, 0, 0, 0, 0)).2.2.1.toNat []).length then (bif zE (bB.getD aZ.toNat (0, 0, 0, 0, 0, 0, 0)).2.1 (y5.getD (bB.getD aZ.toNat (0, 0, 0, 0, 0, 0, 0)).2.2.1.toNat []).length then (let y6:List (List Int):=(y5.set (bB.getD aZ.toNat (0,0,0,0,0,0,0)).2.2.1.toNat ((y5.getD (bB.getD aZ.toNat (0,0,0,0,0,0,0)).2.2.1.toNat []).set (bB.getD aZ.toNat (0,0,0,0,0,0,0)).2.1.toNat (zA (((y5.getD (bB.getD aZ.toNat (0,0,0,0,0,0,0)).2.2.1.toNat []).getD (bB.getD aZ.toNat (0,0,0,0,0,0,0)).2.1.toNat 0)-(bB.getD aZ.toNat (0,0,0,0,0,0,0)).2.2.2.1))))
           rec bB iw (zA (aZ+1)) aa af ag ae y1 m4 r5 y6)
          else none)
         else none)
        else none)
       else none)
      else none)
     else none)
    else none)
   else none)
  else none)
 else some (aa,af,ag,ae,r3,m4,r5,m6)
def zx (k:Nat):Nat→Uu
 |0,_,_,_,_,_,_,_,_,_,_,_=>none
 |n+1,bB,iw,aZ,aa,af,ag,ae,r3,m4,r5,m6=>zy k (zx k n) bB iw aZ aa af ag ae r3 m4 r5 m6
def nq (k:Nat)(ab:List zO)(ar:List (List Int))(aq:List Int)(an:List (List Int))(a1:List zD):Option ((List zO)×(List (List Int))×(List Int)×(List (List Int))×Int):=
 bif decide ((a1.length:Int)>64) then some (ab,ar,aq,an,1)
 else(I1 k a1 ab ar aq an).bind fun x0=>
 bif x0 then some (ab,ar,aq,an,1)
 else(fq k ab ar aq an).bind fun x1=>
 (zx k k a1 (a1.length:Int) 0 ab ar aq an x1.1 x1.2.1 x1.2.2.1 x1.2.2.2).bind fun z=>
 (uZ k z.2.2.2.2.1 z.2.2.2.2.2.1 z.2.2.2.2.2.2.1 z.2.2.2.2.2.2.2).bind fun x3=>
 bif !x3 then some (vO z 8)
 else some (yCm z 0)
abbrev LS:Type:=((List zO)×(List (List Int))×(List Int)×(List (List Int))×Int×Int×Int×Int×Int×Int×Int)⊕(Bool×Int×Int×Int×Int×Int×Int×Int×(List zO)×(List (List Int))×(List Int)×(List (List Int)))
abbrev Ux:Type:=Int→Int→List zO→List (List Int)→List Int→List (List Int)→Int→Int→Int→Int→Int→Int→Int→List zD→Option LS
def Bi (k:Nat)(rec:Ux)(cy bz:Int)(aa:List zO)(af:List (List Int))(ag:List Int)(ae:List (List Int))(aw az aA aD aJ aK aL:Int)(r3:List zD):Option LS:=
 bif decide (bz < cy) then (bif zE bz r3.length then ((vl k aa af ag ae [(r3.getD bz.toNat (0,0,0,0,0,0,0))]).bind fun x1=>
   bif !x1 then(rec cy (zA (bz+1)) aa af ag ae aw az aA aD aJ aK aL r3)
   else(nq k aa af ag ae [(r3.getD bz.toNat (0,0,0,0,0,0,0))]).bind fun x2=>
   bif decide (x2.2.2.2.2=0) then some (.inr (true,(gi (r3.getD bz.toNat (0,0,0,0,0,0,0)) (qw x2))))
   else rec cy (zA (bz+1)) aa af ag ae aw az aA aD aJ aK aL r3)
  else none)
 else some (.inl (aa,af,ag,ae,aw,az,aA,aD,aJ,aK,aL))
def FE (k:Nat):Nat→Ux
 |0,_,_,_,_,_,_,_,_,_,_,_,_,_,_=>none
 |n+1,cy,bz,aa,af,ag,ae,aw,az,aA,aD,aJ,aK,aL,r3=>Bi k (FE k n) cy bz aa af ag ae aw az aA aD aJ aK aL r3
def JJ (k:Nat)(ab:List zO)(ar:List (List Int))(aq:List Int)(an:List (List Int))(a1:List zD)(a2:Int):Option (Int×Int×Int×Int×Int×Int×Int×(List zO)×(List (List Int))×(List Int)×(List (List Int))×Bool):=
 (Ft k a1 a2).bind fun x0=>
 (FE k k (x0.length:Int) 0 ab ar aq an 0 0 0 0 0 0 0 x0).bind fun z=>
 match z with
 |.inl z1=>some (0,0,0,0,0,0,0,(vO z1 false))
 |.inr z2=>some (vFa z2 z2.1)
abbrev LU:Type:=(List zD)×(List zO)×(List (List Int))×(List Int)×(List (List Int))×(List zD)
abbrev UA:Type:=Int→List zD→List zO→List (List Int)→List Int→List (List Int)→List zD→Option LU
def Bk (k:Nat)(rec:UA)(s2:Int)(s7:List zD)(aa:List zO)(af:List (List Int))(ag:List Int)(ae:List (List Int))(r1:List zD):Option LU:=
 (JJ k aa af ag ae s7 s2).bind fun x0=>
 bif !x0.2.2.2.2.2.2.2.2.2.2.2 then some (s7,aa,af,ag,ae,r1)
 else(nu k s7 x0.1).bind fun x1=>
 bif zW (r1.length + 1) 56 then (let y0:List zD:=(r1++[(wI x0)])
  rec s2 x1.1 x0.2.2.2.2.2.2.2.1 x0.2.2.2.2.2.2.2.2.1 x0.2.2.2.2.2.2.2.2.2.1 x0.2.2.2.2.2.2.2.2.2.2.1 y0)
 else none
def FF (k:Nat):Nat→UA
 |0,_,_,_,_,_,_,_=>none
 |n+1,s2,s7,aa,af,ag,ae,r1=>Bk k (FF k n) s2 s7 aa af ag ae r1
def JK (k:Nat)(ab:List zO)(ar:List (List Int))(aq:List Int)(an:List (List Int))(a1:List zD)(a2:Int):Option oO:=
 (FF k k a2 a1 ab ar aq an []).bind fun z=>
 some (gm z (z.1,z.2.2.2.2.2))
abbrev LW:Type:=(Int×Int×(List zO)×(List (List Int))×(List Int)×(List (List Int))×Int×Int×Int×Int×Int×Int×Int×Int×Int×Int×Int×Int×Int×Int×(List zD))⊕ySn
abbrev UC:Type:=Int→Int→Int→Int→List zO→List (List Int)→List Int→List (List Int)→Int→Int→Int→Int→Int→Int→Int→Int→Int→Int→Int→Int→Int→Int→List zD→Int→Int→Int→Int→Int→Int→Int→Option LW
def Bn (k:Nat)(rec:UC)(dD cL iw aZ:Int)(aa:List zO)(af:List (List Int))(ag:List Int)(ae:List (List Int))(aw az aA aD aJ aK aL cE cF bG aW cp cq ct:Int)(r2:List zD)(cn cX di fQ fR fS fT:Int):Option LW:=
 bif decide (aZ < iw) then (bif zE aZ r2.length then (bif !(decide ((r2.getD aZ.toNat (0,0,0,0,0,0,0)).2.1=di)) then(rec dD cL iw (zA (aZ+1)) aa af ag ae aw az aA aD aJ aK aL cE cF bG aW cp cq ct r2 cn cX di fQ fR fS fT)
   else bif !(decide ((r2.getD aZ.toNat (0,0,0,0,0,0,0)).2.2.1=cX)) then(rec dD cL iw (zA (aZ+1)) aa af ag ae aw az aA aD aJ aK aL cE cF bG aW cp cq ct r2 cn cX di fQ fR fS fT)
   else bif decide (cX≥(r2.getD aZ.toNat (0,0,0,0,0,0,0)).2.1) then(rec dD cL iw (zA (aZ+1)) aa af ag ae aw az aA aD aJ aK aL cE cF bG aW cp cq ct r2 cn cX di fQ fR fS fT)
   else(vl k aa af ag ae [(cn,cX,di,fQ,fR,fS,fT),(r2.getD aZ.toNat (0,0,0,0,0,0,0))]).bind fun x1=>
   bif !x1 then(rec dD cL iw (zA (aZ+1)) aa af ag ae aw az aA aD aJ aK aL cE cF bG aW cp cq ct r2 cn cX di fQ fR fS fT)
   else(nq k aa af ag ae [(cn,cX,di,fQ,fR,fS,fT),(r2.getD aZ.toNat (0,0,0,0,0,0,0))]).bind fun x2=>
   bif decide (x2.2.2.2.2=0) then some (.inr (true,cn,cX,di,fQ,fR,fS,fT,(gi (r2.getD aZ.toNat (0,0,0,0,0,0,0)) (qw x2))))
   else rec dD cL iw (zA (aZ+1)) aa af ag ae aw az aA aD aJ aK aL cE cF bG aW cp cq ct r2 cn cX di fQ fR fS fT)
  else none)
 else some (.inl (dD,cL,aa,af,ag,ae,aw,az,aA,aD,aJ,aK,aL,cE,cF,bG,aW,cp,cq,ct,r2))
def FG (k:Nat):Nat→UC
 |0,_,_,_,_,_,_,_,_,_,_,_,_,_,_,_,_,_,_,_,_,_,_,_,_,_,_,_,_,_,_=>none
 |n+1,dD,cL,iw,aZ,aa,af,ag,ae,aw,az,aA,aD,aJ,aK,aL,cE,cF,bG,aW,cp,cq,ct,r2,cn,cX,di,fQ,fR,fS,fT=>Bn k (FG k n) dD cL iw aZ aa af ag ae aw az aA aD aJ aK aL cE cF bG aW cp cq ct r2 cn cX di fQ fR fS fT
abbrev LX:Type:=(Int×Int×Int×Int×Int×Int×Int×Int×Int×Int×Int×Int×Int×Int)⊕ySn
abbrev UF:Type:=Int→Int→List zO→List (List Int)→List Int→List (List Int)→Int→Int→Int→Int→Int→Int→Int→Int→Int→Int→Int→Int→Int→Int→List zD→Option LX
def Bo (k:Nat)(rec:UF)(dD cL:Int)(aa:List zO)(af:List (List Int))(ag:List Int)(ae:List (List Int))(aw az aA aD aJ aK aL cE cF bG aW cp cq ct:Int)(r2:List zD):Option LX:=
 bif decide (cL < dD) then (bif zE cL r2.length then ((FG k k dD cL (r2.length:Int) 0 aa af ag ae aw az aA aD aJ aK aL cE cF bG aW cp cq ct r2 (r2.getD cL.toNat (0,0,0,0,0,0,0)).1 (r2.getD cL.toNat (0,0,0,0,0,0,0)).2.1 (r2.getD cL.toNat (0,0,0,0,0,0,0)).2.2.1 (r2.getD cL.toNat (0,0,0,0,0,0,0)).2.2.2.1 (r2.getD cL.toNat (0,0,0,0,0,0,0)).2.2.2.2.1 (r2.getD cL.toNat (0,0,0,0,0,0,0)).2.2.2.2.2.1 (r2.getD cL.toNat (0,0,0,0,0,0,0)).2.2.2.2.2.2).bind fun z=>
   match z with
   |.inl z1=>rec z1.1 (zA (z1.2.1+1)) z1.2.2.1 z1.2.2.2.1 z1.2.2.2.2.1 z1.2.2.2.2.2.1 z1.2.2.2.2.2.2.1 z1.2.2.2.2.2.2.2.1 z1.2.2.2.2.2.2.2.2.1 z1.2.2.2.2.2.2.2.2.2.1 z1.2.2.2.2.2.2.2.2.2.2.1 z1.2.2.2.2.2.2.2.2.2.2.2.1 z1.2.2.2.2.2.2.2.2.2.2.2.2.1 z1.2.2.2.2.2.2.2.2.2.2.2.2.2.1 z1.2.2.2.2.2.2.2.2.2.2.2.2.2.2.1 z1.2.2.2.2.2.2.2.2.2.2.2.2.2.2.2.1 z1.2.2.2.2.2.2.2.2.2.2.2.2.2.2.2.2.1 z1.2.2.2.2.2.2.2.2.2.2.2.2.2.2.2.2.2.1 z1.2.2.2.2.2.2.2.2.2.2.2.2.2.2.2.2.2.2.1 z1.2.2.2.2.2.2.2.2.2.2.2.2.2.2.2.2.2.2.2.1 z1.2.2.2.2.2.2.2.2.2.2.2.2.2.2.2.2.2.2.2.2
   |.inr z2=>some (.inr (z2.1,z2.2.1,z2.2.2.1,z2.2.2.2.1,z2.2.2.2.2.1,z2.2.2.2.2.2.1,z2.2.2.2.2.2.2.1,z2.2.2.2.2.2.2.2.1,z2.2.2.2.2.2.2.2.2.1,z2.2.2.2.2.2.2.2.2.2.1,z2.2.2.2.2.2.2.2.2.2.2.1,z2.2.2.2.2.2.2.2.2.2.2.2.1,z2.2.2.2.2.2.2.2.2.2.2.2.2.1,z2.2.2.2.2.2.2.2.2.2.2.2.2.2.1,z2.2.2.2.2.2.2.2.2.2.2.2.2.2.2.1,z2.2.2.2.2.2.2.2.2.2.2.2.2.2.2.2.1,z2.2.2.2.2.2.2.2.2.2.2.2.2.2.2.2.2.1,z2.2.2.2.2.2.2.2.2.2.2.2.2.2.2.2.2.2.1,z2.2.2.2.2.2.2.2.2.2.2.2.2.2.2.2.2.2.2)))
  else none)
 else some (.inl (aw,az,aA,aD,aJ,aK,aL,cE,cF,bG,aW,cp,cq,ct))
def FI (k:Nat):Nat→UF
 |0,_,_,_,_,_,_,_,_,_,_,_,_,_,_,_,_,_,_,_,_,_=>none
 |n+1,dD,cL,aa,af,ag,ae,aw,az,aA,aD,aJ,aK,aL,cE,cF,bG,aW,cp,cq,ct,r2=>Bo k (FI k n) dD cL aa af ag ae aw az aA aD aJ aK aL cE cF bG aW cp cq ct r2
def JM (k:Nat)(ab:List zO)(ar:List (List Int))(aq:List Int)(an:List (List Int))(a1:List zD)(a2:Int):Option (Int×Int×Int×Int×Int×Int×Int×Int×Int×Int×Int×Int×Int×Int×(List zO)×(List (List Int))×(List Int)×(List (List Int))×Bool):=
 (Ft k a1 a2).bind fun x0=>
 (FI k k (x0.length:Int) 0 ab ar aq an 0 0 0 0 0 0 0 0 0 0 0 0 0 0 x0).bind fun z3=>
 match z3 with
 |.inl z4=>some (0,0,0,0,0,0,0,0,0,0,0,0,0,0,[],[],[],[],false)
 |.inr z5=>some (UE z5 z5.1)
abbrev LZ:Type:=Int×(List zD)×(List zO)×(List (List Int))×(List Int)×(List (List Int))×(List zD)
abbrev UL:Type:=Int→List zD→Int→Int→List zO→List (List Int)→List Int→List (List Int)→List zD→List zD→Option LZ
def sN (k:Nat)(rec:UL)(s2:Int)(s7:List zD)(xo oP:Int)(aa:List zO)(af:List (List Int))(ag:List Int)(ae:List (List Int))(r1 r2:List zD):Option LZ:=
 bif decide (oP < xo) then (bif zE oP r2.length then ((nu k s7 (r2.getD oP.toNat (0,0,0,0,0,0,0)).1).bind fun x1=>
   bif zW (r1.length + 1) 56 then (let y0:List zD:=(r1++[(r2.getD oP.toNat (0,0,0,0,0,0,0))])
    rec s2 x1.1 xo (zA (oP+1)) aa af ag ae y0 r2)
   else none)
  else none)
 else some (s2,s7,aa,af,ag,ae,r1)
def pW (k:Nat):Nat→UL
 |0,_,_,_,_,_,_,_,_,_,_=>none
 |n+1,s2,s7,xo,oP,aa,af,ag,ae,r1,r2=>sN k (pW k n) s2 s7 xo oP aa af ag ae r1 r2
abbrev L1:Type:=(List zD)×(List zO)×(List (List Int))×(List Int)×(List (List Int))×(List zD)
abbrev UN:Type:=Int→List zD→List zO→List (List Int)→List Int→List (List Int)→List zD→Option L1
def Bp (k:Nat)(rec:UN)(s2:Int)(s7:List zD)(aa:List zO)(af:List (List Int))(ag:List Int)(ae:List (List Int))(r1:List zD):Option L1:=
 (JM k aa af ag ae s7 s2).bind fun x0=>
 bif !x0.2.2.2.2.2.2.2.2.2.2.2.2.2.2.2.2.2.2 then some (s7,aa,af,ag,ae,r1)
 else(pW k k s2 s7 2 0 x0.2.2.2.2.2.2.2.2.2.2.2.2.2.2.1 x0.2.2.2.2.2.2.2.2.2.2.2.2.2.2.2.1 x0.2.2.2.2.2.2.2.2.2.2.2.2.2.2.2.2.1 x0.2.2.2.2.2.2.2.2.2.2.2.2.2.2.2.2.2.1 r1 [(wI x0),(X6 x0)]).bind fun z=>
 rec z.1 z.2.1 z.2.2.1 z.2.2.2.1 z.2.2.2.2.1 z.2.2.2.2.2.1 z.2.2.2.2.2.2
def FJ (k:Nat):Nat→UN
 |0,_,_,_,_,_,_,_=>none
 |n+1,s2,s7,aa,af,ag,ae,r1=>Bp k (FJ k n) s2 s7 aa af ag ae r1
def JN (k:Nat)(ab:List zO)(ar:List (List Int))(aq:List Int)(an:List (List Int))(a1:List zD)(a2:Int):Option oO:=
 (FJ k k a2 a1 ab ar aq an []).bind fun z1=>
 some (gm z1 (z1.1,z1.2.2.2.2.2))
abbrev L3:Type:=(List zD)×(List zO)×(List (List Int))×(List Int)×(List (List Int))×(List zD)
abbrev UR:Type:=Int→List zD→List zO→List (List Int)→List Int→List (List Int)→List zD→Option L3
def JW (k:Nat)(rec:UR)(s2:Int)(s7:List zD)(aa:List zO)(af:List (List Int))(ag:List Int)(ae:List (List Int))(r1:List zD):Option L3:=
 (JK k aa af ag ae s7 s2).bind fun x0=>
 (JN k x0.1 x0.2.1 x0.2.2.1 x0.2.2.2.1 x0.2.2.2.2.1 s2).bind fun x1=>
 bif zW (r1.length + x0.2.2.2.2.2.length) 56 then (bif zW ((r1 ++ x0.2.2.2.2.2).length + x1.2.2.2.2.2.length) 56 then (let y0:List zD:=((r1++x0.2.2.2.2.2)++x1.2.2.2.2.2)
   bif decide ((x1.2.2.2.2.2.length:Int)=0) then some (x1.2.2.2.2.1,(vO x1 y0))
   else rec s2 x1.2.2.2.2.1 x1.1 x1.2.1 x1.2.2.1 x1.2.2.2.1 y0)
  else none)
 else none
def FO (k:Nat):Nat→UR
 |0,_,_,_,_,_,_,_=>none
 |n+1,s2,s7,aa,af,ag,ae,r1=>JW k (FO k n) s2 s7 aa af ag ae r1
def FP (k:Nat)(ab:List zO)(ar:List (List Int))(aq:List Int)(an:List (List Int))(a1:List zD)(a2:Int):Option oO:=
 (FO k k a2 a1 ab ar aq an []).bind fun z=>
 some (gm z (z.1,z.2.2.2.2.2))
def Q6 (k:Nat)(a0:List Int):Option (List Int):=
 bif zW (0+a0.length) 8 then some a0
 else none
def Q8 (k:Nat)(cj ay bC aI aE aN aS:Int)(a1:List Int):Option (Bool×(List Int)):=
 bif decide (ay<0) then some (false,a1)
 else bif decide (ay≥(a1.length:Int)) then some (false,a1)
 else bif zE ay a1.length then (bif decide ((a1.getD ay.toNat 0)<1) then some (false,a1)
  else bif zE ay a1.length then (bif zE ay a1.length then some (true,(a1.set ay.toNat (zA ((a1.getD ay.toNat 0)-1))))
   else none)
  else none)
 else none
abbrev L4:Type:=(List Int)×(List zD)
abbrev UT:Type:=List zD→Int→Int→List Int→List zD→Option L4
def Bv (k:Nat)(rec:UT)(s8:List zD)(s9 ax:Int)(r1:List Int)(r2:List zD):Option L4:=
 bif decide (ax < s9) then (bif zE ax s8.length then ((Q8 k (s8.getD ax.toNat (0,0,0,0,0,0,0)).1 (s8.getD ax.toNat (0,0,0,0,0,0,0)).2.1 (s8.getD ax.toNat (0,0,0,0,0,0,0)).2.2.1 (s8.getD ax.toNat (0,0,0,0,0,0,0)).2.2.2.1 (s8.getD ax.toNat (0,0,0,0,0,0,0)).2.2.2.2.1 (s8.getD ax.toNat (0,0,0,0,0,0,0)).2.2.2.2.2.1 (s8.getD ax.toNat (0,0,0,0,0,0,0)).2.2.2.2.2.2 r1).bind fun x0=>
   bif x0.1 then (bif zW (r2.length + 1) 56 then (let y0:List zD:=(r2++[(s8.getD ax.toNat (0,0,0,0,0,0,0))])
     rec s8 s9 (zA (ax+1)) x0.2 y0)
    else none)
   else rec s8 s9 (zA (ax+1)) x0.2 r2)
  else none)
 else some (r1,r2)
def Bu (k:Nat):Nat→UT
 |0,_,_,_,_,_=>none
 |n+1,s8,s9,ax,r1,r2=>Bv k (Bu k n) s8 s9 ax r1 r2
def Q7 (k:Nat)(a0:List zD)(cT:List Int):Option ((List zD)×(List Int)):=
 (Bu k k a0 (a0.length:Int) 0 cT []).bind fun z=>
 some (z.2,z.1)
def Bt (k:Nat)(a0:List zD)(a1:List Int):Option (List zD):=
 (Q6 k a1).bind fun x0=>
 (Q7 k a0 x0).bind fun x1=>
 some x1.1
abbrev L5:Type:=Int×(List zO)×(List (List Int))×(List Int)×(List (List Int))×(List Int)×(List zD)
abbrev UX:Type:=Int→Int→Int→List zO→List (List Int)→List Int→List (List Int)→List Int→List zD→Option L5
def Bx (k:Nat)(rec:UX)(s7 mA dD:Int)(aa:List zO)(af:List (List Int))(ag:List Int)(ae:List (List Int))(r1:List Int)(r2:List zD):Option L5:=
 bif decide (dD < mA) then ((FL k r2 dD).bind fun x1=>
  bif zW (r1.length+1) 8 then(rec s7 mA (zA (dD+1)) aa af ag ae (r1++[(x1.length:Int)]) r2)
  else none)
 else some (s7,aa,af,ag,ae,r1,r2)
def vw (k:Nat):Nat→UX
 |0,_,_,_,_,_,_,_,_,_=>none
 |n+1,s7,mA,dD,aa,af,ag,ae,r1,r2=>Bx k (vw k n) s7 mA dD aa af ag ae r1 r2
abbrev L7:Type:=Int×(List zO)×(List (List Int))×(List Int)×(List (List Int))×(List Int)×(List zD)
abbrev UY:Type:=Int→Int→Int→List zO→List (List Int)→List Int→List (List Int)→List Int→List zD→List Int→Option L7
def Bz (k:Nat)(rec:UY)(s7 Nm lR:Int)(aa:List zO)(af:List (List Int))(ag:List Int)(ae:List (List Int))(r1:List Int)(r2:List zD)(r3:List Int):Option L7:=
 bif decide (lR < Nm) then (bif zE lR r3.length then (bif zE (r3.getD lR.toNat 0) r1.length then (bif zE (r3.getD lR.toNat 0) r1.length then (let y0:List Int:=(r1.set (r3.getD lR.toNat 0).toNat (zA ((r1.getD (r3.getD lR.toNat 0).toNat 0)-1)))
     rec s7 Nm (zA (lR+1)) aa af ag ae y0 r2 r3)
    else none)
   else none)
  else none)
 else some (s7,aa,af,ag,ae,r1,r2)
def By (k:Nat):Nat→UY
 |0,_,_,_,_,_,_,_,_,_,_=>none
 |n+1,s7,Nm,lR,aa,af,ag,ae,r1,r2,r3=>Bz k (By k n) s7 Nm lR aa af ag ae r1 r2 r3
abbrev U0:Type:=Int→List zO→List (List Int)→List Int→List (List Int)→List Int→List zD→Option (Int×(List Int))
def BA (k:Nat)(rec:U0)(s7:Int)(aa:List zO)(af:List (List Int))(ag:List Int)(ae:List (List Int))(r1:List Int)(r2:List zD):Option (Int×(List Int)):=
 (Bt k r2 r1).bind fun x2=>
 (vk k aa af ag ae x2).bind fun x3=>
 bif decide ((x3.length:Int)=0) then some ((zA (s7+1)),r1)
 else(By k k (zA (s7+1)) (x3.length:Int) 0 aa af ag ae r1 r2 x3).bind fun z1=>
 rec z1.1 z1.2.1 z1.2.2.1 z1.2.2.2.1 z1.2.2.2.2.1 z1.2.2.2.2.2.1 z1.2.2.2.2.2.2
def FN (k:Nat):Nat→U0
 |0,_,_,_,_,_,_,_=>none
 |n+1,s7,aa,af,ag,ae,r1,r2=>BA k (FN k n) s7 aa af ag ae r1 r2
def JT (k:Nat)(ab:List zO)(ar:List (List Int))(aq:List Int)(an:List (List Int))(a1:List zD)(a2:Int):Option ((List Int)×Int):=
 (AA k a1 a2).bind fun x0=>
 (vw k k 0 (ab.length:Int) 0 ab ar aq an [] x0).bind fun z=>
 (FN k k z.1 z.2.1 z.2.2.1 z.2.2.2.1 z.2.2.2.2.1 z.2.2.2.2.2.1 z.2.2.2.2.2.2).bind fun z2=>
 some (z2.2,z2.1)
abbrev Mb:Type:=(List zD)×(List zO)×(List (List Int))×(List Int)×(List (List Int))×(List zD)
abbrev U1:Type:=List zD→Int→Int→List zO→List (List Int)→List Int→List (List Int)→List zD→Option Mb
def BB (k:Nat)(rec:U1)(s7:List zD)(oQ gL:Int)(aa:List zO)(af:List (List Int))(ag:List Int)(ae:List (List Int))(r1:List zD):Option Mb:=
 bif decide (gL < oQ) then (bif zE gL r1.length then ((nu k s7 (r1.getD gL.toNat (0,0,0,0,0,0,0)).1).bind fun x4=>
   rec x4.1 oQ (zA (gL+1)) aa af ag ae r1)
  else none)
 else some (s7,aa,af,ag,ae,r1)
def vx (k:Nat):Nat→U1
 |0,_,_,_,_,_,_,_,_=>none
 |n+1,s7,oQ,gL,aa,af,ag,ae,r1=>BB k (vx k n) s7 oQ gL aa af ag ae r1
def vy (k:Nat)(ab:List zO)(ar:List (List Int))(aq:List Int)(an:List (List Int))(a1:List zD)(a2:Int):Option oO:=
 (JT k ab ar aq an a1 a2).bind fun x0=>
 (AA k a1 a2).bind fun x1=>
 (Bt k x1 x0.1).bind fun x2=>
 (nq k ab ar aq an x2).bind fun x3=>
 bif !(decide (x3.2.2.2.2=0)) then some (ab,ar,aq,an,a1,[])
 else(vx k k a1 (x2.length:Int) 0 x3.1 x3.2.1 x3.2.2.1 x3.2.2.2.1 x2).bind fun z=>
 some (gm z (z.1,z.2.2.2.2.2))
def sR (k:Nat)(ab:List zO)(ar:List (List Int))(aq:List Int)(an:List (List Int))(a1:List zD)(a2:Int)(a3:Bool):Option oO:=
 (FP k ab ar aq an a1 a2).bind fun x0=>
 bif !a3 then some (x0.1,x0.2.1,x0.2.2.1,x0.2.2.2.1,x0.2.2.2.2.1,x0.2.2.2.2.2)
 else(vy k x0.1 x0.2.1 x0.2.2.1 x0.2.2.2.1 x0.2.2.2.2.1 a2).bind fun x1=>
 bif decide ((x1.2.2.2.2.2.length:Int)=0) then some (xk x1 x0.2.2.2.2.2)
 else(FP k x1.1 x1.2.1 x1.2.2.1 x1.2.2.2.1 x1.2.2.2.2.1 a2).bind fun x2=>
 bif zW (x0.2.2.2.2.2.length + x1.2.2.2.2.2.length) 56 then (bif zW ((x0.2.2.2.2.2 ++ x1.2.2.2.2.2).length + x2.2.2.2.2.2.length) 56 then (let y0:List zD:=((x0.2.2.2.2.2++x1.2.2.2.2.2)++x2.2.2.2.2.2)
   some (xk x2 y0))
  else none)
 else none
abbrev Md:Type:=(List zD)×Int×Int×(List qY)
abbrev U3:Type:=List zD→Int→Int→Int→Int→List qY→Int→Int→Int→Int→Int→Int→Int→List Int→Option Md
def sV (k:Nat)(rec:U3)(s8:List zD)(s9 ax dD cL:Int)(r0:List qY)(aw az aA aD aJ aK aL:Int)(r2:List Int):Option Md:=
 bif decide (cL < dD) then (bif zE cL r2.length then ((nA k (r2.getD cL.toNat 0) 18 [aw,az,aA,aD]).bind fun x0=>
   bif zW (r0.length+1) 64 then(rec s8 s9 ax dD (zA (cL+1)) (r0++[x0]) aw az aA aD aJ aK aL r2)
   else none)
  else none)
 else some (s8,s9,ax,r0)
def sU (k:Nat):Nat→U3
 |0,_,_,_,_,_,_,_,_,_,_,_,_,_,_=>none
 |n+1,s8,s9,ax,dD,cL,r0,aw,az,aA,aD,aJ,aK,aL,r2=>sV k (sU k n) s8 s9 ax dD cL r0 aw az aA aD aJ aK aL r2
abbrev Me:Type:=List qY
abbrev U5:Type:=List zD→Int→Int→List qY→Option Me
def BF (k:Nat)(rec:U5)(s8:List zD)(s9 ax:Int)(r0:List qY):Option Me:=
 bif decide (ax < s9) then (bif zE ax s8.length then ((sU k k s8 s9 ax 2 0 r0 (s8.getD ax.toNat (0,0,0,0,0,0,0)).1 (s8.getD ax.toNat (0,0,0,0,0,0,0)).2.1 (s8.getD ax.toNat (0,0,0,0,0,0,0)).2.2.1 (s8.getD ax.toNat (0,0,0,0,0,0,0)).2.2.2.1 (s8.getD ax.toNat (0,0,0,0,0,0,0)).2.2.2.2.1 (s8.getD ax.toNat (0,0,0,0,0,0,0)).2.2.2.2.2.1 (s8.getD ax.toNat (0,0,0,0,0,0,0)).2.2.2.2.2.2 [(s8.getD ax.toNat (0,0,0,0,0,0,0)).2.1,(s8.getD ax.toNat (0,0,0,0,0,0,0)).2.2.1]).bind fun z=>
   rec z.1 z.2.1 (zA (z.2.2.1+1)) z.2.2.2)
  else none)
 else some r0
def BE (k:Nat):Nat→U5
 |0,_,_,_,_=>none
 |n+1,s8,s9,ax,r0=>BF k (BE k n) s8 s9 ax r0
def JX (k:Nat)(a0:List zD):Option (List qY):=
 (BE k k a0 (a0.length:Int) 0 []).bind fun z1=>
 some z1
def pZ (k:Nat)(dr:Int)(bH:List zO)(bW:List (List Int))(bX:List Int)(bY:List (List Int))(cU:List Int)(dO:List (List Int))(dt:List zD)(iU:List Int)(dP:Int)(fb a1:Bool):Option GI:=
 (sR k bH bW bX bY dt dr a1).bind fun x0=>
 (JX k x0.2.2.2.2.2).bind fun x1=>
 some (dr,(vO x0 (cU,dO,x0.2.2.2.2.1,iU,dP,fb,x1)))
abbrev Mg:Type:=Int×(List wO)×Int×Int×Int×Int×(List zO)×(List (List Int))×(List Int)×(List (List Int))×(List Int)×(List (List Int))×(List zD)×(List Int)×Int×Bool×Int×Int×Bool×(List qY)×(List zD)
abbrev Va:Type:=List zD→Int→Int→Int→List wO→Int→Int→Int→Int→List zO→List (List Int)→List Int→List (List Int)→List Int→List (List Int)→List zD→List Int→Int→Bool→Int→Int→Bool→List qY→List zD→Option Mg
def BQ (k:Nat)(rec:Va)(eO:List zD)(jn eN aa:Int)(af:List wO)(ag ae bb aw:Int)(az:List zO)(aA:List (List Int))(aD:List Int)(aJ:List (List Int))(aK:List Int)(aL:List (List Int))(cE:List zD)(cF:List Int)(bG:Int)(aW:Bool)(bg nI:Int)(iV:Bool)(r3:List qY)(r4:List zD):Option Mg:=
 bif decide (eN < jn) then (bif zE eN eO.length then ((Rg k (eO.getD eN.toNat (0,0,0,0,0,0,0)).1 (eO.getD eN.toNat (0,0,0,0,0,0,0)).2.1 (eO.getD eN.toNat (0,0,0,0,0,0,0)).2.2.1 (eO.getD eN.toNat (0,0,0,0,0,0,0)).2.2.2.1 (eO.getD eN.toNat (0,0,0,0,0,0,0)).2.2.2.2.1 (eO.getD eN.toNat (0,0,0,0,0,0,0)).2.2.2.2.2.1 (eO.getD eN.toNat (0,0,0,0,0,0,0)).2.2.2.2.2.2 aw).bind fun x2=>
   bif x2 then ((nA k (eO.getD eN.toNat (0,0,0,0,0,0,0)).2.1 21 [(eO.getD eN.toNat (0,0,0,0,0,0,0)).1]).bind fun x3=>
    bif zW (r3.length+1) 64 then(rec eO jn (zA (eN+1)) aa af ag ae bb aw az aA aD aJ aK aL cE cF bG aW bg nI iV (r3++[x3]) r4)
    else none)
   else bif zW (r4.length + 1) 56 then (let y0:List zD:=(r4++[(eO.getD eN.toNat (0,0,0,0,0,0,0))])
    rec eO jn (zA (eN+1)) aa af ag ae bb aw az aA aD aJ aK aL cE cF bG aW bg nI iV r3 y0)
   else none)
  else none)
 else some (aa,af,ag,ae,bb,aw,az,aA,aD,aJ,aK,aL,cE,cF,bG,aW,bg,nI,iV,r3,r4)
def BP (k:Nat):Nat→Va
 |0,_,_,_,_,_,_,_,_,_,_,_,_,_,_,_,_,_,_,_,_,_,_,_,_=>none
 |n+1,eO,jn,eN,aa,af,ag,ae,bb,aw,az,aA,aD,aJ,aK,aL,cE,cF,bG,aW,bg,nI,iV,r3,r4=>BQ k (BP k n) eO jn eN aa af ag ae bb aw az aA aD aJ aK aL cE cF bG aW bg nI iV r3 r4
def sX (k:Nat)(df:Int)(dM:List wO)(dN dh cm gV:Int)(cG:List zO)(dw:List (List Int))(dy:List Int)(dz:List (List Int))(fi:List Int)(gW:List (List Int))(fj:List zD)(nJ:List Int)(gX:Int)(gY:Bool):Option GI:=
 bif gY then some (gV,cG,dw,dy,dz,fi,gW,fj,nJ,gX,gY,[])
 else(wb k df dM dN dh cm (zA (gV+1))).bind fun x0=>
 bif x0 then ((J1 k (zA (gV+1)) cG dw dy dz fi gW fj nJ gX gY).bind fun x1=>
  some (x1.1,x1.2.1,x1.2.2.1,x1.2.2.2.1,x1.2.2.2.2.1,x1.2.2.2.2.2.1,x1.2.2.2.2.2.2.1,x1.2.2.2.2.2.2.2.1,x1.2.2.2.2.2.2.2.2.1,x1.2.2.2.2.2.2.2.2.2.1,x1.2.2.2.2.2.2.2.2.2.2.1,x1.2.2.2.2.2.2.2.2.2.2.2))
 else(BP k k fj (fj.length:Int) 0 df dM dN dh cm (zA (gV+1)) cG dw dy dz fi gW fj nJ gX gY 0 0 false [] []).bind fun z=>
 (BR k z.1 z.2.1 z.2.2.1 z.2.2.2.1 z.2.2.2.2.1 z.2.2.2.2.2.1).bind fun x4=>
 (pZ k z.2.2.2.2.2.1 z.2.2.2.2.2.2.1 z.2.2.2.2.2.2.2.1 z.2.2.2.2.2.2.2.2.1 z.2.2.2.2.2.2.2.2.2.1 z.2.2.2.2.2.2.2.2.2.2.1 z.2.2.2.2.2.2.2.2.2.2.2.1 z.2.2.2.2.2.2.2.2.2.2.2.2.2.2.2.2.2.2.2.2 z.2.2.2.2.2.2.2.2.2.2.2.2.2.1 z.2.2.2.2.2.2.2.2.2.2.2.2.2.2.1 z.2.2.2.2.2.2.2.2.2.2.2.2.2.2.2.1 x4).bind fun x5=>
 bif zW (z.2.2.2.2.2.2.2.2.2.2.2.2.2.2.2.2.2.2.2.1.length + x5.2.2.2.2.2.2.2.2.2.2.2.length) 64 then (let y1:List qY:=(z.2.2.2.2.2.2.2.2.2.2.2.2.2.2.2.2.2.2.2.1++x5.2.2.2.2.2.2.2.2.2.2.2)
  some (tE x5 y1))
 else none
def yPs (k:Nat)(a0:jo)(a1:Ha):Option (Int×wW):=
 (vA k a1.2.1 0 (zA (a0.1-1))).bind fun x0=>
 bif !x0 then some (1,(vG a0 []))
 else(vA k a1.2.2.2.1 1 3).bind fun x1=>
 bif !x1 then some (1,(vG a0 []))
 else(BS k (vC a0) a0.2.2.2.2.2.1 (a1.1,a0.2.2.2.2.2.2.2.2.2.2.2.2.2.2.2.2,a1.2)).bind fun x2=>
 bif !(decide (x2=0)) then some (x2,(vG a0 []))
 else(A9 k a0.2.2.2.2.2.2.2.2.2.2.2.2.2.1 a1.1).bind fun x3=>
 bif !(decide (x3.2=0)) then some (x3.2,(vG a0 []))
 else(sL k a0.2.2.2.2.2.2.2.2.2.2.2.2.1 (a1.1,a0.2.2.2.2.2.2.2.2.2.2.2.2.2.2.2.2,a1.2)).bind fun x4=>
 bif !(decide (x4.2=0)) then some (x4.2,(vG a0 []))
 else some (0,(iu a0 (x4.1,x3.1,a0.2.2.2.2.2.2.2.2.2.2.2.2.2.2.1,a0.2.2.2.2.2.2.2.2.2.2.2.2.2.2.2.1,a0.2.2.2.2.2.2.2.2.2.2.2.2.2.2.2.2,[])))
def Mh (k:Nat)(a0:jo)(a1:zD):Option (Int×wW):=
 (S2 k (vG a0 []) a1.2.1).bind fun x0=>
 bif !(decide (x0.2=0)) then some (x0.2,(vG a0 []))
 else bif decide (a1.1 = 2) then ((nu k a0.2.2.2.2.2.2.2.2.2.2.2.2.1 a1.2.1).bind fun x1=>
  (KT k (iu a0 (x1.1,a0.2.2.2.2.2.2.2.2.2.2.2.2.2)) 20 [a1.2.1]).bind fun x2=>
  some (x1.2.2.2.2.2.2.2.2,x2))
 else bif decide (a1.1 = 4) then ((vA k a1.2.2.1 1 3).bind fun x3=>
  bif !x3 then some (1,(vG a0 []))
  else(wc k (vC a0) a0.2.2.2.2.2.1 a1.2.2.1).bind fun x4=>
  bif !(decide (x4=0)) then some (x4,(vG a0 []))
  else(A2 k a0.2.2.2.2.2.2.2.2.2.2.2.2.1 a1.2.1 a1.2.2.1).bind fun x5=>
  some (x5.2,(iu a0 (x5.1,(X4 a0 [])))))
 else bif decide (a1.2.2.1 = 0) then ((A7 k a0.2.2.2.2.2.2.2.2.2.2.2.2.1 a1.2.1).bind fun x6=>
  some (x6.2,(iu a0 (x6.1,(X4 a0 [])))))
 else bif decide (a1.2.2.1 = 1) then ((A3 k a0.2.2.2.2.2.2.2.2.2.2.2.2.1 a1.2.1).bind fun x7=>
  some (x7.2,(iu a0 (x7.1,(X4 a0 [])))))
 else some (1,(vG a0 []))
def Mi (k:Nat)(a0:jo)(a1:zD):Option (Int×wW):=
 (fq k a0.2.2.2.2.2.2.1 a0.2.2.2.2.2.2.2.1 a0.2.2.2.2.2.2.2.2.1 a0.2.2.2.2.2.2.2.2.2.1).bind fun x0=>
 bif decide (a1.1 = 5) then ((Td k (vG a0 []) a1.2.1).bind fun x1=>
  bif !x1 then some (1,(vG a0 []))
  else(vA k a1.2.2.1 (-1) 1152921504606846976).bind fun x2=>
  bif !x2 then some (1,(vG a0 []))
  else bif zE a0.2.2.2.2.2.2.2.2.2.2.2.2.2.2.2.2 x0.2.1.length then (bif zE a1.2.1 (x0.2.1.getD a0.2.2.2.2.2.2.2.2.2.2.2.2.2.2.2.2.toNat []).length then (let y0:List (List Int):=(x0.2.1.set a0.2.2.2.2.2.2.2.2.2.2.2.2.2.2.2.2.toNat ((x0.2.1.getD a0.2.2.2.2.2.2.2.2.2.2.2.2.2.2.2.2.toNat []).set a1.2.1.toNat a1.2.2.1))
    some (0,(wT a0 (x0.1,y0,x0.2.2.1,x0.2.2.2,(X5 a0 [])))))
   else none)
  else none)
 else bif decide (a1.1 = 6) then ((vA k a1.2.1 (-1) 1152921504606846976).bind fun x3=>
  bif !x3 then some (1,(vG a0 []))
  else bif zE a0.2.2.2.2.2.2.2.2.2.2.2.2.2.2.2.2 x0.2.2.1.length then (let y1:List Int:=(x0.2.2.1.set a0.2.2.2.2.2.2.2.2.2.2.2.2.2.2.2.2.toNat a1.2.1)
   some (0,(wT a0 (x0.1,x0.2.1,y1,x0.2.2.2,(X5 a0 [])))))
  else none)
 else(vA k a1.2.1 0 1152921504606846976).bind fun x4=>
 bif !x4 then some (1,(vG a0 []))
 else bif zE a0.2.2.2.2.2.2.2.2.2.2.2.2.2.2.2.2 x0.1.length then (let y2:List zO:=(x0.1.set a0.2.2.2.2.2.2.2.2.2.2.2.2.2.2.2.2.toNat ((x0.1.getD a0.2.2.2.2.2.2.2.2.2.2.2.2.2.2.2.2.toNat (0,0,0)).1,(x0.1.getD a0.2.2.2.2.2.2.2.2.2.2.2.2.2.2.2.2.toNat (0,0,0)).2.1,a1.2.1))
  some (0,(wT a0 (y2,x0.2.1,x0.2.2.1,x0.2.2.2,(X5 a0 [])))))
 else none
def yGs (k:Nat)(a0:jo)(a1 a2:Int):Option (Int×wW):=
 (G1 k (vG a0 []) a1).bind fun x0=>
 bif !x0 then some (1,(vG a0 []))
 else(vA k a2 0 1099511627776).bind fun x1=>
 bif !x1 then some (1,(vG a0 []))
 else(BV k a0.2.2.2.2.2.2.2.2.2.2.2.1).bind fun x2=>
 bif zE a0.2.2.2.2.2.2.2.2.2.2.2.2.2.2.2.2 x2.length then ((nw k (x2.getD a0.2.2.2.2.2.2.2.2.2.2.2.2.2.2.2.2.toNat []) a1 a2).bind fun x3=>
  bif zE a0.2.2.2.2.2.2.2.2.2.2.2.2.2.2.2.2 x2.length then (let y0:List (List Int):=(x2.set a0.2.2.2.2.2.2.2.2.2.2.2.2.2.2.2.2.toNat x3)
   bif zE a0.2.2.2.2.2.2.2.2.2.2.2.2.2.2.2.2 y0.length then ((oE k a0.2.1 a0.2.2.2.2.2.2.2.2.2.2.1 (y0.getD a0.2.2.2.2.2.2.2.2.2.2.2.2.2.2.2.2.toNat [])).bind fun x4=>
    bif zE a0.2.2.2.2.2.2.2.2.2.2.2.2.2.2.2.2 a0.2.2.2.2.2.2.1.length then (bif !x4.2 then some (8,(vG a0 []))
     else bif decide (x4.1>1152921504606846976) then some (8,(vG a0 []))
     else bif decide (x4.1 < (a0.2.2.2.2.2.2.1.getD a0.2.2.2.2.2.2.2.2.2.2.2.2.2.2.2.2.toNat (0, 0, 0)).2.1) then (bif decide ((zA ((a0.2.2.2.2.2.2.1.getD a0.2.2.2.2.2.2.2.2.2.2.2.2.2.2.2.2.toNat (0,0,0)).1+x4.1))<0) then some (9,(vG a0 []))
      else(fq k a0.2.2.2.2.2.2.1 a0.2.2.2.2.2.2.2.1 a0.2.2.2.2.2.2.2.2.1 a0.2.2.2.2.2.2.2.2.2.1).bind fun x5=>
      bif zE a0.2.2.2.2.2.2.2.2.2.2.2.2.2.2.2.2 x5.1.length then (let y1:List zO:=(x5.1.set a0.2.2.2.2.2.2.2.2.2.2.2.2.2.2.2.2.toNat ((x5.1.getD a0.2.2.2.2.2.2.2.2.2.2.2.2.2.2.2.2.toNat (0,0,0)).1,x4.1,(x5.1.getD a0.2.2.2.2.2.2.2.2.2.2.2.2.2.2.2.2.toNat (0,0,0)).2.2))
       some (0,(wT a0 (y1,x5.2.1,x5.2.2.1,x5.2.2.2,a0.2.2.2.2.2.2.2.2.2.2.1,y0,(yE4 a0 [])))))
      else none)
     else(fq k a0.2.2.2.2.2.2.1 a0.2.2.2.2.2.2.2.1 a0.2.2.2.2.2.2.2.2.1 a0.2.2.2.2.2.2.2.2.2.1).bind fun x6=>
     bif zE a0.2.2.2.2.2.2.2.2.2.2.2.2.2.2.2.2 x6.1.length then (let y2:List zO:=(x6.1.set a0.2.2.2.2.2.2.2.2.2.2.2.2.2.2.2.2.toNat ((x6.1.getD a0.2.2.2.2.2.2.2.2.2.2.2.2.2.2.2.2.toNat (0,0,0)).1,x4.1,(x6.1.getD a0.2.2.2.2.2.2.2.2.2.2.2.2.2.2.2.2.toNat (0,0,0)).2.2))
      some (0,(wT a0 (y2,x6.2.1,x6.2.2.1,x6.2.2.2,a0.2.2.2.2.2.2.2.2.2.2.1,y0,(yE4 a0 [])))))
     else none)
    else none)
   else none)
  else none)
 else none
def wh (k:Nat)(a0:jo)(a1 a2 a3:Int):Option (Int×wW):=
 (vA k a2 0 (zA (a0.1-1))).bind fun x0=>
 bif !x0 then some (1,(vG a0 []))
 else(vA k a3 1 1099511627776).bind fun x1=>
 bif !x1 then some (1,(vG a0 []))
 else bif zE a2 a0.2.2.2.2.2.2.1.length then ((BW k (a0.2.2.2.2.2.2.1.getD a2.toNat (0,0,0)) a3).bind fun x2=>
  bif decide (a1 = 11) then ((BX k (a0.2.2.2.2.2.2.1.getD a2.toNat (0,0,0)) a3 3).bind fun x3=>
   (BY k (a0.2.2.2.2.2.2.1.getD a2.toNat (0,0,0)) 3).bind fun x4=>
   bif decide (x4<a3) then some (9,(vG a0 []))
   else bif decide ((zA (a0.2.2.2.2.2.2.2.2.2.2.2.2.2.2.1-a3))<0) then some (9,(vG a0 []))
   else bif !(decide (x3.2=0)) then some (x3.2,(vG a0 []))
   else bif decide ((zA (a0.2.2.2.2.2.2.2.2.2.2.2.2.2.2.1-a3))>1152921504606846976) then some (8,(vG a0 []))
   else(fq k a0.2.2.2.2.2.2.1 a0.2.2.2.2.2.2.2.1 a0.2.2.2.2.2.2.2.2.1 a0.2.2.2.2.2.2.2.2.2.1).bind fun x5=>
   bif zE a2 x5.1.length then some (0,(wT a0 ((x5.1.set a2.toNat x3.1),x5.2.1,x5.2.2.1,x5.2.2.2,(C6 a0 ((zA (a0.2.2.2.2.2.2.2.2.2.2.2.2.2.2.1-a3)),a0.2.2.2.2.2.2.2.2.2.2.2.2.2.2.2.1,a0.2.2.2.2.2.2.2.2.2.2.2.2.2.2.2.2,[])))))
   else none)
  else bif !(decide (x2.2=0)) then some (x2.2,(vG a0 []))
  else bif decide ((zA (a0.2.2.2.2.2.2.2.2.2.2.2.2.2.2.1+a3))>1152921504606846976) then some (8,(vG a0 []))
  else(fq k a0.2.2.2.2.2.2.1 a0.2.2.2.2.2.2.2.1 a0.2.2.2.2.2.2.2.2.1 a0.2.2.2.2.2.2.2.2.2.1).bind fun x6=>
  bif zE a2 x6.1.length then some (0,(wT a0 ((x6.1.set a2.toNat x2.1),x6.2.1,x6.2.2.1,x6.2.2.2,(C6 a0 ((zA (a0.2.2.2.2.2.2.2.2.2.2.2.2.2.2.1+a3)),a0.2.2.2.2.2.2.2.2.2.2.2.2.2.2.2.1,a0.2.2.2.2.2.2.2.2.2.2.2.2.2.2.2.2,[])))))
  else none)
 else none
abbrev Mj:Type:=(jo×(List Int)×(List zO)×(List (List Int))×(List Int)×(List (List Int)))⊕(Int×jo)
abbrev Vd:Type:=List (List Int)→Int→Int→jo→List Int→List zO→List (List Int)→List Int→List (List Int)→Option Mj
def BZ (k:Nat)(rec:Vd)(gL:List (List Int))(mB iT:Int)(b0:jo)(r1:List Int)(r3:List zO)(m4:List (List Int))(r5:List Int)(m6:List (List Int)):Option Mj:=
 bif decide (iT < mB) then (bif zE iT gL.length then ((oE k b0.2.1 r1 (gL.getD iT.toNat [])).bind fun x4=>
   bif !x4.2 then some (.inr (8,b0))
   else bif decide (x4.1>1152921504606846976) then some (.inr (8,b0))
   else bif zE iT r3.length then (let y0:List zO:=(r3.set iT.toNat ((r3.getD iT.toNat (0,0,0)).1,x4.1,(r3.getD iT.toNat (0,0,0)).2.2))
    rec gL mB (zA (iT+1)) b0 r1 y0 m4 r5 m6)
   else none)
  else none)
 else some (.inl (b0,r1,r3,m4,r5,m6))
def qd (k:Nat):Nat→Vd:=vY (fun _ _ _ _ _ _ _ _ _=>none) (BZ k)
def J7 (k:Nat)(a0:jo)(a1 a2:Int):Option (Int×wW):=
 (G1 k (vG a0 []) a1).bind fun x0=>
 bif !x0 then some (1,(vG a0 []))
 else(vA k a2 0 1048576).bind fun x1=>
 bif !x1 then some (1,(vG a0 []))
 else(nw k a0.2.2.2.2.2.2.2.2.2.2.1 a1 a2).bind fun x2=>
 (fq k a0.2.2.2.2.2.2.1 a0.2.2.2.2.2.2.2.1 a0.2.2.2.2.2.2.2.2.1 a0.2.2.2.2.2.2.2.2.2.1).bind fun x3=>
 (qd k k a0.2.2.2.2.2.2.2.2.2.2.2.1 (a0.2.2.2.2.2.2.2.2.2.2.2.1.length:Int) 0 a0 x2 x3.1 x3.2.1 x3.2.2.1 x3.2.2.2).bind fun z=>
 match z with
 |.inl z1=>some (0,(wT z1.1 (wi z1 (z1.2.1,(Rp z1.1 [])))))
 |.inr z2=>some (eZ z2 [])
def tw (k:Nat)(a0:jo)(a1:zD):Option (Int×wW):=
 bif decide (a1.1 = 1) then ((yPs k a0 a1.2).bind fun x0=>
  some (x0.1,x0.2))
 else bif decide (a1.1 = 2) then ((Mh k a0 a1).bind fun x1=>
  some (x1.1,x1.2))
 else bif decide (a1.1 = 3) then ((Mh k a0 a1).bind fun x2=>
  some (x2.1,x2.2))
 else bif decide (a1.1 = 4) then ((Mh k a0 a1).bind fun x3=>
  some (x3.1,x3.2))
 else bif decide (a1.1 = 5) then ((Mi k a0 a1).bind fun x4=>
  some (x4.1,x4.2))
 else bif decide (a1.1 = 6) then ((Mi k a0 a1).bind fun x5=>
  some (x5.1,x5.2))
 else bif decide (a1.1 = 7) then ((Mi k a0 a1).bind fun x6=>
  some (x6.1,x6.2))
 else bif decide (a1.1 = 8) then ((yGs k a0 a1.2.1 a1.2.2.1).bind fun x7=>
  some (x7.1,x7.2))
 else bif decide (a1.1 = 10) then ((wh k a0 a1.1 a1.2.1 a1.2.2.1).bind fun x8=>
  some (x8.1,x8.2))
 else bif decide (a1.1 = 11) then ((wh k a0 a1.1 a1.2.1 a1.2.2.1).bind fun x9=>
  some (x9.1,x9.2))
 else bif decide (a1.1 = 12) then ((J7 k a0 a1.2.1 a1.2.2.1).bind fun gK=>
  some (gK.1,gK.2))
 else some (0,(vG a0 []))
def GO (k:Nat)(a0:vH)(a1:vW)(a2:qY):Option (vW×(List qY)×Int):=
 (tv k a0 a1 a2).bind fun x0=>
 bif !(decide (x0=0)) then some (a1,[],x0)
 else bif decide (a2.2.1 = 9) then ((KR k a1 a2.1).bind fun x1=>
  some (a1,x1,0))
 else bif !(decide (a2.1 = (-1))) then ((KT k (gj a0 (fz a1 a2.1)) 15 []).bind fun x2=>
  (KO k x2 a2.2).bind fun x3=>
  bif !(decide (x3.1=0)) then some (a1,[],x3.1)
  else bif decide (a2.2.1 = 14) then ((sX k a0.1 a0.2.1 a0.2.2.1 a0.2.2.2.1 a0.2.2.2.2 a1.1 a1.2.1 a1.2.2.1 a1.2.2.2.1 a1.2.2.2.2.1 a1.2.2.2.2.2.1 a1.2.2.2.2.2.2.1 a1.2.2.2.2.2.2.2.1 a1.2.2.2.2.2.2.2.2.1 a1.2.2.2.2.2.2.2.2.2.1 a1.2.2.2.2.2.2.2.2.2.2).bind fun x4=>
   some ((yD x4),x4.2.2.2.2.2.2.2.2.2.2.2,0))
  else(pZ k x3.2.2.2.2.2.2.1 x3.2.2.2.2.2.2.2.1 x3.2.2.2.2.2.2.2.2.1 x3.2.2.2.2.2.2.2.2.2.1 x3.2.2.2.2.2.2.2.2.2.2.1 x3.2.2.2.2.2.2.2.2.2.2.2.1 x3.2.2.2.2.2.2.2.2.2.2.2.2.1 x3.2.2.2.2.2.2.2.2.2.2.2.2.2.1 x3.2.2.2.2.2.2.2.2.2.2.2.2.2.2.1 x3.2.2.2.2.2.2.2.2.2.2.2.2.2.2.2.1 x3.2.2.2.2.2.2.2.2.2.2.2.2.2.2.2.2.1 (decide (a2.2.1=13))).bind fun x5=>
  bif zW (x3.2.2.2.2.2.2.2.2.2.2.2.2.2.2.2.2.2.2.length + x5.2.2.2.2.2.2.2.2.2.2.2.length) 64 then (let y0:List qY:=(x3.2.2.2.2.2.2.2.2.2.2.2.2.2.2.2.2.2.2++x5.2.2.2.2.2.2.2.2.2.2.2)
   bif decide (a2.2.1 = 1) then ((mo k x5.2.2.2.2.2.2.2.1 a2.2.2.1).bind fun x6=>
    bif decide (x6 ≥ 0) then ((sZ k (KQ x3 y0) 19 [a2.2.2.1]).bind fun x7=>
     some ((yD x5),x7.2.2.2.2.2.2.2.2.2.2.2.2.2.2.2.2.2,0))
    else some ((yD x5),y0,0))
   else some ((yD x5),y0,0))
  else none)
 else(tw k (gj a0 (fz a1 a2.1)) a2.2).bind fun x8=>
 bif !(decide (x8.1=0)) then some (a1,[],x8.1)
 else bif decide (a2.2.1 = 14) then ((sX k a0.1 a0.2.1 a0.2.2.1 a0.2.2.2.1 a0.2.2.2.2 a1.1 a1.2.1 a1.2.2.1 a1.2.2.2.1 a1.2.2.2.2.1 a1.2.2.2.2.2.1 a1.2.2.2.2.2.2.1 a1.2.2.2.2.2.2.2.1 a1.2.2.2.2.2.2.2.2.1 a1.2.2.2.2.2.2.2.2.2.1 a1.2.2.2.2.2.2.2.2.2.2).bind fun x9=>
  some ((yD x9),x9.2.2.2.2.2.2.2.2.2.2.2,0))
 else(pZ k x8.2.2.2.2.2.2.1 x8.2.2.2.2.2.2.2.1 x8.2.2.2.2.2.2.2.2.1 x8.2.2.2.2.2.2.2.2.2.1 x8.2.2.2.2.2.2.2.2.2.2.1 x8.2.2.2.2.2.2.2.2.2.2.2.1 x8.2.2.2.2.2.2.2.2.2.2.2.2.1 x8.2.2.2.2.2.2.2.2.2.2.2.2.2.1 x8.2.2.2.2.2.2.2.2.2.2.2.2.2.2.1 x8.2.2.2.2.2.2.2.2.2.2.2.2.2.2.2.1 x8.2.2.2.2.2.2.2.2.2.2.2.2.2.2.2.2.1 (decide (a2.2.1=13))).bind fun gK=>
 bif zW (x8.2.2.2.2.2.2.2.2.2.2.2.2.2.2.2.2.2.2.length + gK.2.2.2.2.2.2.2.2.2.2.2.length) 64 then (let y1:List qY:=(x8.2.2.2.2.2.2.2.2.2.2.2.2.2.2.2.2.2.2++gK.2.2.2.2.2.2.2.2.2.2.2)
  bif decide (a2.2.1 = 1) then ((mo k gK.2.2.2.2.2.2.2.1 a2.2.2.1).bind fun GM=>
   bif decide (GM ≥ 0) then ((sZ k (KQ x8 y1) 19 [a2.2.2.1]).bind fun XR=>
    some ((yD gK),XR.2.2.2.2.2.2.2.2.2.2.2.2.2.2.2.2.2,0))
   else some ((yD gK),y1,0))
  else some ((yD gK),y1,0))
 else none
def Vf (k:Nat)(a0:vH)(a1:vW)(a2:qY):Option (vW×(List qY)×Int):=
 (GO k a0 a1 a2).bind fun x0=>
 bif !(decide (x0.2.2=0)) then some (a1,[],x0.2.2)
 else some (x0.1,x0.2.1,x0.2.2)
abbrev Mm:Type:=Int×Int×Int×Int×Int×Int×Int×Int×Int×Int×Int×Int×Int×Int
abbrev Vg:Type:=List Int→Int→Int→Int→Int→Int→Int→Int→Int→Int→Int→Int→Int→Int→Int→Int→Option Mm
def qZ3 (k:Nat)(rec:Vg)(s1:List Int)(s6 aa af ag ae bb bq bx aw az aA aD aJ aK aL:Int):Option Mm:=
 bif decide (s6 < (s1.length : Int)) then (bif decide (s6 < 6) then (bif zE s6 s1.length then (bif decide (s6=0) then(rec s1 (zA (s6+1)) aa af ag ae bb bq bx aw (s1.getD s6.toNat 0) aA aD aJ aK aL)
    else bif decide (s6=1) then(rec s1 (zA (s6+1)) aa af ag ae bb bq bx aw az (s1.getD s6.toNat 0) aD aJ aK aL)
    else bif decide (s6=2) then(rec s1 (zA (s6+1)) aa af ag ae bb bq bx aw az aA (s1.getD s6.toNat 0) aJ aK aL)
    else bif decide (s6=3) then(rec s1 (zA (s6+1)) aa af ag ae bb bq bx aw az aA aD (s1.getD s6.toNat 0) aK aL)
    else bif decide (s6=4) then(rec s1 (zA (s6+1)) aa af ag ae bb bq bx aw az aA aD aJ (s1.getD s6.toNat 0) aL)
    else bif decide (s6=5) then(rec s1 (zA (s6+1)) aa af ag ae bb bq bx aw az aA aD aJ aK (s1.getD s6.toNat 0))
    else none)
   else none)
  else some (aa,af,ag,ae,bb,bq,bx,aw,az,aA,aD,aJ,aK,aL))
 else some (aa,af,ag,ae,bb,bq,bx,aw,az,aA,aD,aJ,aK,aL)
def Mn (k:Nat):Nat→Vg
 |0,_,_,_,_,_,_,_,_,_,_,_,_,_,_,_,_=>none
 |n+1,s1,s6,aa,af,ag,ae,bb,bq,bx,aw,az,aA,aD,aJ,aK,aL=>qZ3 k (Mn k n) s1 s6 aa af ag ae bb bq bx aw az aA aD aJ aK aL
def jK (k:Nat)(a0:Int)(a1:List Int):Option zD:=
 (Mn k k a1 0 0 0 0 0 0 0 0 a0 0 0 0 0 0 0).bind fun z=>
 some (z.2.2.2.2.2.2.2.1,z.2.2.2.2.2.2.2.2.1,z.2.2.2.2.2.2.2.2.2.1,z.2.2.2.2.2.2.2.2.2.2.1,z.2.2.2.2.2.2.2.2.2.2.2.1,z.2.2.2.2.2.2.2.2.2.2.2.2.1,z.2.2.2.2.2.2.2.2.2.2.2.2.2)
def Vi (k:Nat)(a0 a1:Int)(a2:List Int):Option qY:=
 (jK k a1 a2).bind fun x0=>
 some (a0,x0)
def R2 (k:Nat):Option Bool:=
 (GS k 0).bind fun x0=>
 (KU k x0).bind fun x1=>
 (Vi k (-1) 10 [0,5]).bind fun x2=>
 (Vf k x0 x1 x2).bind fun x3=>
 (Vi k 0 1 [1,1,3,3,0,9]).bind fun x4=>
 (Vf k x0 x3.1 x4).bind fun x5=>
 bif decide (x5.2.2 = 0) then (bif decide ((x5.2.1.length : Int) = 3) then (bif zE 0 x5.2.1.length then (bif decide ((x5.2.1.getD 0 (0, 0, 0, 0, 0, 0, 0, 0)).2.1 = 15) then (bif zE 1 x5.2.1.length then ((jK k 18 [1,0,1,3]).bind fun x6=>
      bif (decide ((x5.2.1.getD 1 (0, 0, 0, 0, 0, 0, 0, 0)).2.1 = x6.1)) && ((decide ((x5.2.1.getD 1 (0, 0, 0, 0, 0, 0, 0, 0)).2.2.1 = x6.2.1)) && ((decide ((x5.2.1.getD 1 (0, 0, 0, 0, 0, 0, 0, 0)).2.2.2.1 = x6.2.2.1)) && ((decide ((x5.2.1.getD 1 (0, 0, 0, 0, 0, 0, 0, 0)).2.2.2.2.1 = x6.2.2.2.1)) && ((decide ((x5.2.1.getD 1 (0, 0, 0, 0, 0, 0, 0, 0)).2.2.2.2.2.1 = x6.2.2.2.2.1)) && ((decide ((x5.2.1.getD 1 (0, 0, 0, 0, 0, 0, 0, 0)).2.2.2.2.2.2.1 = x6.2.2.2.2.2.1)) && (decide ((x5.2.1.getD 1 (0, 0, 0, 0, 0, 0, 0, 0)).2.2.2.2.2.2.2 = x6.2.2.2.2.2.2))))))) then (bif decide (x5.1.2.2.2.2.2.2.2.2.2.1 = 5) then (bif decide ((x5.1.2.1.length : Int) = 3) then (bif zE 0 x5.1.2.1.length then some (decide ((x5.1.2.1.getD 0 (0,0,0)).1=2))
         else none)
        else some false)
       else some false)
      else some false)
     else none)
    else some false)
   else none)
  else some false)
 else some false
def QE (k:Nat)(cj ay bC aI aE aN aS a1:Int):Option Bool:=
 bif decide (a1≥aN) then some (decide (a1≤aS))
 else some false
abbrev Mo:Type:=List zD
abbrev Vj:Type:=List zD→Int→Int→List zD→Option Mo
def AF (k:Nat)(rec:Vj)(s0:List zD)(s1 s6:Int)(r0:List zD):Option Mo:=
 bif decide (s6 < (s0.length : Int)) then (bif zE s6 s0.length then ((QE k (s0.getD s6.toNat (0,0,0,0,0,0,0)).1 (s0.getD s6.toNat (0,0,0,0,0,0,0)).2.1 (s0.getD s6.toNat (0,0,0,0,0,0,0)).2.2.1 (s0.getD s6.toNat (0,0,0,0,0,0,0)).2.2.2.1 (s0.getD s6.toNat (0,0,0,0,0,0,0)).2.2.2.2.1 (s0.getD s6.toNat (0,0,0,0,0,0,0)).2.2.2.2.2.1 (s0.getD s6.toNat (0,0,0,0,0,0,0)).2.2.2.2.2.2 s1).bind fun x0=>
   bif x0 then (bif zE s6 s0.length then (bif zW (r0.length + 1) 56 then (let y0:List zD:=(r0++[(s0.getD s6.toNat (0,0,0,0,0,0,0))])
      rec s0 s1 (zA (s6+1)) y0)
     else none)
    else none)
   else rec s0 s1 (zA (s6+1)) r0)
  else none)
 else some r0
def Fl (k:Nat):Nat→Vj
 |0,_,_,_,_=>none
 |n+1,s0,s1,s6,r0=>AF k (Fl k n) s0 s1 s6 r0
def AE (k:Nat)(a0:List zD)(a1:Int):Option (List zD):=
 (Fl k k a0 a1 0 []).bind fun z=>
 some z
abbrev Mp:Type:=List zD
abbrev Vl:Type:=List zD→Int→Int→List zD→Option Mp
def AG (k:Nat)(rec:Vl)(s0:List zD)(s1 s6:Int)(r0:List zD):Option Mp:=
 bif decide (s6 < (s0.length : Int)) then (bif zE s6 s0.length then (bif decide ((s0.getD s6.toNat (0, 0, 0, 0, 0, 0, 0)).2.1 = s1) then (bif zE s6 s0.length then (bif zW (r0.length + 1) 56 then (let y0:List zD:=(r0++[(s0.getD s6.toNat (0,0,0,0,0,0,0))])
      rec s0 s1 (zA (s6+1)) y0)
     else none)
    else none)
   else rec s0 s1 (zA (s6+1)) r0)
  else none)
 else some r0
def Fm (k:Nat):Nat→Vl
 |0,_,_,_,_=>none
 |n+1,s0,s1,s6,r0=>AG k (Fm k n) s0 s1 s6 r0
def pO (k:Nat)(a0:List zD)(a1:Int):Option (List zD):=
 (Fm k k a0 a1 0 []).bind fun z=>
 some z
abbrev Mr:Type:=Int×Bool×(List zD)×(List zD)×(List zD)
abbrev Vn:Type:=Int→Bool→Int→List zD→List zD→List zD→Option Mr
def AI (k:Nat)(rec:Vn)(s7:Int)(s9:Bool)(ax:Int)(r0 r1 r2:List zD):Option Mr:=
 bif decide (ax < (r2.length : Int)) then (bif s9 then (bif zE ax r2.length then(rec s7 (decide ((r2.getD ax.toNat (0,0,0,0,0,0,0)).2.2.2.2.1=3)) (zA (ax+1)) r0 r1 r2)
   else none)
  else rec s7 false (zA (ax+1)) r0 r1 r2)
 else some (s7,s9,r0,r1,r2)
def AH (k:Nat):Nat→Vn
 |0,_,_,_,_,_,_=>none
 |n+1,s7,s9,ax,r0,r1,r2=>AI k (AH k n) s7 s9 ax r0 r1 r2
abbrev Ms:Type:=List zD
abbrev Vp:Type:=Int→List zD→List zD→Option Ms
def AJ (k:Nat)(rec:Vp)(s7:Int)(r0 r1:List zD):Option Ms:=
 bif decide (s7 < (r0.length : Int)) then (bif zE s7 r0.length then ((pO k r0 (r0.getD s7.toNat (0,0,0,0,0,0,0)).2.1).bind fun x1=>
   (AH k k s7 true 0 r0 r1 x1).bind fun z=>
   bif zE 0 z.2.2.2.2.length then (bif zE z.1 z.2.2.1.length then (bif (decide ((z.2.2.2.2.getD 0 (0, 0, 0, 0, 0, 0, 0)).1 = (z.2.2.1.getD z.1.toNat (0, 0, 0, 0, 0, 0, 0)).1)) && ((decide ((z.2.2.2.2.getD 0 (0, 0, 0, 0, 0, 0, 0)).2.1 = (z.2.2.1.getD z.1.toNat (0, 0, 0, 0, 0, 0, 0)).2.1)) && ((decide ((z.2.2.2.2.getD 0 (0, 0, 0, 0, 0, 0, 0)).2.2.1 = (z.2.2.1.getD z.1.toNat (0, 0, 0, 0, 0, 0, 0)).2.2.1)) && ((decide ((z.2.2.2.2.getD 0 (0, 0, 0, 0, 0, 0, 0)).2.2.2.1 = (z.2.2.1.getD z.1.toNat (0, 0, 0, 0, 0, 0, 0)).2.2.2.1)) && ((decide ((z.2.2.2.2.getD 0 (0, 0, 0, 0, 0, 0, 0)).2.2.2.2.1 = (z.2.2.1.getD z.1.toNat (0, 0, 0, 0, 0, 0, 0)).2.2.2.2.1)) && ((decide ((z.2.2.2.2.getD 0 (0, 0, 0, 0, 0, 0, 0)).2.2.2.2.2.1 = (z.2.2.1.getD z.1.toNat (0, 0, 0, 0, 0, 0, 0)).2.2.2.2.2.1)) && (decide ((z.2.2.2.2.getD 0 (0, 0, 0, 0, 0, 0, 0)).2.2.2.2.2.2 = (z.2.2.1.getD z.1.toNat (0, 0, 0, 0, 0, 0, 0)).2.2.2.2.2.2))))))) then (bif zE z.1 z.2.2.1.length then (bif zW (z.2.2.2.1.length + 1) 56 then (let y0:List zD:=(z.2.2.2.1++[(z.2.2.1.getD z.1.toNat (0,0,0,0,0,0,0))])
        rec (zA (z.1+1)) z.2.2.1 y0)
       else none)
      else none)
     else bif z.2.1 then (bif zE z.1 z.2.2.1.length then (bif zW (z.2.2.2.1.length + 1) 56 then (let y1:List zD:=(z.2.2.2.1++[(z.2.2.1.getD z.1.toNat (0,0,0,0,0,0,0))])
        rec (zA (z.1+1)) z.2.2.1 y1)
       else none)
      else none)
     else rec (zA (z.1+1)) z.2.2.1 z.2.2.2.1)
    else none)
   else none)
  else none)
 else some r1
def Fp (k:Nat):Nat→Vp
 |0,_,_,_=>none
 |n+1,s7,r0,r1=>AJ k (Fp k n) s7 r0 r1
def Fo (k:Nat)(a0:List zD)(a1:Int):Option (List zD):=
 (AE k a0 a1).bind fun x0=>
 (Fp k k 0 x0 []).bind fun z1=>
 some z1
def Qj (k:Nat)(ab:List zO)(ar:List (List Int))(aq:List Int)(an:List (List Int))(fP bj dq bc bm bQ cA:Int):Option Bool:=
 bif decide (bj ≥ 0) then (bif decide (bj < (ab.length : Int)) then (bif decide (dq ≥ 0) then (bif decide (dq < (ab.length : Int)) then (bif !(decide (bj = dq)) then (bif decide (bc ≥ 1) then (bif decide (bc ≤ 1099511627776) then (bif decide (bm≥1) then some (decide (bm≤3))
        else some false)
       else some false)
      else some false)
     else some false)
    else some false)
   else some false)
  else some false)
 else some false
abbrev Mt:Type:=(List zD)⊕Bool
abbrev Vu:Type:=List zD→Int→List zO→List (List Int)→List Int→List (List Int)→Option Mt
def zv (k:Nat)(rec:Vu)(s1:List zD)(s5:Int)(aa:List zO)(af:List (List Int))(ag:List Int)(ae:List (List Int)):Option Mt:=
 bif decide (s5 < (s1.length : Int)) then (bif zE s5 s1.length then ((Qj k aa af ag ae (s1.getD s5.toNat (0,0,0,0,0,0,0)).1 (s1.getD s5.toNat (0,0,0,0,0,0,0)).2.1 (s1.getD s5.toNat (0,0,0,0,0,0,0)).2.2.1 (s1.getD s5.toNat (0,0,0,0,0,0,0)).2.2.2.1 (s1.getD s5.toNat (0,0,0,0,0,0,0)).2.2.2.2.1 (s1.getD s5.toNat (0,0,0,0,0,0,0)).2.2.2.2.2.1 (s1.getD s5.toNat (0,0,0,0,0,0,0)).2.2.2.2.2.2).bind fun x0=>
   bif !x0 then some (.inr false)
   else rec s1 (zA (s5+1)) aa af ag ae)
  else none)
 else some (.inl s1)
def EX (k:Nat):Nat→Vu
 |0,_,_,_,_,_,_=>none
 |n+1,s1,s5,aa,af,ag,ae=>zv k (EX k n) s1 s5 aa af ag ae
def EW (k:Nat)(ab:List zO)(ar:List (List Int))(aq:List Int)(an:List (List Int))(a1:List zD):Option Bool:=
 (EX k k a1 0 ab ar aq an).bind fun z=>
 match z with
 |.inl z1=>some (decide ((z1.length:Int)≤64))
 |.inr z2=>some z2
abbrev Vx:Type:=List (List Int)→Int→List (List Int)→Option (List (List Int))
def zm (k:Nat)(rec:Vx)(s0:List (List Int))(s4:Int)(m0:List (List Int)):Option (List (List Int)):=
 bif decide (s4 < (s0.length : Int)) then (bif zE s4 s0.length then (bif zW (0 + (s0.getD s4.toNat []).length) 8 then (bif zW (m0.length+1) 24 then(rec s0 (zA (s4+1)) (m0++[(s0.getD s4.toNat [])]))
    else none)
   else none)
  else none)
 else some m0
def EJ (k:Nat):Nat→Vx
 |0,_,_,_=>none
 |n+1,s0,s4,m0=>zm k (EJ k n) s0 s4 m0
def EK (k:Nat)(a0:List (List Int)):Option (List (List Int)):=
 (EJ k k a0 0 []).bind fun z=>
 some z
def mn (k:Nat)(ab:List zO)(ar:List (List Int))(aq:List Int)(an:List (List Int)):Option ((List zO)×(List (List Int))×(List Int)×(List (List Int))):=
 bif zW (0 + ab.length) 24 then ((EK k ar).bind fun x0=>
  bif zW (0 + aq.length) 8 then ((EK k an).bind fun x1=>
   some (ab,x0,aq,x1))
  else none)
 else none
abbrev Vz:Type:=List zD→Int→Int→Int→Int→Option wO
def z9 (k:Nat)(rec:Vz)(s0:List zD)(s1 s6 s7 s8:Int):Option wO:=
 bif decide (s8 < (s0.length : Int)) then (bif zE s8 s0.length then (bif !(decide ((s0.getD s8.toNat (0,0,0,0,0,0,0)).2.1=s1)) then(rec s0 s1 s6 s7 (zA (s8+1)))
   else bif zE s8 s0.length then (bif decide ((s0.getD s8.toNat (0, 0, 0, 0, 0, 0, 0)).2.2.2.2.1 = 3) then (bif zE s8 s0.length then(rec s0 s1 (zA (s6+(s0.getD s8.toNat (0,0,0,0,0,0,0)).2.2.2.1)) s7 (zA (s8+1)))
     else none)
    else bif zE s8 s0.length then(rec s0 s1 s6 (zA (s7+(s0.getD s8.toNat (0,0,0,0,0,0,0)).2.2.2.1)) (zA (s8+1)))
    else none)
   else none)
  else none)
 else some (s6,s7)
def E2 (k:Nat):Nat→Vz
 |0,_,_,_,_,_=>none
 |n+1,s0,s1,s6,s7,s8=>z9 k (E2 k n) s0 s1 s6 s7 s8
def E1 (k:Nat)(a0:List zD)(a1:Int):Option wO:=
 (E2 k k a0 a1 0 0 0).bind fun z=>
 some (z.1,z.2)
def I8 (k:Nat)(a0:List zD)(a1:Int):Option Int:=
 (E1 k a0 a1).bind fun x0=>
 some x0.2
def Ac (k:Nat)(bA bF aV a1:Int):Option Int:=
 bif decide (a1≥aV) then some 0
 else some (zA (aV-a1))
abbrev VD:Type:=List zD→Int→Int→Int→Int→Option Int
def zz (k:Nat)(rec:VD)(s0:List zD)(s1 s2 s7 s8:Int):Option Int:=
 bif decide (s8 < (s0.length : Int)) then (bif zE s8 s0.length then (bif decide ((s0.getD s8.toNat (0, 0, 0, 0, 0, 0, 0)).2.1 = s1) then (bif zE s8 s0.length then (bif decide ((s0.getD s8.toNat (0, 0, 0, 0, 0, 0, 0)).2.2.1 = s2) then (bif zE s8 s0.length then(rec s0 s1 s2 (zA (s7+(s0.getD s8.toNat (0,0,0,0,0,0,0)).2.2.2.1)) (zA (s8+1)))
      else none)
     else rec s0 s1 s2 s7 (zA (s8+1)))
    else none)
   else rec s0 s1 s2 s7 (zA (s8+1)))
  else none)
 else some s7
def E0 (k:Nat):Nat→VD
 |0,_,_,_,_,_=>none
 |n+1,s0,s1,s2,s7,s8=>zz k (E0 k n) s0 s1 s2 s7 s8
def sG (k:Nat)(a0:List zD)(a1 a2:Int):Option Int:=
 (E0 k k a0 a1 a2 0 0).bind fun z=>
 some z
def I6 (k:Nat)(a0:List zD)(a1 a2:Int):Option Int:=
 (sG k a0 a1 a2).bind fun x0=>
 (sG k a0 a2 a1).bind fun x1=>
 some (zA (x0-x1))
abbrev VG:Type:=List (List Int)→Int→Int→Option (Unit⊕Bool)
def y8 (k:Nat)(rec:VG)(s0:List (List Int))(s1 s5:Int):Option (Unit⊕Bool):=
 bif decide (s5 < s1) then (bif zE s5 s0.length then (bif !(decide (((s0.getD s5.toNat []).length:Int)=s1)) then some (.inr false)
   else rec s0 s1 (zA (s5+1)))
  else none)
 else some (.inl ())
def EB (k:Nat):Nat→VG
 |0,_,_,_=>none
 |n+1,s0,s1,s5=>y8 k (EB k n) s0 s1 s5
def EA (k:Nat)(a0:List (List Int))(a1:Int):Option Bool:=
 bif !(decide ((a0.length:Int)=a1)) then some false
 else(EB k k a0 a1 0).bind fun z=>
 match z with
 |.inl z1=>some true
 |.inr z2=>some z2
def Ey (k:Nat)(bA bF aV:Int):Option Bool:=
 bif decide (bA > (-4611686018427387904)) then (bif decide (bA < 4611686018427387904) then (bif decide (bF ≥ 0) then (bif decide (bF ≤ 2305843009213693952) then (bif decide (aV≥0) then some (decide (aV≤2305843009213693952))
     else some false)
    else some false)
   else some false)
  else some false)
 else some false
def Ez (k:Nat)(a0:Int):Option Bool:=
 bif decide (a0≥(-1)) then some (decide (a0≤2305843009213693952))
 else some false
abbrev Mu:Type:=(Int×Int×(List zO)×(List (List Int))×(List Int)×(List (List Int)))⊕Bool
abbrev VJ:Type:=Int→Int→Int→List zO→List (List Int)→List Int→List (List Int)→Option Mu
def za (k:Nat)(rec:VJ)(s3 s4 s5:Int)(aa:List zO)(af:List (List Int))(ag:List Int)(ae:List (List Int)):Option Mu:=
 bif decide (s5 < s3) then (bif zE s4 af.length then (bif zE s5 (af.getD s4.toNat []).length then ((Ez k ((af.getD s4.toNat []).getD s5.toNat 0)).bind fun x4=>
    bif !x4 then some (.inr false)
    else bif zE s4 ae.length then (bif zE s5 (ae.getD s4.toNat []).length then (bif decide (((ae.getD s4.toNat []).getD s5.toNat 0)≤(-72057594037927936)) then some (.inr false)
      else bif zE s4 ae.length then (bif zE s5 (ae.getD s4.toNat []).length then (bif decide (((ae.getD s4.toNat []).getD s5.toNat 0)≥72057594037927936) then some (.inr false)
        else bif zE s4 ae.length then (bif zE s5 (ae.getD s4.toNat []).length then (bif zE s5 ae.length then (bif zE s4 (ae.getD s5.toNat []).length then (bif !(decide (((ae.getD s4.toNat []).getD s5.toNat 0)=(zA (0-((ae.getD s5.toNat []).getD s4.toNat 0))))) then some (.inr false)
            else rec s3 s4 (zA (s5+1)) aa af ag ae)
           else none)
          else none)
         else none)
        else none)
       else none)
      else none)
     else none)
    else none)
   else none)
  else none)
 else some (.inl (s3,s4,aa,af,ag,ae))
def y9 (k:Nat):Nat→VJ
 |0,_,_,_,_,_,_,_=>none
 |n+1,s3,s4,s5,aa,af,ag,ae=>za k (y9 k n) s3 s4 s5 aa af ag ae
abbrev VL:Type:=Int→Int→List zO→List (List Int)→List Int→List (List Int)→Option (Unit⊕Bool)
def zc (k:Nat)(rec:VL)(s3 s4:Int)(aa:List zO)(af:List (List Int))(ag:List Int)(ae:List (List Int)):Option (Unit⊕Bool):=
 bif decide (s4 < s3) then (bif zE s4 aa.length then ((Ey k (aa.getD s4.toNat (0,0,0)).1 (aa.getD s4.toNat (0,0,0)).2.1 (aa.getD s4.toNat (0,0,0)).2.2).bind fun x2=>
   bif !x2 then some (.inr false)
   else bif zE s4 ag.length then ((Ez k (ag.getD s4.toNat 0)).bind fun x3=>
    bif !x3 then some (.inr false)
    else(y9 k k s3 s4 0 aa af ag ae).bind fun z=>
    match z with
    |.inl z1=>rec z1.1 (zA (z1.2.1+1)) z1.2.2.1 z1.2.2.2.1 z1.2.2.2.2.1 z1.2.2.2.2.2
    |.inr z2=>some (.inr z2))
   else none)
  else none)
 else some (.inl ())
def zb (k:Nat):Nat→VL
 |0,_,_,_,_,_,_=>none
 |n+1,s3,s4,aa,af,ag,ae=>zc k (zb k n) s3 s4 aa af ag ae
def IN (k:Nat)(ab:List zO)(ar:List (List Int))(aq:List Int)(an:List (List Int)):Option Bool:=
 bif decide ((ab.length:Int)<1) then some false
 else bif decide ((ab.length:Int)>6) then some false
 else(EA k ar (ab.length:Int)).bind fun x0=>
 bif !x0 then some false
 else(EA k an (ab.length:Int)).bind fun x1=>
 bif !x1 then some false
 else bif !(decide ((aq.length:Int)=(ab.length:Int))) then some false
 else(zb k k (ab.length:Int) 0 ab ar aq an).bind fun z3=>
 match z3 with
 |.inl z4=>some true
 |.inr z5=>some z5
abbrev Mv:Type:=(List zD)×Int×(List zO)×(List (List Int))×(List Int)×(List (List Int))×(List zO)×(List (List Int))×(List Int)×(List (List Int))
abbrev VP:Type:=List zD→Int→Int→List zO→List (List Int)→List Int→List (List Int)→List zO→List (List Int)→List Int→List (List Int)→Option Mv
def Ae (k:Nat)(rec:VP)(s1:List zD)(s7 s8:Int)(aa:List zO)(af:List (List Int))(ag:List Int)(ae:List (List Int))(r3:List zO)(m4:List (List Int))(r5:List Int)(m6:List (List Int)):Option Mv:=
 bif decide (s8 < (r3.length : Int)) then ((I6 k s1 s7 s8).bind fun x4=>
  bif zE s7 r3.length then (bif zE s7 r3.length then (let y1:List zO:=(r3.set s7.toNat ((zA ((r3.getD s7.toNat (0,0,0)).1-x4)),(r3.getD s7.toNat (0,0,0)).2))
    bif zE s7 m6.length then (bif zE s7 m6.length then (bif zE s8 (m6.getD s7.toNat []).length then (bif zE s8 (m6.getD s7.toNat []).length then (let y2:List (List Int):=(m6.set s7.toNat ((m6.getD s7.toNat []).set s8.toNat (zA (((m6.getD s7.toNat []).getD s8.toNat 0)+x4))))
        rec s1 s7 (zA (s8+1)) aa af ag ae y1 m4 r5 y2)
       else none)
      else none)
     else none)
    else none)
   else none)
  else none)
 else some (s1,s7,aa,af,ag,ae,r3,m4,r5,m6)
def Ad (k:Nat):Nat→VP
 |0,_,_,_,_,_,_,_,_,_,_,_=>none
 |n+1,s1,s7,s8,aa,af,ag,ae,r3,m4,r5,m6=>Ae k (Ad k n) s1 s7 s8 aa af ag ae r3 m4 r5 m6
abbrev Mw:Type:=(List zO)×(List (List Int))×(List Int)×(List (List Int))×(List zO)×(List (List Int))×(List Int)×(List (List Int))
abbrev VR:Type:=List zD→Int→List zO→List (List Int)→List Int→List (List Int)→List zO→List (List Int)→List Int→List (List Int)→Option Mw
def Ag (k:Nat)(rec:VR)(s1:List zD)(s7:Int)(aa:List zO)(af:List (List Int))(ag:List Int)(ae:List (List Int))(r3:List zO)(m4:List (List Int))(r5:List Int)(m6:List (List Int)):Option Mw:=
 bif decide (s7 < (r3.length : Int)) then (bif zE s7 r3.length then ((I8 k s1 s7).bind fun x2=>
   (Ac k (r3.getD s7.toNat (0,0,0)).1 (r3.getD s7.toNat (0,0,0)).2.1 (r3.getD s7.toNat (0,0,0)).2.2 x2).bind fun x3=>
   bif zE s7 r3.length then (let y0:List zO:=(r3.set s7.toNat ((r3.getD s7.toNat (0,0,0)).1,(r3.getD s7.toNat (0,0,0)).2.1,x3))
    (Ad k k s1 s7 0 aa af ag ae y0 m4 r5 m6).bind fun z=>
    rec z.1 (zA (z.2.1+1)) z.2.2.1 z.2.2.2.1 z.2.2.2.2.1 z.2.2.2.2.2.1 z.2.2.2.2.2.2.1 z.2.2.2.2.2.2.2.1 z.2.2.2.2.2.2.2.2.1 z.2.2.2.2.2.2.2.2.2)
   else none)
  else none)
 else some (aa,af,ag,ae,r3,m4,r5,m6)
def Af (k:Nat):Nat→VR
 |0,_,_,_,_,_,_,_,_,_,_=>none
 |n+1,s1,s7,aa,af,ag,ae,r3,m4,r5,m6=>Ag k (Af k n) s1 s7 aa af ag ae r3 m4 r5 m6
def vf (k:Nat)(ab:List zO)(ar:List (List Int))(aq:List Int)(an:List (List Int))(a1:List zD):Option ((List zO)×(List (List Int))×(List Int)×(List (List Int))×Int):=
 (EW k ab ar aq an a1).bind fun x0=>
 bif !x0 then some (ab,ar,aq,an,1)
 else(mn k ab ar aq an).bind fun x1=>
 (Af k k a1 0 ab ar aq an x1.1 x1.2.1 x1.2.2.1 x1.2.2.2).bind fun z1=>
 (IN k z1.2.2.2.2.1 z1.2.2.2.2.2.1 z1.2.2.2.2.2.2.1 z1.2.2.2.2.2.2.2).bind fun x5=>
 bif !x5 then some (vO z1 8)
 else some (yCm z1 0)
abbrev VX:Type:=Int→Int→Int→List zO→List (List Int)→List Int→List (List Int)→Option Int
def Ai (k:Nat)(rec:VX)(s1 s5 s6:Int)(aa:List zO)(af:List (List Int))(ag:List Int)(ae:List (List Int)):Option Int:=
 bif zE s1 ae.length then (bif decide (s6 < ((ae.getD s1.toNat []).length : Int)) then (bif zE s1 ae.length then (bif zE s6 (ae.getD s1.toNat []).length then(rec s1 (zA (s5+((ae.getD s1.toNat []).getD s6.toNat 0))) (zA (s6+1)) aa af ag ae)
    else none)
   else none)
  else some s5)
 else none
def Ah (k:Nat):Nat→VX
 |0,_,_,_,_,_,_,_=>none
 |n+1,s1,s5,s6,aa,af,ag,ae=>Ai k (Ah k n) s1 s5 s6 aa af ag ae
def Jc (k:Nat)(ab:List zO)(ar:List (List Int))(aq:List Int)(an:List (List Int))(a1:Int):Option Int:=
 (Ah k k a1 0 0 ab ar aq an).bind fun z=>
 some z
abbrev Mx:Type:=(Int×Int×Int×Int×Int×(List zO)×(List (List Int))×(List Int)×(List (List Int)))⊕Bool
abbrev VZ:Type:=List zD→Int→Int→Int→Int→Int→Int→List zO→List (List Int)→List Int→List (List Int)→Option Mx
def Ak (k:Nat)(rec:VZ)(s1:List zD)(s2 s7 s8 s9 ax bo:Int)(aa:List zO)(af:List (List Int))(ag:List Int)(ae:List (List Int)):Option Mx:=
 bif decide (bo < (aa.length : Int)) then ((sG k s1 s2 bo).bind fun x2=>
  (sG k s1 bo s2).bind fun x3=>
  (sG k s1 s2 bo).bind fun x4=>
  bif decide (x4 > 0) then (bif zE s2 af.length then (bif zE bo (af.getD s2.toNat []).length then (bif !(decide (((af.getD s2.toNat []).getD bo.toNat 0) = (-1))) then (bif zE s2 ae.length then (bif zE bo (ae.getD s2.toNat []).length then (bif zE s2 af.length then (bif zE bo (af.getD s2.toNat []).length then (bif decide ((zA (((ae.getD s2.toNat []).getD bo.toNat 0)+(zA (x2-x3))))>((af.getD s2.toNat []).getD bo.toNat 0)) then some (.inr true)
          else rec s1 s2 s7 s8 (zA (s9-(zA (x2-x3)))) (zA (ax+(zA (x2-x3)))) (zA (bo+1)) aa af ag ae)
         else none)
        else none)
       else none)
      else none)
     else rec s1 s2 s7 s8 (zA (s9-(zA (x2-x3)))) (zA (ax+(zA (x2-x3)))) (zA (bo+1)) aa af ag ae)
    else none)
   else none)
  else rec s1 s2 s7 s8 (zA (s9-(zA (x2-x3)))) (zA (ax+(zA (x2-x3)))) (zA (bo+1)) aa af ag ae)
 else some (.inl (s2,s7,s8,s9,ax,aa,af,ag,ae))
def oB (k:Nat):Nat→VZ
 |0,_,_,_,_,_,_,_,_,_,_,_=>none
 |n+1,s1,s2,s7,s8,s9,ax,bo,aa,af,ag,ae=>Ak k (oB k n) s1 s2 s7 s8 s9 ax bo aa af ag ae
def Jf (k:Nat)(ab:List zO)(ar:List (List Int))(aq:List Int)(an:List (List Int))(a1:List zD)(a2:Int):Option Bool:=
 (E1 k a1 a2).bind fun x0=>
 bif decide ((zA (x0.1+x0.2))=0) then some false
 else bif zE a2 ab.length then (bif zE a2 ab.length then ((Jc k ab ar aq an a2).bind fun x1=>
   (oB k k a1 a2 x0.1 x0.2 (zA ((ab.getD a2.toNat (0,0,0)).1+(ab.getD a2.toNat (0,0,0)).2.1)) x1 0 ab ar aq an).bind fun z=>
   match z with
   |.inl z1=>bif decide (z1.2.2.2.1<0) then some true
    else bif decide (z1.2.1 > 0) then (bif zE z1.1 z1.2.2.2.2.2.1.length then ((Ac k (z1.2.2.2.2.2.1.getD z1.1.toNat (0,0,0)).1 (z1.2.2.2.2.2.1.getD z1.1.toNat (0,0,0)).2.1 (z1.2.2.2.2.2.1.getD z1.1.toNat (0,0,0)).2.2 z1.2.2.1).bind fun x5=>
      bif decide (z1.2.2.2.1<x5) then some true
      else bif zE z1.1 z1.2.2.2.2.2.2.2.1.length then (bif !(decide ((z1.2.2.2.2.2.2.2.1.getD z1.1.toNat 0) = (-1))) then (bif zE z1.1 z1.2.2.2.2.2.2.2.1.length then some (decide (z1.2.2.2.2.1>(z1.2.2.2.2.2.2.2.1.getD z1.1.toNat 0)))
        else none)
       else some false)
      else none)
     else none)
    else bif zE z1.1 z1.2.2.2.2.2.2.2.1.length then (bif !(decide ((z1.2.2.2.2.2.2.2.1.getD z1.1.toNat 0) = (-1))) then (bif zE z1.1 z1.2.2.2.2.2.2.2.1.length then some (decide (z1.2.2.2.2.1>(z1.2.2.2.2.2.2.2.1.getD z1.1.toNat 0)))
      else none)
     else some false)
    else none
   |.inr z2=>some z2)
  else none)
 else none
abbrev V1:Type:=List zD→Int→List zO→List (List Int)→List Int→List (List Int)→List Int→Option (List Int)
def oC (k:Nat)(rec:V1)(s1:List zD)(s6:Int)(aa:List zO)(af:List (List Int))(ag:List Int)(ae:List (List Int))(r1:List Int):Option (List Int):=
 bif decide (s6 < (aa.length : Int)) then ((Jf k aa af ag ae s1 s6).bind fun x0=>
  bif x0 then (bif zW (r1.length+1) 8 then(rec s1 (zA (s6+1)) aa af ag ae (r1++[s6]))
   else none)
  else rec s1 (zA (s6+1)) aa af ag ae r1)
 else some r1
def pN (k:Nat):Nat→V1
 |0,_,_,_,_,_,_,_=>none
 |n+1,s1,s6,aa,af,ag,ae,r1=>oC k (pN k n) s1 s6 aa af ag ae r1
def pM (k:Nat)(ab:List zO)(ar:List (List Int))(aq:List Int)(an:List (List Int))(a1:List zD):Option (List Int):=
 (pN k k a1 0 ab ar aq an []).bind fun z=>
 some z
def E7 (k:Nat)(ab:List zO)(ar:List (List Int))(aq:List Int)(an:List (List Int))(a1:List zD):Option Bool:=
 (EW k ab ar aq an a1).bind fun x0=>
 bif x0 then ((pM k ab ar aq an a1).bind fun x1=>
  some (decide ((x1.length:Int)=0)))
 else some false
def qn (k:Nat)(ab:List zO)(ar:List (List Int))(aq:List Int)(an:List (List Int))(a1:List zD):Option ((List zO)×(List (List Int))×(List Int)×(List (List Int))×Bool):=
 (vf k ab ar aq an a1).bind fun x0=>
 bif decide (x0.2.2.2.2 = 0) then ((E7 k ab ar aq an a1).bind fun x1=>
  some (vO x0 x1))
 else some (vO x0 false)
abbrev Mz:Type:=zD⊕(Bool×Int×Int×Int×Int×Int×Int×Int)
abbrev V4:Type:=Int→List zO→List (List Int)→List Int→List (List Int)→Int→Int→Int→Int→Int→Int→Int→List zD→Option Mz
def Cv (k:Nat)(rec:V4)(s9:Int)(aa:List zO)(af:List (List Int))(ag:List Int)(ae:List (List Int))(aw az aA aD aJ aK aL:Int)(r2:List zD):Option Mz:=
 bif decide (s9 < (r2.length : Int)) then (bif ((decide (0 ≤ s9)) && (decide (s9 ≤ (zA (s9 + 1))))) && (decide ((zA (s9 + 1)) ≤ (r2.length : Int))) then ((qn k aa af ag ae (yB r2 (0+s9.toNat) ((zA (s9+1)).toNat-s9.toNat))).bind fun x1=>
   bif x1.2.2.2.2 then (bif zE s9 r2.length then some (.inr (true,(r2.getD s9.toNat (0,0,0,0,0,0,0)).1,(r2.getD s9.toNat (0,0,0,0,0,0,0)).2.1,(r2.getD s9.toNat (0,0,0,0,0,0,0)).2.2.1,(r2.getD s9.toNat (0,0,0,0,0,0,0)).2.2.2.1,(r2.getD s9.toNat (0,0,0,0,0,0,0)).2.2.2.2.1,(r2.getD s9.toNat (0,0,0,0,0,0,0)).2.2.2.2.2.1,(r2.getD s9.toNat (0,0,0,0,0,0,0)).2.2.2.2.2.2))
    else none)
   else rec (zA (s9+1)) aa af ag ae aw az aA aD aJ aK aL r2)
  else none)
 else some (.inl (aw,az,aA,aD,aJ,aK,aL))
def Gw (k:Nat):Nat→V4
 |0,_,_,_,_,_,_,_,_,_,_,_,_,_=>none
 |n+1,s9,aa,af,ag,ae,aw,az,aA,aD,aJ,aK,aL,r2=>Cv k (Gw k n) s9 aa af ag ae aw az aA aD aJ aK aL r2
def KC (k:Nat)(ab:List zO)(ar:List (List Int))(aq:List Int)(an:List (List Int))(a1:List zD)(a2:Int):Option (Int×Int×Int×Int×Int×Int×Int×Bool):=
 (Fo k a1 a2).bind fun x0=>
 (Gw k k 0 ab ar aq an 0 0 0 0 0 0 0 x0).bind fun z=>
 match z with
 |.inl z1=>some (0,0,0,0,0,0,0,false)
 |.inr z2=>some (qVf z2 z2.1)
abbrev V6:Type:=List Int→List Int→Int→Option (Unit⊕Bool)
def zo (k:Nat)(rec:V6)(s0 s1:List Int)(s5:Int):Option (Unit⊕Bool):=
 bif decide (s5 < (s0.length : Int)) then (bif zE s5 s0.length then (bif zE s5 s1.length then (bif !(decide ((s0.getD s5.toNat 0)=(s1.getD s5.toNat 0))) then some (.inr false)
    else rec s0 s1 (zA (s5+1)))
   else none)
  else none)
 else some (.inl ())
def ER (k:Nat):Nat→V6
 |0,_,_,_=>none
 |n+1,s0,s1,s5=>zo k (ER k n) s0 s1 s5
def pK (k:Nat)(a0 a1:List Int):Option Bool:=
 bif !(decide ((a0.length:Int)=(a1.length:Int))) then some false
 else(ER k k a0 a1 0).bind fun z=>
 match z with
 |.inl z1=>some true
 |.inr z2=>some z2
abbrev Wa:Type:=List (List Int)→List (List Int)→Int→Option (Unit⊕Bool)
def zp (k:Nat)(rec:Wa)(s0 s1:List (List Int))(s5:Int):Option (Unit⊕Bool):=
 bif decide (s5 < (s0.length : Int)) then (bif zE s5 s0.length then (bif zE s5 s1.length then ((pK k (s0.getD s5.toNat []) (s1.getD s5.toNat [])).bind fun x0=>
    bif !x0 then some (.inr false)
    else rec s0 s1 (zA (s5+1)))
   else none)
  else none)
 else some (.inl ())
def ES (k:Nat):Nat→Wa
 |0,_,_,_=>none
 |n+1,s0,s1,s5=>zp k (ES k n) s0 s1 s5
def u9 (k:Nat)(a0 a1:List (List Int)):Option Bool:=
 bif !(decide ((a0.length:Int)=(a1.length:Int))) then some false
 else(ES k k a0 a1 0).bind fun z=>
 match z with
 |.inl z1=>some true
 |.inr z2=>some z2
abbrev Wc:Type:=Int→List zO→List (List Int)→List Int→List (List Int)→List zO→List (List Int)→List Int→List (List Int)→Option (Unit⊕Bool)
def zq (k:Nat)(rec:Wc)(s5:Int)(aa:List zO)(af:List (List Int))(ag:List Int)(ae:List (List Int))(aw:List zO)(az:List (List Int))(aA:List Int)(aD:List (List Int)):Option (Unit⊕Bool):=
 bif decide (s5 < (aa.length : Int)) then (bif zE s5 aa.length then (bif zE s5 aw.length then (bif !((decide ((aa.getD s5.toNat (0,0,0)).1=(aw.getD s5.toNat (0,0,0)).1))&&((decide ((aa.getD s5.toNat (0,0,0)).2.1=(aw.getD s5.toNat (0,0,0)).2.1))&&(decide ((aa.getD s5.toNat (0,0,0)).2.2=(aw.getD s5.toNat (0,0,0)).2.2)))) then some (.inr false)
    else rec (zA (s5+1)) aa af ag ae aw az aA aD)
   else none)
  else none)
 else some (.inl ())
def EU (k:Nat):Nat→Wc
 |0,_,_,_,_,_,_,_,_,_=>none
 |n+1,s5,aa,af,ag,ae,aw,az,aA,aD=>zq k (EU k n) s5 aa af ag ae aw az aA aD
def ET (k:Nat)(ab:List zO)(ar:List (List Int))(aq:List Int)(an:List (List Int))(aX:List zO)(dQ:List (List Int))(dR:List Int)(dU:List (List Int)):Option Bool:=
 bif !(decide ((ab.length:Int)=(aX.length:Int))) then some false
 else(u9 k ar dQ).bind fun x0=>
 bif !x0 then some false
 else(u9 k an dU).bind fun x1=>
 bif !x1 then some false
 else(pK k aq dR).bind fun x2=>
 bif !x2 then some false
 else(EU k k 0 ab ar aq an aX dQ dR dU).bind fun z=>
 match z with
 |.inl z1=>some true
 |.inr z2=>some z2
abbrev We:Type:=List zD→List zD→Int→Option (Unit⊕Bool)
def CQ (k:Nat)(rec:We)(s0 s1:List zD)(s5:Int):Option (Unit⊕Bool):=
 bif decide (s5 < (s0.length : Int)) then (bif zE s5 s0.length then (bif zE s5 s1.length then (bif !((decide ((s0.getD s5.toNat (0,0,0,0,0,0,0)).1=(s1.getD s5.toNat (0,0,0,0,0,0,0)).1))&&((decide ((s0.getD s5.toNat (0,0,0,0,0,0,0)).2.1=(s1.getD s5.toNat (0,0,0,0,0,0,0)).2.1))&&((decide ((s0.getD s5.toNat (0,0,0,0,0,0,0)).2.2.1=(s1.getD s5.toNat (0,0,0,0,0,0,0)).2.2.1))&&((decide ((s0.getD s5.toNat (0,0,0,0,0,0,0)).2.2.2.1=(s1.getD s5.toNat (0,0,0,0,0,0,0)).2.2.2.1))&&((decide ((s0.getD s5.toNat (0,0,0,0,0,0,0)).2.2.2.2.1=(s1.getD s5.toNat (0,0,0,0,0,0,0)).2.2.2.2.1))&&((decide ((s0.getD s5.toNat (0,0,0,0,0,0,0)).2.2.2.2.2.1=(s1.getD s5.toNat (0,0,0,0,0,0,0)).2.2.2.2.2.1))&&(decide ((s0.getD s5.toNat (0,0,0,0,0,0,0)).2.2.2.2.2.2=(s1.getD s5.toNat (0,0,0,0,0,0,0)).2.2.2.2.2.2)))))))) then some (.inr false)
    else rec s0 s1 (zA (s5+1)))
   else none)
  else none)
 else some (.inl ())
def GQ (k:Nat):Nat→We
 |0,_,_,_=>none
 |n+1,s0,s1,s5=>CQ k (GQ k n) s0 s1 s5
def GP (k:Nat)(a0 a1:List zD):Option Bool:=
 bif !(decide ((a0.length:Int)=(a1.length:Int))) then some false
 else(GQ k k a0 a1 0).bind fun z=>
 match z with
 |.inl z1=>some true
 |.inr z2=>some z2
def KX (k:Nat)(a0 a1:vW):Option Bool:=
 bif decide (a0.1 = a1.1) then (bif decide (a0.2.2.2.2.2.2.2.2.2.1 = a1.2.2.2.2.2.2.2.2.2.1) then (bif la a0.2.2.2.2.2.2.2.2.2.2 a1.2.2.2.2.2.2.2.2.2.2 then ((ET k a0.2.1 a0.2.2.1 a0.2.2.2.1 a0.2.2.2.2.1 a1.2.1 a1.2.2.1 a1.2.2.2.1 a1.2.2.2.2.1).bind fun x0=>
    bif x0 then ((pK k a0.2.2.2.2.2.1 a1.2.2.2.2.2.1).bind fun x1=>
     bif x1 then ((u9 k a0.2.2.2.2.2.2.1 a1.2.2.2.2.2.2.1).bind fun x2=>
      bif x2 then ((GP k a0.2.2.2.2.2.2.2.1 a1.2.2.2.2.2.2.2.1).bind fun x3=>
       bif x3 then ((pK k a0.2.2.2.2.2.2.2.2.1 a1.2.2.2.2.2.2.2.2.1).bind fun x4=>
        some x4)
       else some false)
      else some false)
     else some false)
    else some false)
   else some false)
  else some false)
 else some false
abbrev Wh:Type:=Int→Int→Int→List Int→Option (List Int)
def yWn (k:Nat)(rec:Wh)(s0 s1 s6:Int)(r0:List Int):Option (List Int):=
 bif decide (s6 < s0) then (bif zE s6 r0.length then(rec s0 s1 (zA (s6+1)) (r0.set s6.toNat s1))
  else none)
 else some r0
def MB (k:Nat):Nat→Wh
 |0,_,_,_,_=>none
 |n+1,s0,s1,s6,r0=>yWn k (MB k n) s0 s1 s6 r0
def Wk (k:Nat)(a0 a1:Int):Option (List Int):=
 bif decide (a0<0) then some []
 else bif decide (a0>6) then some []
 else bif pB a0 a0 8 then ((MB k k a0 a1 0 (List.replicate a0.toNat (0:Int))).bind fun z=>
  some z)
 else none
abbrev Wl:Type:=Int→Int→Int→List (List Int)→Option (List (List Int))
def qV7 (k:Nat)(rec:Wl)(s0 s1 s6:Int)(m0:List (List Int)):Option (List (List Int)):=
 bif decide (s6 < s0) then ((Wk k s0 s1).bind fun x0=>
  bif zW (m0.length+1) 24 then(rec s0 s1 (zA (s6+1)) (m0++[x0]))
  else none)
 else some m0
def MC (k:Nat):Nat→Wl
 |0,_,_,_,_=>none
 |n+1,s0,s1,s6,m0=>qV7 k (MC k n) s0 s1 s6 m0
def Wn (k:Nat)(a0 a1:Int):Option (List (List Int)):=
 bif decide (a0<0) then some []
 else bif decide (a0>6) then some []
 else(MC k k a0 a1 0 []).bind fun z=>
 some z
abbrev MD:Type:=Int×vH×wP×wP×(List zO)×(List (List Int))×(List Int)×(List (List Int))×(List Int)
abbrev Wo:Type:=Int→Int→vH→wP→wP→List zO→List (List Int)→List Int→List (List Int)→List Int→Option MD
def qY3 (k:Nat)(rec:Wo)(s3 s5:Int)(b0:vH)(b1 b2:wP)(r3:List zO)(m4:List (List Int))(r5:List Int)(m6:List (List Int))(r7:List Int):Option MD:=
 bif decide (s5 < (b0.2.1.length : Int)) then (bif zE s5 b0.2.1.length then (bif zW (r7.length+1) 8 then(rec s3 (zA (s5+1)) b0 b1 b2 r3 m4 r5 m6 (r7++[(b0.2.1.getD s5.toNat (0,0)).1]))
   else none)
  else none)
 else some (s3,b0,b1,b2,r3,m4,r5,m6,r7)
def Wp (k:Nat):Nat→Wo:=vY (fun _ _ _ _ _ _ _ _ _ _=>none) (qY3 k)
abbrev MF:Type:=wP×wP×(List zO)×(List (List Int))×(List Int)×(List (List Int))×(List Int)×(List (List Int))
abbrev Wq:Type:=Int→Int→vH→wP→wP→List zO→List (List Int)→List Int→List (List Int)→List Int→List (List Int)→Option MF
def qYy (k:Nat)(rec:Wq)(s3 s6:Int)(b0:vH)(b1 b2:wP)(r3:List zO)(m4:List (List Int))(r5:List Int)(m6:List (List Int))(r7:List Int)(m8:List (List Int)):Option MF:=
 bif decide (s6 < s3) then (bif pB (b0.2.1.length : Int) (b0.2.1.length : Int) 8 then (bif zW (m8.length+1) 24 then(rec s3 (zA (s6+1)) b0 b1 b2 r3 m4 r5 m6 r7 (m8++[(List.replicate b0.2.1.length (0:Int))]))
   else none)
  else none)
 else some (b1,b2,r3,m4,r5,m6,r7,m8)
def Wr (k:Nat):Nat→Wq:=vY (fun _ _ _ _ _ _ _ _ _ _ _=>none) (qYy k)
def R3 (k:Nat)(a0:vH):Option vW:=
 bif pB a0.1 a0.1 24 then ((Wn k a0.1 (-1)).bind fun x0=>
  (Wk k a0.1 (-1)).bind fun x1=>
  (Wn k a0.1 0).bind fun x2=>
  (Wp k k a0.1 0 a0 (0,0,false) (0,0,false) (List.replicate a0.1.toNat ((0,0,0):Int×Int×Int)) x0 x1 x2 []).bind fun z=>
  (Wr k k z.1 0 z.2.1 z.2.2.1 z.2.2.2.1 z.2.2.2.2.1 z.2.2.2.2.2.1 z.2.2.2.2.2.2.1 z.2.2.2.2.2.2.2.1 z.2.2.2.2.2.2.2.2 []).bind fun z1=>
  some (z1.2.1.1,(ySm z1 ([],[],z1.2.1.2))))
 else none
def KM (k:Nat)(a0:Int):Option Bool:=
 bif decide (a0≥1) then some (decide (a0≤14))
 else some false
def R0 (k:Nat)(a0:Int):Option Int:=
 bif decide (a0<0) then some (-1)
 else bif decide (a0≥24) then some (-1)
 else bif zE a0 24 then some (List.getD [(-1),6,1,2,2,2,1,1,2,0,2,2,2,0,0,0,1,5,4,1,1,1,1,1] a0.toNat 0)
 else none
abbrev Wu:Type:=Int→Int→zD→Option (Int⊕Bool)
def RZ (k:Nat)(rec:Wu)(s3 s4:Int)(b0:zD):Option (Int⊕Bool):=
 bif decide (s4 < 6) then (bif decide (s4 = 0) then (bif !(decide (b0.2.1=0)) then some (.inr false)
   else rec s3 (zA (s4+1)) b0)
  else bif decide (s4 = 1) then (bif !(decide (b0.2.2.1=0)) then some (.inr false)
   else rec s3 (zA (s4+1)) b0)
  else bif decide (s4 = 2) then (bif !(decide (b0.2.2.2.1=0)) then some (.inr false)
   else rec s3 (zA (s4+1)) b0)
  else bif decide (s4 = 3) then (bif !(decide (b0.2.2.2.2.1=0)) then some (.inr false)
   else rec s3 (zA (s4+1)) b0)
  else bif decide (s4 = 4) then (bif !(decide (b0.2.2.2.2.2.1=0)) then some (.inr false)
   else rec s3 (zA (s4+1)) b0)
  else bif decide (s4 = 5) then (bif !(decide (b0.2.2.2.2.2.2=0)) then some (.inr false)
   else rec s3 (zA (s4+1)) b0)
  else none)
 else some (.inl s3)
def CN (k:Nat):Nat→Wu:=vY (fun _ _ _=>none) (RZ k)
def CO (k:Nat)(a0:zD):Option Bool:=
 (R0 k a0.1).bind fun x0=>
 (CN k k x0 (sm false x0 0) a0).bind fun z=>
 match z with
 |.inl z1=>some (decide (z1≥0))
 |.inr z2=>some z2
def KN (k:Nat)(a0:Int):Option Bool:=
 bif decide (a0≥10) then some (decide (a0≤14))
 else some false
def xc (k:Nat)(a0:vH)(a1:qY):Option Bool:=
 (KM k a1.2.1).bind fun x0=>
 bif !x0 then some false
 else(CO k a1.2).bind fun x1=>
 bif !x1 then some false
 else(KN k a1.2.1).bind fun x2=>
 bif x2 then some (decide (a1.1=(-1)))
 else bif decide (a1.1≥0) then some (decide (a1.1<a0.1))
 else some false
def KJ (k:Nat)(a0:vH)(a1:Int):Option Bool:=
 some (decide (a1=a0.2.2.2.1))
def RT (k:Nat)(cj ay bC aI aE aN aS a1:Int):Option Bool:=
 some (decide (a1>aS))
abbrev Ww:Type:=List zD→Int→Int→Option (Unit⊕Int)
def AP (k:Nat)(rec:Ww)(s0:List zD)(s1 s5:Int):Option (Unit⊕Int):=
 bif decide (s5 < (s0.length : Int)) then (bif zE s5 s0.length then (bif decide ((s0.getD s5.toNat (0,0,0,0,0,0,0)).1=s1) then some (.inr s5)
   else rec s0 s1 (zA (s5+1)))
  else none)
 else some (.inl ())
def AO (k:Nat):Nat→Ww
 |0,_,_,_=>none
 |n+1,s0,s1,s5=>AP k (AO k n) s0 s1 s5
def kO (k:Nat)(a0:List zD)(a1:Int):Option Int:=
 (AO k k a0 a1 0).bind fun z=>
 match z with
 |.inl z1=>some (-1)
 |.inr z2=>some z2
def lM (k:Nat)(a0:List zD)(a1:Int):Option X3:=
 (kO k a0 a1).bind fun x0=>
 bif decide (x0<0) then some (a0,0,0,0,0,0,0,0,4)
 else bif (decide (0 ≤ x0)) && (decide (x0 ≤ (a0.length : Int))) then (bif zW (0 + (List.take x0.toNat a0).length) 56 then (bif (decide (0 ≤ (zA (x0 + 1)))) && (decide ((zA (x0 + 1)) ≤ (a0.length : Int))) then (bif zW ((List.take x0.toNat a0).length + (List.drop (zA (x0 + 1)).toNat a0).length) 56 then (bif zE x0 a0.length then some (((List.take x0.toNat a0)++(List.drop (zA (x0+1)).toNat a0)),(gi (a0.getD x0.toNat (0,0,0,0,0,0,0)) 0))
     else none)
    else none)
   else none)
  else none)
 else none
def GJ (k:Nat)(a0:vH)(a1:Int):Option Bool:=
 bif decide (a1 > 0) then (bif decide (a1 < a0.2.2.2.1) then (bif !(decide (a0.2.2.2.2=0)) then some (decide ((Int.tmod a1 a0.2.2.2.2)=0))
   else none)
  else some false)
 else some false
abbrev MI:Type:=(List zD)×(List zO)×(List (List Int))×(List Int)×(List (List Int))×(List zD)
abbrev Wy:Type:=List zD→Int→List zO→List (List Int)→List Int→List (List Int)→List zD→Option MI
def Cw (k:Nat)(rec:Wy)(s1:List zD)(s2:Int)(aa:List zO)(af:List (List Int))(ag:List Int)(ae:List (List Int))(r2:List zD):Option MI:=
 (KC k aa af ag ae s1 s2).bind fun x0=>
 bif !x0.2.2.2.2.2.2.2 then some (s1,aa,af,ag,ae,r2)
 else(qn k aa af ag ae [(wI x0)]).bind fun x1=>
 (lM k s1 x0.1).bind fun x2=>
 bif zW (r2.length + 1) 56 then (let y0:List zD:=(r2++[(wI x0)])
  rec x2.1 s2 x1.1 x1.2.1 x1.2.2.1 x1.2.2.2.1 y0)
 else none
def Gx (k:Nat):Nat→Wy
 |0,_,_,_,_,_,_,_=>none
 |n+1,s1,s2,aa,af,ag,ae,r2=>Cw k (Gx k n) s1 s2 aa af ag ae r2
def KD (k:Nat)(ab:List zO)(ar:List (List Int))(aq:List Int)(an:List (List Int))(a1:List zD)(a2:Int):Option oO:=
 (Gx k k a1 a2 ab ar aq an []).bind fun z=>
 some (gm z (z.1,z.2.2.2.2.2))
abbrev MJ:Type:=(Int×(List zO)×(List (List Int))×(List Int)×(List (List Int))×Int×Int×Int×Int×Int×Int×Int×Int×Int×Int×Int×Int×Int×Int×(List zD))⊕(Bool×Int×Int×Int×Int×Int×Int×Int×Int×Int×Int×Int×Int×Int×Int)
abbrev WA:Type:=Int→Int→List zO→List (List Int)→List Int→List (List Int)→Int→Int→Int→Int→Int→Int→Int→Int→Int→Int→Int→Int→Int→Int→List zD→Option MJ
def Cx (k:Nat)(rec:WA)(ax bo:Int)(aa:List zO)(af:List (List Int))(ag:List Int)(ae:List (List Int))(aw az aA aD aJ aK aL bg bZ ca cY eJ eK eL:Int)(r3:List zD):Option MJ:=
 bif decide (bo < (r3.length : Int)) then (bif zE ax r3.length then (bif zE bo r3.length then (bif !(decide ((r3.getD bo.toNat (0,0,0,0,0,0,0)).2.1=(r3.getD ax.toNat (0,0,0,0,0,0,0)).2.2.1)) then(rec ax (zA (bo+1)) aa af ag ae aw az aA aD aJ aK aL bg bZ ca cY eJ eK eL r3)
    else bif !(decide ((r3.getD bo.toNat (0,0,0,0,0,0,0)).2.2.1=(r3.getD ax.toNat (0,0,0,0,0,0,0)).2.1)) then(rec ax (zA (bo+1)) aa af ag ae aw az aA aD aJ aK aL bg bZ ca cY eJ eK eL r3)
    else bif decide ((r3.getD ax.toNat (0,0,0,0,0,0,0)).2.1≥(r3.getD bo.toNat (0,0,0,0,0,0,0)).2.1) then(rec ax (zA (bo+1)) aa af ag ae aw az aA aD aJ aK aL bg bZ ca cY eJ eK eL r3)
    else(qn k aa af ag ae [(r3.getD ax.toNat (0,0,0,0,0,0,0)),(r3.getD bo.toNat (0,0,0,0,0,0,0))]).bind fun x1=>
    bif x1.2.2.2.2 then some (.inr (true,(gi (r3.getD ax.toNat (0,0,0,0,0,0,0)) ((r3.getD bo.toNat (0,0,0,0,0,0,0)).1,(r3.getD bo.toNat (0,0,0,0,0,0,0)).2.1,(r3.getD bo.toNat (0,0,0,0,0,0,0)).2.2.1,(r3.getD bo.toNat (0,0,0,0,0,0,0)).2.2.2.1,(r3.getD bo.toNat (0,0,0,0,0,0,0)).2.2.2.2.1,(r3.getD bo.toNat (0,0,0,0,0,0,0)).2.2.2.2.2.1,(r3.getD bo.toNat (0,0,0,0,0,0,0)).2.2.2.2.2.2))))
    else rec ax (zA (bo+1)) aa af ag ae aw az aA aD aJ aK aL bg bZ ca cY eJ eK eL r3)
   else none)
  else none)
 else some (.inl (ax,aa,af,ag,ae,aw,az,aA,aD,aJ,aK,aL,bg,bZ,ca,cY,eJ,eK,eL,r3))
def Gz (k:Nat):Nat→WA
 |0,_,_,_,_,_,_,_,_,_,_,_,_,_,_,_,_,_,_,_,_,_=>none
 |n+1,ax,bo,aa,af,ag,ae,aw,az,aA,aD,aJ,aK,aL,bg,bZ,ca,cY,eJ,eK,eL,r3=>Cx k (Gz k n) ax bo aa af ag ae aw az aA aD aJ aK aL bg bZ ca cY eJ eK eL r3
abbrev MK:Type:=(Int×Int×Int×Int×Int×Int×Int×Int×Int×Int×Int×Int×Int×Int)⊕(Bool×Int×Int×Int×Int×Int×Int×Int×Int×Int×Int×Int×Int×Int×Int)
abbrev WC:Type:=Int→List zO→List (List Int)→List Int→List (List Int)→Int→Int→Int→Int→Int→Int→Int→Int→Int→Int→Int→Int→Int→Int→List zD→Option MK
def Cy (k:Nat)(rec:WC)(ax:Int)(aa:List zO)(af:List (List Int))(ag:List Int)(ae:List (List Int))(aw az aA aD aJ aK aL bg bZ ca cY eJ eK eL:Int)(r3:List zD):Option MK:=
 bif decide (ax < (r3.length : Int)) then ((Gz k k ax 0 aa af ag ae aw az aA aD aJ aK aL bg bZ ca cY eJ eK eL r3).bind fun z=>
  match z with
  |.inl z1=>rec (zA (z1.1+1)) z1.2.1 z1.2.2.1 z1.2.2.2.1 z1.2.2.2.2.1 z1.2.2.2.2.2.1 z1.2.2.2.2.2.2.1 z1.2.2.2.2.2.2.2.1 z1.2.2.2.2.2.2.2.2.1 z1.2.2.2.2.2.2.2.2.2.1 z1.2.2.2.2.2.2.2.2.2.2.1 z1.2.2.2.2.2.2.2.2.2.2.2.1 z1.2.2.2.2.2.2.2.2.2.2.2.2.1 z1.2.2.2.2.2.2.2.2.2.2.2.2.2.1 z1.2.2.2.2.2.2.2.2.2.2.2.2.2.2.1 z1.2.2.2.2.2.2.2.2.2.2.2.2.2.2.2.1 z1.2.2.2.2.2.2.2.2.2.2.2.2.2.2.2.2.1 z1.2.2.2.2.2.2.2.2.2.2.2.2.2.2.2.2.2.1 z1.2.2.2.2.2.2.2.2.2.2.2.2.2.2.2.2.2.2.1 z1.2.2.2.2.2.2.2.2.2.2.2.2.2.2.2.2.2.2.2
  |.inr z2=>some (.inr (z2.1,z2.2.1,z2.2.2.1,z2.2.2.2.1,z2.2.2.2.2.1,z2.2.2.2.2.2.1,z2.2.2.2.2.2.2.1,z2.2.2.2.2.2.2.2.1,z2.2.2.2.2.2.2.2.2.1,z2.2.2.2.2.2.2.2.2.2.1,z2.2.2.2.2.2.2.2.2.2.2.1,z2.2.2.2.2.2.2.2.2.2.2.2.1,z2.2.2.2.2.2.2.2.2.2.2.2.2.1,z2.2.2.2.2.2.2.2.2.2.2.2.2.2.1,z2.2.2.2.2.2.2.2.2.2.2.2.2.2.2)))
 else some (.inl (aw,az,aA,aD,aJ,aK,aL,bg,bZ,ca,cY,eJ,eK,eL))
def GA (k:Nat):Nat→WC
 |0,_,_,_,_,_,_,_,_,_,_,_,_,_,_,_,_,_,_,_,_=>none
 |n+1,ax,aa,af,ag,ae,aw,az,aA,aD,aJ,aK,aL,bg,bZ,ca,cY,eJ,eK,eL,r3=>Cy k (GA k n) ax aa af ag ae aw az aA aD aJ aK aL bg bZ ca cY eJ eK eL r3
def KE (k:Nat)(ab:List zO)(ar:List (List Int))(aq:List Int)(an:List (List Int))(a1:List zD)(a2:Int):Option (Int×Int×Int×Int×Int×Int×Int×Int×Int×Int×Int×Int×Int×Int×Bool):=
 (Fo k a1 a2).bind fun x0=>
 (GA k k 0 ab ar aq an 0 0 0 0 0 0 0 0 0 0 0 0 0 0 x0).bind fun z3=>
 match z3 with
 |.inl z4=>some (0,0,0,0,0,0,0,0,0,0,0,0,0,0,false)
 |.inr z5=>some (vFh z5 z5.1)
abbrev ML:Type:=(List zD)×(List zO)×(List (List Int))×(List Int)×(List (List Int))×(List zD)
abbrev WH:Type:=List zD→Int→List zO→List (List Int)→List Int→List (List Int)→List zD→Option ML
def Cz (k:Nat)(rec:WH)(s1:List zD)(s2:Int)(aa:List zO)(af:List (List Int))(ag:List Int)(ae:List (List Int))(r2:List zD):Option ML:=
 (KE k aa af ag ae s1 s2).bind fun x0=>
 bif !x0.2.2.2.2.2.2.2.2.2.2.2.2.2.2 then some (s1,aa,af,ag,ae,r2)
 else(qn k aa af ag ae [(wI x0),(X6 x0)]).bind fun x1=>
 (lM k s1 x0.1).bind fun x2=>
 (lM k x2.1 x0.2.2.2.2.2.2.2.1).bind fun x3=>
 bif zW (r2.length + 2) 56 then (let y0:List zD:=(r2++[(wI x0),(X6 x0)])
  rec x3.1 s2 x1.1 x1.2.1 x1.2.2.1 x1.2.2.2.1 y0)
 else none
def GB (k:Nat):Nat→WH
 |0,_,_,_,_,_,_,_=>none
 |n+1,s1,s2,aa,af,ag,ae,r2=>Cz k (GB k n) s1 s2 aa af ag ae r2
def KF (k:Nat)(ab:List zO)(ar:List (List Int))(aq:List Int)(an:List (List Int))(a1:List zD)(a2:Int):Option oO:=
 (GB k k a1 a2 ab ar aq an []).bind fun z=>
 some (gm z (z.1,z.2.2.2.2.2))
abbrev MM:Type:=(List zD)×(List zO)×(List (List Int))×(List Int)×(List (List Int))×(List zD)
abbrev WJ:Type:=List zD→Int→List zO→List (List Int)→List Int→List (List Int)→List zD→Option MM
def CI (k:Nat)(rec:WJ)(s1:List zD)(s2:Int)(aa:List zO)(af:List (List Int))(ag:List Int)(ae:List (List Int))(r2:List zD):Option MM:=
 (KD k aa af ag ae s1 s2).bind fun x0=>
 (KF k x0.1 x0.2.1 x0.2.2.1 x0.2.2.2.1 x0.2.2.2.2.1 s2).bind fun x1=>
 bif zW (r2.length + x0.2.2.2.2.2.length) 56 then (bif zW ((r2 ++ x0.2.2.2.2.2).length + x1.2.2.2.2.2.length) 56 then (let y0:List zD:=((r2++x0.2.2.2.2.2)++x1.2.2.2.2.2)
   bif decide ((x1.2.2.2.2.2.length:Int)=0) then some (x1.2.2.2.2.1,(vO x1 y0))
   else rec x1.2.2.2.2.1 s2 x1.1 x1.2.1 x1.2.2.1 x1.2.2.2.1 y0)
  else none)
 else none
def GG (k:Nat):Nat→WJ
 |0,_,_,_,_,_,_,_=>none
 |n+1,s1,s2,aa,af,ag,ae,r2=>CI k (GG k n) s1 s2 aa af ag ae r2
def GH (k:Nat)(ab:List zO)(ar:List (List Int))(aq:List Int)(an:List (List Int))(a1:List zD)(a2:Int):Option oO:=
 (GG k k a1 a2 ab ar aq an []).bind fun z=>
 some (gm z (z.1,z.2.2.2.2.2))
abbrev MN:Type:=List zD
abbrev WL:Type:=List zD→List Int→Int→List zD→Option MN
def CC (k:Nat)(rec:WL)(s0:List zD)(s1:List Int)(s6:Int)(r0:List zD):Option MN:=
 bif decide (s6 < (s0.length : Int)) then (bif (decide (0 ≤ s6)) && (decide (s6 ≤ (s0.length : Int))) then (bif zE s6 s0.length then ((pO k (List.take s6.toNat s0) (s0.getD s6.toNat (0,0,0,0,0,0,0)).2.1).bind fun x0=>
    bif zE s6 s0.length then (bif decide ((s0.getD s6.toNat (0, 0, 0, 0, 0, 0, 0)).2.1 ≥ 0) then (bif zE s6 s0.length then (bif decide ((s0.getD s6.toNat (0, 0, 0, 0, 0, 0, 0)).2.1 < (s1.length : Int)) then (bif zE s6 s0.length then (bif zE (s0.getD s6.toNat (0, 0, 0, 0, 0, 0, 0)).2.1 s1.length then (bif decide ((x0.length : Int) < (s1.getD (s0.getD s6.toNat (0, 0, 0, 0, 0, 0, 0)).2.1.toNat 0)) then (bif zE s6 s0.length then (bif zW (r0.length + 1) 56 then (let y0:List zD:=(r0++[(s0.getD s6.toNat (0,0,0,0,0,0,0))])
             rec s0 s1 (zA (s6+1)) y0)
            else none)
           else none)
          else rec s0 s1 (zA (s6+1)) r0)
         else none)
        else none)
       else rec s0 s1 (zA (s6+1)) r0)
      else none)
     else rec s0 s1 (zA (s6+1)) r0)
    else none)
   else none)
  else none)
 else some r0
def CB (k:Nat):Nat→WL
 |0,_,_,_,_=>none
 |n+1,s0,s1,s6,r0=>CC k (CB k n) s0 s1 s6 r0
def CA (k:Nat)(a0:List zD)(a1:List Int):Option (List zD):=
 (CB k k a0 a1 0 []).bind fun z=>
 some z
abbrev MO:Type:=(List zO)×(List (List Int))×(List Int)×(List (List Int))×(List zD)×(List Int)
abbrev WO:Type:=Int→List zO→List (List Int)→List Int→List (List Int)→List zD→List Int→Option MO
def CD (k:Nat)(rec:WO)(ax:Int)(aa:List zO)(af:List (List Int))(ag:List Int)(ae:List (List Int))(r1:List zD)(r2:List Int):Option MO:=
 bif decide (ax < (aa.length : Int)) then ((pO k r1 ax).bind fun x1=>
  bif zW (r2.length+1) 8 then(rec (zA (ax+1)) aa af ag ae r1 (r2++[(x1.length:Int)]))
  else none)
 else some (aa,af,ag,ae,r1,r2)
def w9 (k:Nat):Nat→WO
 |0,_,_,_,_,_,_,_=>none
 |n+1,ax,aa,af,ag,ae,r1,r2=>CD k (w9 k n) ax aa af ag ae r1 r2
abbrev MQ:Type:=Int×(List zO)×(List (List Int))×(List Int)×(List (List Int))×(List zD)×(List Int)
abbrev WQ:Type:=Int→Int→List zO→List (List Int)→List Int→List (List Int)→List zD→List Int→List Int→Option MQ
def CF (k:Nat)(rec:WQ)(bo bV:Int)(aa:List zO)(af:List (List Int))(ag:List Int)(ae:List (List Int))(r1:List zD)(r2 r3:List Int):Option MQ:=
 bif decide (bV < (r3.length : Int)) then (bif zE bV r3.length then (bif zE (r3.getD bV.toNat 0) r2.length then (bif zE (r3.getD bV.toNat 0) r2.length then (let y0:List Int:=(r2.set (r3.getD bV.toNat 0).toNat (zA ((r2.getD (r3.getD bV.toNat 0).toNat 0)-1)))
     rec bo (zA (bV+1)) aa af ag ae r1 y0 r3)
    else none)
   else none)
  else none)
 else some (bo,aa,af,ag,ae,r1,r2)
def CE (k:Nat):Nat→WQ
 |0,_,_,_,_,_,_,_,_,_=>none
 |n+1,bo,bV,aa,af,ag,ae,r1,r2,r3=>CF k (CE k n) bo bV aa af ag ae r1 r2 r3
abbrev WS:Type:=Int→List zO→List (List Int)→List Int→List (List Int)→List zD→List Int→Option (Int×(List Int))
def CG (k:Nat)(rec:WS)(bo:Int)(aa:List zO)(af:List (List Int))(ag:List Int)(ae:List (List Int))(r1:List zD)(r2:List Int):Option (Int×(List Int)):=
 (CA k r1 r2).bind fun x2=>
 (pM k aa af ag ae x2).bind fun x3=>
 bif decide ((x3.length:Int)=0) then some (bo,r2)
 else(CE k k bo 0 aa af ag ae r1 r2 x3).bind fun z1=>
 rec (zA (z1.1+1)) z1.2.1 z1.2.2.1 z1.2.2.2.1 z1.2.2.2.2.1 z1.2.2.2.2.2.1 z1.2.2.2.2.2.2
def GC (k:Nat):Nat→WS
 |0,_,_,_,_,_,_,_=>none
 |n+1,bo,aa,af,ag,ae,r1,r2=>CG k (GC k n) bo aa af ag ae r1 r2
def KG (k:Nat)(ab:List zO)(ar:List (List Int))(aq:List Int)(an:List (List Int))(a1:List zD)(a2:Int):Option ((List Int)×Int):=
 (AE k a1 a2).bind fun x0=>
 (w9 k k 0 ab ar aq an x0 []).bind fun z=>
 (GC k k 1 z.1 z.2.1 z.2.2.1 z.2.2.2.1 z.2.2.2.2.1 z.2.2.2.2.2).bind fun z2=>
 some (z2.2,z2.1)
abbrev MV:Type:=(List zD)×(List zD)×(List zO)×(List (List Int))×(List Int)×(List (List Int))
abbrev WT:Type:=List zD→Int→List zD→List zO→List (List Int)→List Int→List (List Int)→Option MV
def CH (k:Nat)(rec:WT)(s1:List zD)(bE:Int)(r1:List zD)(bg:List zO)(bZ:List (List Int))(ca:List Int)(cY:List (List Int)):Option MV:=
 bif decide (bE < (r1.length : Int)) then (bif zE bE r1.length then ((lM k s1 (r1.getD bE.toNat (0,0,0,0,0,0,0)).1).bind fun x4=>
   rec x4.1 (zA (bE+1)) r1 bg bZ ca cY)
  else none)
 else some (s1,r1,bg,bZ,ca,cY)
def xa (k:Nat):Nat→WT
 |0,_,_,_,_,_,_,_=>none
 |n+1,s1,bE,r1,bg,bZ,ca,cY=>CH k (xa k n) s1 bE r1 bg bZ ca cY
def GD (k:Nat)(ab:List zO)(ar:List (List Int))(aq:List Int)(an:List (List Int))(a1:List zD)(a2:Int):Option oO:=
 (KG k ab ar aq an a1 a2).bind fun x0=>
 (AE k a1 a2).bind fun x1=>
 (CA k x1 x0.1).bind fun x2=>
 (vf k ab ar aq an x2).bind fun x3=>
 bif !(decide (x3.2.2.2.2=0)) then some (ab,ar,aq,an,a1,[])
 else(xa k k a1 0 x2 x3.1 x3.2.1 x3.2.2.1 x3.2.2.2.1).bind fun z=>
 some (wi z (z.1,z.2.1))
def KH (k:Nat)(ab:List zO)(ar:List (List Int))(aq:List Int)(an:List (List Int))(a1:List zD)(a2:Int)(a3:Bool):Option oO:=
 (GH k ab ar aq an a1 a2).bind fun x0=>
 bif !a3 then some (x0.1,x0.2.1,x0.2.2.1,x0.2.2.2.1,x0.2.2.2.2.1,x0.2.2.2.2.2)
 else(GD k x0.1 x0.2.1 x0.2.2.1 x0.2.2.2.1 x0.2.2.2.2.1 a2).bind fun x1=>
 bif decide ((x1.2.2.2.2.2.length:Int)=0) then some (x0.1,x0.2.1,x0.2.2.1,x0.2.2.2.1,x0.2.2.2.2.1,x0.2.2.2.2.2)
 else(GH k x1.1 x1.2.1 x1.2.2.1 x1.2.2.2.1 x1.2.2.2.2.1 a2).bind fun x2=>
 bif zW (x0.2.2.2.2.2.length + x1.2.2.2.2.2.length) 56 then (bif zW ((x0.2.2.2.2.2 ++ x1.2.2.2.2.2).length + x2.2.2.2.2.2.length) 56 then (let y0:List zD:=((x0.2.2.2.2.2++x1.2.2.2.2.2)++x2.2.2.2.2.2)
   some (xk x2 y0))
  else none)
 else none
abbrev MW:Type:=List qY
abbrev WV:Type:=List zD→Int→List qY→Option MW
def BH (k:Nat)(rec:WV)(s0:List zD)(s4:Int)(r0:List qY):Option MW:=
 bif decide (s4 < (s0.length : Int)) then (bif zE s4 s0.length then ((jK k 18 [(s0.getD s4.toNat (0,0,0,0,0,0,0)).1,(s0.getD s4.toNat (0,0,0,0,0,0,0)).2.1,(s0.getD s4.toNat (0,0,0,0,0,0,0)).2.2.1,(s0.getD s4.toNat (0,0,0,0,0,0,0)).2.2.2.1]).bind fun x0=>
   bif zW (r0.length + 2) 64 then (let y0:List qY:=(r0++[((s0.getD s4.toNat (0,0,0,0,0,0,0)).2.1,x0),((s0.getD s4.toNat (0,0,0,0,0,0,0)).2.2.1,x0)])
    rec s0 (zA (s4+1)) y0)
   else none)
  else none)
 else some r0
def BG (k:Nat):Nat→WV
 |0,_,_,_=>none
 |n+1,s0,s4,r0=>BH k (BG k n) s0 s4 r0
def JY (k:Nat)(a0:List zD):Option (List qY):=
 (BG k k a0 0 []).bind fun z=>
 some z
def lN (k:Nat)(dr:Int)(bH:List zO)(bW:List (List Int))(bX:List Int)(bY:List (List Int))(cU:List Int)(dO:List (List Int))(dt:List zD)(iU:List Int)(dP:Int)(fb a1:Bool):Option GI:=
 (KH k bH bW bX bY dt dr a1).bind fun x0=>
 (JY k x0.2.2.2.2.2).bind fun x1=>
 some (dr,(vO x0 (cU,dO,x0.2.2.2.2.1,iU,dP,fb,x1)))
abbrev MX:Type:=vW×wP×(List qY)
abbrev WY:Type:=List zD→Int→vW→wP→List qY→Option MX
def CJ (k:Nat)(rec:WY)(s7:List zD)(s8:Int)(b0:vW)(b1:wP)(r2:List qY):Option MX:=
 bif decide (s8 < (s7.length : Int)) then (bif zE s8 s7.length then (bif zE s8 s7.length then ((jK k 22 [(s7.getD s8.toNat (0,0,0,0,0,0,0)).1]).bind fun x1=>
    bif zW (r2.length + 1) 64 then (let y0:List qY:=(r2++[((s7.getD s8.toNat (0,0,0,0,0,0,0)).2.1,x1)])
     rec s7 (zA (s8+1)) b0 b1 y0)
    else none)
   else none)
  else none)
 else some (b0,b1,r2)
def qo (k:Nat):Nat→WY:=vY (fun _ _ _ _ _=>none) (CJ k)
abbrev MZ:Type:=vW×wP×(List qY)
abbrev WZ:Type:=Int→vW→wP→List qY→Option MZ
def CK (k:Nat)(rec:WZ)(s9:Int)(b0:vW)(b1:wP)(r2:List qY):Option MZ:=
 bif decide (s9 < (b0.2.1.length : Int)) then (bif zE s9 b0.2.1.length then ((jK k 23 [(b0.2.1.getD s9.toNat (0,0,0)).1]).bind fun x2=>
   bif zW (r2.length+1) 64 then(rec (zA (s9+1)) b0 b1 (r2++[(s9,x2)]))
   else none)
  else none)
 else some (b0,b1,r2)
def qp (k:Nat):Nat→WZ:=vY (fun _ _ _ _=>none) (CK k)
abbrev M4:Type:=vH×vW×wP×(List qY)
abbrev W0:Type:=List zD→Int→vH→vW→wP→List qY→Option M4
def CL (k:Nat)(rec:W0)(s7:List zD)(ax:Int)(b0:vH)(b1:vW)(b2:wP)(r3:List qY):Option M4:=
 bif decide (ax < (s7.length : Int)) then (bif zE ax s7.length then ((RT k (s7.getD ax.toNat (0,0,0,0,0,0,0)).1 (s7.getD ax.toNat (0,0,0,0,0,0,0)).2.1 (s7.getD ax.toNat (0,0,0,0,0,0,0)).2.2.1 (s7.getD ax.toNat (0,0,0,0,0,0,0)).2.2.2.1 (s7.getD ax.toNat (0,0,0,0,0,0,0)).2.2.2.2.1 (s7.getD ax.toNat (0,0,0,0,0,0,0)).2.2.2.2.2.1 (s7.getD ax.toNat (0,0,0,0,0,0,0)).2.2.2.2.2.2 b1.1).bind fun x3=>
   bif x3 then (bif zE ax s7.length then (bif zE ax s7.length then ((jK k 21 [(s7.getD ax.toNat (0,0,0,0,0,0,0)).1]).bind fun x4=>
      bif zW (r3.length + 1) 64 then (let y1:List qY:=(r3++[((s7.getD ax.toNat (0,0,0,0,0,0,0)).2.1,x4)])
       bif zE ax s7.length then ((lM k b1.2.2.2.2.2.2.2.1 (s7.getD ax.toNat (0,0,0,0,0,0,0)).1).bind fun x5=>
        rec s7 (zA (ax+1)) b0 (im b1 (x5.1,b1.2.2.2.2.2.2.2.2)) b2 y1)
       else none)
      else none)
     else none)
    else none)
   else rec s7 (zA (ax+1)) b0 b1 b2 r3)
  else none)
 else some (b0,b1,b2,r3)
def qq (k:Nat):Nat→W0:=vY (fun _ _ _ _ _ _=>none) (CL k)
def CM (k:Nat)(a0:vH)(a1:vW):Option (vW×(List qY)):=
 bif a1.2.2.2.2.2.2.2.2.2.2 then some (a1,[])
 else(KJ k a0 (zA (a1.1+1))).bind fun x0=>
 bif x0 then ((qo k k a1.2.2.2.2.2.2.2.1 0 ((zA (a1.1+1)),a1.2) (0,0,false) []).bind fun z=>
  (qp k k 0 z.1 z.2.1 z.2.2).bind fun z1=>
  some ((im z1.1 ([],z1.1.2.2.2.2.2.2.2.2.1,z1.1.2.2.2.2.2.2.2.2.2.1,true)),z1.2.2))
 else(qq k k a1.2.2.2.2.2.2.2.1 0 a0 ((zA (a1.1+1)),a1.2) (0,0,false) []).bind fun z2=>
 (GJ k z2.1 z2.2.1.1).bind fun x6=>
 (lN k z2.2.1.1 z2.2.1.2.1 z2.2.1.2.2.1 z2.2.1.2.2.2.1 z2.2.1.2.2.2.2.1 z2.2.1.2.2.2.2.2.1 z2.2.1.2.2.2.2.2.2.1 z2.2.1.2.2.2.2.2.2.2.1 z2.2.1.2.2.2.2.2.2.2.2.1 z2.2.1.2.2.2.2.2.2.2.2.2.1 z2.2.1.2.2.2.2.2.2.2.2.2.2 x6).bind fun x7=>
 bif zW (z2.2.2.2.length + x7.2.2.2.2.2.2.2.2.2.2.2.length) 64 then (let y2:List qY:=(z2.2.2.2++x7.2.2.2.2.2.2.2.2.2.2.2)
  some ((yD x7),y2))
 else none
def qi (k:Nat)(a0:qy)(a1:Int):Option Int:=
 bif decide (a1<0) then some (-1)
 else bif decide (a1≥a0.1) then some (-1)
 else some a1
def Cq (k:Nat)(a0:vH)(a1 a2:Int):Option Int:=
 bif decide (a1≥a0.2.2.2.1) then some 7
 else bif decide (a2 = 3) then (bif decide (a1≥a0.2.2.1) then some 7
  else some 0)
 else some 0
def w5 (k:Nat)(a0:vH)(a1:Int)(a2:zD):Option Int:=
 bif decide (a2.1<1) then some 1
 else bif decide (a2.2.1<0) then some 1
 else bif decide (a2.2.1≥a0.1) then some 1
 else bif decide (a2.2.2.1<0) then some 1
 else bif decide (a2.2.2.1≥a0.1) then some 1
 else bif decide (a2.2.1=a2.2.2.1) then some 1
 else bif decide (a2.2.2.2.1<1) then some 1
 else bif decide (a2.2.2.2.1>1099511627776) then some 1
 else bif decide (a2.2.2.2.2.1<1) then some 1
 else bif decide (a2.2.2.2.2.1>3) then some 1
 else bif decide (a2.2.2.2.2.2.1<0) then some 1
 else bif decide (a2.2.2.2.2.2.1>a2.2.2.2.2.2.2) then some 1
 else bif decide (a2.2.2.2.2.2.2<a1) then some 1
 else bif decide (a2.2.2.2.2.2.2>1048576) then some 1
 else(Cq k a0 a1 a2.2.2.2.2.1).bind fun x0=>
 some x0
abbrev W3:Type:=List Int→Int→Int→Option (Unit⊕Bool)
def Cn (k:Nat)(rec:W3)(s0:List Int)(s1 s5:Int):Option (Unit⊕Bool):=
 bif decide (s5 < (s0.length : Int)) then (bif zE s5 s0.length then (bif decide ((s0.getD s5.toNat 0)=s1) then some (.inr true)
   else rec s0 s1 (zA (s5+1)))
  else none)
 else some (.inl ())
def Cm (k:Nat):Nat→W3:=vY (fun _ _ _=>none) (Cn k)
def Kw (k:Nat)(a0:List Int)(a1:Int):Option Bool:=
 (Cm k k a0 a1 0).bind fun z=>
 match z with
 |.inl z1=>some false
 |.inr z2=>some z2
abbrev W5:Type:=List Int→Int→Int→Option ((List Int)×Int×Int)
def Co (k:Nat)(rec:W5)(s0:List Int)(s1 s6:Int):Option ((List Int)×Int×Int):=
 bif decide (s6 < (s0.length : Int)) then (bif zE s6 s0.length then (bif decide ((s0.getD s6.toNat 0)<s1) then(rec s0 s1 (zA (s6+1)))
   else some (s0,s1,s6))
  else none)
 else some (s0,s1,s6)
def Gu (k:Nat):Nat→W5:=vY (fun _ _ _=>none) (Co k)
def w4 (k:Nat)(a0:List Int)(a1:Int):Option ((List Int)×Int):=
 (Kw k a0 a1).bind fun x0=>
 bif x0 then some (a0,6)
 else bif decide ((a0.length:Int)≥200) then some (a0,3)
 else(Gu k k a0 a1 0).bind fun z=>
 bif (decide (0 ≤ z.2.2)) && (decide (z.2.2 ≤ (z.1.length : Int))) then (bif zW (0 + (List.take z.2.2.toNat z.1).length) 8 then (bif zW ((List.take z.2.2.toNat z.1).length + 1) 8 then (bif (decide (0 ≤ z.2.2)) && (decide (z.2.2 ≤ (z.1.length : Int))) then (bif zW (((List.take z.2.2.toNat z.1) ++ [z.2.1]).length + (List.drop z.2.2.toNat z.1).length) 8 then (let y0:List Int:=(((List.take z.2.2.toNat z.1)++[z.2.1])++(List.drop z.2.2.toNat z.1))
      some (y0,0))
     else none)
    else none)
   else none)
  else none)
 else none
def Gn (k:Nat)(cj ay bC aI aE aN aS fP bj dq bc bm bQ cA:Int):Option Bool:=
 bif decide (ay<bj) then some true
 else bif decide (ay=bj) then some (decide (aE≤bm))
 else some false
abbrev W8:Type:=List zD→Int→Int→Int→Int→Int→Int→Int→Int→Option Int
def Ch (k:Nat)(rec:W8)(s0:List zD)(s5 aa af ag ae bb bq bx:Int):Option Int:=
 bif decide (s5 < (s0.length : Int)) then (bif zE s5 s0.length then ((Gn k (s0.getD s5.toNat (0,0,0,0,0,0,0)).1 (s0.getD s5.toNat (0,0,0,0,0,0,0)).2.1 (s0.getD s5.toNat (0,0,0,0,0,0,0)).2.2.1 (s0.getD s5.toNat (0,0,0,0,0,0,0)).2.2.2.1 (s0.getD s5.toNat (0,0,0,0,0,0,0)).2.2.2.2.1 (s0.getD s5.toNat (0,0,0,0,0,0,0)).2.2.2.2.2.1 (s0.getD s5.toNat (0,0,0,0,0,0,0)).2.2.2.2.2.2 aa af ag ae bb bq bx).bind fun x0=>
   bif x0 then(rec s0 (zA (s5+1)) aa af ag ae bb bq bx)
   else some s5)
  else none)
 else some s5
def Cg (k:Nat):Nat→W8
 |0,_,_,_,_,_,_,_,_,_=>none
 |n+1,s0,s5,aa,af,ag,ae,bb,bq,bx=>Ch k (Cg k n) s0 s5 aa af ag ae bb bq bx
def Cf (k:Nat)(a0:List zD)(fP bj dq bc bm bQ cA:Int):Option Int:=
 (Cg k k a0 0 fP bj dq bc bm bQ cA).bind fun z=>
 some z
def wy (k:Nat)(a0:List zD)(a1 Ya xq Yb nK rr ru xr:Int):Option (List zD):=
 bif (decide (0 ≤ a1)) && (decide (a1 ≤ (a0.length : Int))) then (bif zW (0 + (List.take a1.toNat a0).length) 56 then (bif zW ((List.take a1.toNat a0).length + 1) 56 then (let y0:List zD:=((List.take a1.toNat a0)++[(Ya,xq,Yb,nK,rr,ru,xr)])
    bif (decide (0 ≤ a1)) && (decide (a1 ≤ (a0.length : Int))) then (bif zW (y0.length+(List.drop a1.toNat a0).length) 56 then some (y0++(List.drop a1.toNat a0))
     else none)
    else none)
   else none)
  else none)
 else none
def wz (k:Nat)(a0:List zD)(fP bj dq bc bm bQ cA:Int):Option ((List zD)×Int):=
 (kO k a0 fP).bind fun x0=>
 bif decide (x0≥0) then some (a0,6)
 else bif decide ((a0.length:Int)≥40) then some (a0,3)
 else(Cf k a0 fP bj dq bc bm bQ cA).bind fun x1=>
 (wy k a0 x1 fP bj dq bc bm bQ cA).bind fun x2=>
 some (x2,0)
def Ky (k:Nat)(a0:nG)(a1:Ha):Option (Int×qy):=
 (qi k (yG a0 ([],a0.2.2.2.2.2.2.2.2.2.2.2.2.2.2.2.2.2)) a1.2.1).bind fun x0=>
 bif decide (a1.2.2.2.1 ≥ 1) then (bif decide (a1.2.2.2.1 ≤ 3) then ((w5 k (vC a0) a0.2.2.2.2.2.1 (a1.1,a0.2.2.2.2.2.2.2.2.2.2.2.2.2.2.2.2.1,x0,a1.2.2)).bind fun x1=>
   bif !(decide (x1=0)) then some (x1,(yG a0 ([],a0.2.2.2.2.2.2.2.2.2.2.2.2.2.2.2.2.2)))
   else(w4 k a0.2.2.2.2.2.2.2.2.2.2.2.2.2.1 a1.1).bind fun x2=>
   bif !(decide (x2.2=0)) then some (x2.2,(yG a0 ([],a0.2.2.2.2.2.2.2.2.2.2.2.2.2.2.2.2.2)))
   else(wz k a0.2.2.2.2.2.2.2.2.2.2.2.2.1 a1.1 a0.2.2.2.2.2.2.2.2.2.2.2.2.2.2.2.2.1 x0 a1.2.2.1 a1.2.2.2.1 a1.2.2.2.2.1 a1.2.2.2.2.2).bind fun x3=>
   bif !(decide (x3.2=0)) then some (x3.2,(yG a0 ([],a0.2.2.2.2.2.2.2.2.2.2.2.2.2.2.2.2.2)))
   else some (0,(iu a0 (x3.1,x2.1,a0.2.2.2.2.2.2.2.2.2.2.2.2.2.2.1,a0.2.2.2.2.2.2.2.2.2.2.2.2.2.2.2.1,a0.2.2.2.2.2.2.2.2.2.2.2.2.2.2.2.2.1,[],a1.1))))
  else(w5 k (vC a0) a0.2.2.2.2.2.1 (a1.1,a0.2.2.2.2.2.2.2.2.2.2.2.2.2.2.2.2.1,x0,a1.2.2.1,0,a1.2.2.2.2)).bind fun x4=>
  bif !(decide (x4=0)) then some (x4,(yG a0 ([],a0.2.2.2.2.2.2.2.2.2.2.2.2.2.2.2.2.2)))
  else(w4 k a0.2.2.2.2.2.2.2.2.2.2.2.2.2.1 a1.1).bind fun x5=>
  bif !(decide (x5.2=0)) then some (x5.2,(yG a0 ([],a0.2.2.2.2.2.2.2.2.2.2.2.2.2.2.2.2.2)))
  else(wz k a0.2.2.2.2.2.2.2.2.2.2.2.2.1 a1.1 a0.2.2.2.2.2.2.2.2.2.2.2.2.2.2.2.2.1 x0 a1.2.2.1 0 a1.2.2.2.2.1 a1.2.2.2.2.2).bind fun x6=>
  bif !(decide (x6.2=0)) then some (x6.2,(yG a0 ([],a0.2.2.2.2.2.2.2.2.2.2.2.2.2.2.2.2.2)))
  else some (0,(iu a0 (x6.1,x5.1,a0.2.2.2.2.2.2.2.2.2.2.2.2.2.2.1,a0.2.2.2.2.2.2.2.2.2.2.2.2.2.2.2.1,a0.2.2.2.2.2.2.2.2.2.2.2.2.2.2.2.2.1,[],a1.1))))
 else(w5 k (vC a0) a0.2.2.2.2.2.1 (a1.1,a0.2.2.2.2.2.2.2.2.2.2.2.2.2.2.2.2.1,x0,a1.2.2.1,0,a1.2.2.2.2)).bind fun x7=>
 bif !(decide (x7=0)) then some (x7,(yG a0 ([],a0.2.2.2.2.2.2.2.2.2.2.2.2.2.2.2.2.2)))
 else(w4 k a0.2.2.2.2.2.2.2.2.2.2.2.2.2.1 a1.1).bind fun x8=>
 bif !(decide (x8.2=0)) then some (x8.2,(yG a0 ([],a0.2.2.2.2.2.2.2.2.2.2.2.2.2.2.2.2.2)))
 else(wz k a0.2.2.2.2.2.2.2.2.2.2.2.2.1 a1.1 a0.2.2.2.2.2.2.2.2.2.2.2.2.2.2.2.2.1 x0 a1.2.2.1 0 a1.2.2.2.2.1 a1.2.2.2.2.2).bind fun x9=>
 bif !(decide (x9.2=0)) then some (x9.2,(yG a0 ([],a0.2.2.2.2.2.2.2.2.2.2.2.2.2.2.2.2.2)))
 else some (0,(iu a0 (x9.1,x8.1,a0.2.2.2.2.2.2.2.2.2.2.2.2.2.2.1,a0.2.2.2.2.2.2.2.2.2.2.2.2.2.2.2.1,a0.2.2.2.2.2.2.2.2.2.2.2.2.2.2.2.2.1,[],a1.1)))
def yOq (k:Nat)(a0:qy)(a1:Int):Option (zD×Bool):=
 (kO k a0.2.2.2.2.2.2.2.2.2.2.2.2.1 a1).bind fun x0=>
 bif decide (x0<0) then some ((0,0,0,0,0,0,0),false)
 else bif zE x0 a0.2.2.2.2.2.2.2.2.2.2.2.2.1.length then (bif !(decide ((a0.2.2.2.2.2.2.2.2.2.2.2.2.1.getD x0.toNat (0,0,0,0,0,0,0)).2.1=a0.2.2.2.2.2.2.2.2.2.2.2.2.2.2.2.2.1)) then some ((0,0,0,0,0,0,0),false)
  else bif zE x0 a0.2.2.2.2.2.2.2.2.2.2.2.2.1.length then some ((a0.2.2.2.2.2.2.2.2.2.2.2.2.1.getD x0.toNat (0,0,0,0,0,0,0)),true)
  else none)
 else none
abbrev Nb:Type:=(List zD)×Int×zD
abbrev Xb:Type:=List zD→Int→zD→Option Nb
def Cl (k:Nat)(rec:Xb)(s6:List zD)(s9:Int)(b0:zD):Option Nb:=
 bif decide (s9 < (s6.length : Int)) then (bif zE s9 s6.length then ((Gn k b0.1 b0.2.1 b0.2.2.1 b0.2.2.2.1 b0.2.2.2.2.1 b0.2.2.2.2.2.1 b0.2.2.2.2.2.2 (s6.getD s9.toNat (0,0,0,0,0,0,0)).1 (s6.getD s9.toNat (0,0,0,0,0,0,0)).2.1 (s6.getD s9.toNat (0,0,0,0,0,0,0)).2.2.1 (s6.getD s9.toNat (0,0,0,0,0,0,0)).2.2.2.1 (s6.getD s9.toNat (0,0,0,0,0,0,0)).2.2.2.2.1 (s6.getD s9.toNat (0,0,0,0,0,0,0)).2.2.2.2.2.1 (s6.getD s9.toNat (0,0,0,0,0,0,0)).2.2.2.2.2.2).bind fun x1=>
   bif !x1 then(rec s6 (zA (s9+1)) b0)
   else some (s6,s9,b0))
  else none)
 else some (s6,s9,b0)
def Ck (k:Nat):Nat→Xb:=vY (fun _ _ _=>none) (Cl k)
def Gs (k:Nat)(a0:List zD)(a1:Int):Option ((List zD)×Int):=
 (lM k a0 a1).bind fun x0=>
 bif !(decide (x0.2.2.2.2.2.2.2.2=0)) then some (a0,x0.2.2.2.2.2.2.2.2)
 else(Ck k k x0.1 0 (A4 x0)).bind fun z=>
 (wy k z.1 z.2.1 z.2.2.1 z.2.2.2.1 z.2.2.2.2.1 z.2.2.2.2.2.1 z.2.2.2.2.2.2.1 z.2.2.2.2.2.2.2.1 z.2.2.2.2.2.2.2.2).bind fun x2=>
 some (x2,0)
def Gr (k:Nat)(a0:List zD)(a1:Int):Option ((List zD)×Int):=
 (lM k a0 a1).bind fun x0=>
 bif !(decide (x0.2.2.2.2.2.2.2.2=0)) then some (a0,x0.2.2.2.2.2.2.2.2)
 else(Cf k x0.1 x0.2.1 x0.2.2.1 x0.2.2.2.1 x0.2.2.2.2.1 x0.2.2.2.2.2.1 x0.2.2.2.2.2.2.1 x0.2.2.2.2.2.2.2.1).bind fun x1=>
 (wy k x0.1 x1 x0.2.1 x0.2.2.1 x0.2.2.2.1 x0.2.2.2.2.1 x0.2.2.2.2.2.1 x0.2.2.2.2.2.2.1 x0.2.2.2.2.2.2.2.1).bind fun x2=>
 some (x2,0)
def Gq (k:Nat)(a0:List zD)(a1 a2:Int):Option ((List zD)×Int):=
 (lM k a0 a1).bind fun x0=>
 bif !(decide (x0.2.2.2.2.2.2.2.2=0)) then some (a0,x0.2.2.2.2.2.2.2.2)
 else(Cf k x0.1 x0.2.1 x0.2.2.1 x0.2.2.2.1 x0.2.2.2.2.1 a2 x0.2.2.2.2.2.2.1 x0.2.2.2.2.2.2.2.1).bind fun x1=>
 (wy k x0.1 x1 x0.2.1 x0.2.2.1 x0.2.2.2.1 x0.2.2.2.2.1 a2 x0.2.2.2.2.2.2.1 x0.2.2.2.2.2.2.2.1).bind fun x2=>
 some (x2,0)
def w7 (k:Nat)(a0:nG)(a1:Int)(a2:Ha):Option (Int×qy):=
 (yOq k (yG a0 ([],a0.2.2.2.2.2.2.2.2.2.2.2.2.2.2.2.2.2)) a2.1).bind fun x0=>
 bif !x0.2 then some (4,(yG a0 ([],a0.2.2.2.2.2.2.2.2.2.2.2.2.2.2.2.2.2)))
 else bif decide (a1 = 2) then ((lM k a0.2.2.2.2.2.2.2.2.2.2.2.2.1 a2.1).bind fun x1=>
  (jK k 20 [a2.1]).bind fun x2=>
  some (0,(iu a0 (x1.1,(Nj a0 ([(a0.2.2.2.2.2.2.2.2.2.2.2.2.2.2.2.2.1,x2)],a0.2.2.2.2.2.2.2.2.2.2.2.2.2.2.2.2.2))))))
 else bif decide (a1 = 3) then (bif decide (a2.2.1 = 0) then ((Gs k a0.2.2.2.2.2.2.2.2.2.2.2.2.1 a2.1).bind fun x3=>
   some (0,(iu a0 (x3.1,(Nj a0 ([],a0.2.2.2.2.2.2.2.2.2.2.2.2.2.2.2.2.2))))))
  else bif decide (a2.2.1 = 1) then ((Gr k a0.2.2.2.2.2.2.2.2.2.2.2.2.1 a2.1).bind fun x4=>
   some (0,(iu a0 (x4.1,(Nj a0 ([],a0.2.2.2.2.2.2.2.2.2.2.2.2.2.2.2.2.2))))))
  else some (1,(yG a0 ([],a0.2.2.2.2.2.2.2.2.2.2.2.2.2.2.2.2.2))))
 else bif decide (a2.2.1<1) then some (1,(yG a0 ([],a0.2.2.2.2.2.2.2.2.2.2.2.2.2.2.2.2.2)))
 else bif decide (a2.2.1>3) then some (1,(yG a0 ([],a0.2.2.2.2.2.2.2.2.2.2.2.2.2.2.2.2.2)))
 else(Cq k (vC a0) a0.2.2.2.2.2.1 a2.2.1).bind fun x5=>
 bif !(decide (x5=0)) then some (x5,(yG a0 ([],a0.2.2.2.2.2.2.2.2.2.2.2.2.2.2.2.2.2)))
 else(Gq k a0.2.2.2.2.2.2.2.2.2.2.2.2.1 a2.1 a2.2.1).bind fun x6=>
 some (0,(iu a0 (x6.1,(Nj a0 ([],a0.2.2.2.2.2.2.2.2.2.2.2.2.2.2.2.2.2)))))
def w8 (k:Nat)(a0:nG)(a1:Int)(a2:Ha):Option (Int×qy):=
 (mn k a0.2.2.2.2.2.2.1 a0.2.2.2.2.2.2.2.1 a0.2.2.2.2.2.2.2.2.1 a0.2.2.2.2.2.2.2.2.2.1).bind fun x0=>
 bif decide (a1 = 5) then ((qi k (yG a0 ([],a0.2.2.2.2.2.2.2.2.2.2.2.2.2.2.2.2.2)) a2.1).bind fun x1=>
  bif decide (x1<0) then some (1,(yG a0 ([],a0.2.2.2.2.2.2.2.2.2.2.2.2.2.2.2.2.2)))
  else bif decide (x1=a0.2.2.2.2.2.2.2.2.2.2.2.2.2.2.2.2.1) then some (1,(yG a0 ([],a0.2.2.2.2.2.2.2.2.2.2.2.2.2.2.2.2.2)))
  else bif decide (a2.2.1<(-1)) then some (1,(yG a0 ([],a0.2.2.2.2.2.2.2.2.2.2.2.2.2.2.2.2.2)))
  else bif decide (a2.2.1>1152921504606846976) then some (1,(yG a0 ([],a0.2.2.2.2.2.2.2.2.2.2.2.2.2.2.2.2.2)))
  else bif zE a0.2.2.2.2.2.2.2.2.2.2.2.2.2.2.2.2.1 x0.2.1.length then (bif zE x1 (x0.2.1.getD a0.2.2.2.2.2.2.2.2.2.2.2.2.2.2.2.2.1.toNat []).length then (let y0:List (List Int):=(x0.2.1.set a0.2.2.2.2.2.2.2.2.2.2.2.2.2.2.2.2.1.toNat ((x0.2.1.getD a0.2.2.2.2.2.2.2.2.2.2.2.2.2.2.2.2.1.toNat []).set x1.toNat a2.2.1))
    some (0,(wT a0 (x0.1,y0,x0.2.2.1,x0.2.2.2,(X7 a0 ([],a0.2.2.2.2.2.2.2.2.2.2.2.2.2.2.2.2.2))))))
   else none)
  else none)
 else bif decide (a1 = 6) then (bif decide (a2.1<(-1)) then some (1,(yG a0 ([],a0.2.2.2.2.2.2.2.2.2.2.2.2.2.2.2.2.2)))
  else bif decide (a2.1>1152921504606846976) then some (1,(yG a0 ([],a0.2.2.2.2.2.2.2.2.2.2.2.2.2.2.2.2.2)))
  else bif zE a0.2.2.2.2.2.2.2.2.2.2.2.2.2.2.2.2.1 x0.2.2.1.length then (let y1:List Int:=(x0.2.2.1.set a0.2.2.2.2.2.2.2.2.2.2.2.2.2.2.2.2.1.toNat a2.1)
   some (0,(wT a0 (x0.1,x0.2.1,y1,x0.2.2.2,(X7 a0 ([],a0.2.2.2.2.2.2.2.2.2.2.2.2.2.2.2.2.2))))))
  else none)
 else bif decide (a2.1<0) then some (1,(yG a0 ([],a0.2.2.2.2.2.2.2.2.2.2.2.2.2.2.2.2.2)))
 else bif decide (a2.1>1152921504606846976) then some (1,(yG a0 ([],a0.2.2.2.2.2.2.2.2.2.2.2.2.2.2.2.2.2)))
 else bif zE a0.2.2.2.2.2.2.2.2.2.2.2.2.2.2.2.2.1 x0.1.length then (let y2:List zO:=(x0.1.set a0.2.2.2.2.2.2.2.2.2.2.2.2.2.2.2.2.1.toNat ((x0.1.getD a0.2.2.2.2.2.2.2.2.2.2.2.2.2.2.2.2.1.toNat (0,0,0)).1,(x0.1.getD a0.2.2.2.2.2.2.2.2.2.2.2.2.2.2.2.2.1.toNat (0,0,0)).2.1,a2.1))
  some (0,(wT a0 (y2,x0.2.1,x0.2.2.1,x0.2.2.2,(X7 a0 ([],a0.2.2.2.2.2.2.2.2.2.2.2.2.2.2.2.2.2))))))
 else none
def ql (k:Nat)(a0:List Int)(a1 a2:Int):Option (List Int):=
 bif zW (0 + a0.length) 8 then (bif decide (a1 ≥ 0) then (bif decide (a1 < (a0.length : Int)) then (bif zE a1 a0.length then some (a0.set a1.toNat a2)
    else none)
   else some a0)
  else some a0)
 else none
def Kt (k:Nat)(a0:Int):Option (List Int):=
 some [(yK .i64 a0 65535),(yK .i64 (shr .i64 a0 16) 65535),(yK .i64 (shr .i64 a0 32) 65535),(yK .i64 (shr .i64 a0 48) 65535)]
end Go.Ab.Gi
