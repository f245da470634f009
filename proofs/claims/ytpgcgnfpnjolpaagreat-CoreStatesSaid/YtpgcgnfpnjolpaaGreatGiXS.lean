/- part 5 -/
import Derived.Test.YtpgcgnfpnjolpaaGreatGiXSa
set_option linter.unusedVariables false
set_option maxRecDepth 100000
namespace Go.Ab.Gi
abbrev Xs:Type:=(List zB)×(List zB)×(List zH)×EQ×AC×EQ
abbrev Xq:Type:=List zB→Int→List zB→List zH→EQ→AC→EQ→Option Xs
def Db (k:Nat)(rec:Xq)(s1:List zB)(bx:Int)(r1:List zB)(aY:List zH)(bP:EQ)(bQ:AC)(cG:EQ):Option Xs:=
 bif decide (bx < (r1.length : Int)) then (bif zC bx r1.length then ((ly k s1 (r1.getD bx.toNat (0,0,0,0,0,0,0)).1).bind fun x4=>
   rec x4.1 (zA (bx+1)) r1 aY bP bQ cG)
  else none)
 else some (s1,r1,aY,bP,bQ,cG)
def xp (k:Nat):Nat→Xq
 |0,_,_,_,_,_,_,_=>none
 |n+1,s1,bx,r1,aY,bP,bQ,cG=>Db k (xp k n) s1 bx r1 aY bP bQ cG
def Hn (k:Nat)(aL:List zH)(aZ:EQ)(aW:AC)(aT:EQ)(a1:List zB)(a2:Int):Option oR:=
 (LF k aL aZ aW aT a1 a2).bind fun x0=>
 (Bp k a1 a2).bind fun x1=>
 (C4 k x1 x0.1).bind fun x2=>
 (wc k aL aZ aW aT x2).bind fun x3=>
 bif !(decide (x3.2.2.2.2=0)) then some (aL,aZ,aW,aT,a1,[])
 else(xp k k a1 0 x2 x3.1 x3.2.1 x3.2.2.1 x3.2.2.2.1).bind fun z=>
 some (xi z (z.1,z.2.1))
def LG (k:Nat)(aL:List zH)(aZ:EQ)(aW:AC)(aT:EQ)(a1:List zB)(a2:Int)(a3:Bool):Option oR:=
 (Hq k aL aZ aW aT a1 a2).bind fun x0=>
 bif !a3 then some (x0.1,x0.2.1,x0.2.2.1,x0.2.2.2.1,x0.2.2.2.2.1,x0.2.2.2.2.2)
 else(Hn k x0.1 x0.2.1 x0.2.2.1 x0.2.2.2.1 x0.2.2.2.2.1 a2).bind fun x1=>
 bif decide ((x1.2.2.2.2.2.length:Int)=0) then some (x0.1,x0.2.1,x0.2.2.1,x0.2.2.2.1,x0.2.2.2.2.1,x0.2.2.2.2.2)
 else(Hq k x1.1 x1.2.1 x1.2.2.1 x1.2.2.2.1 x1.2.2.2.2.1 a2).bind fun x2=>
 bif zR (x0.2.2.2.2.2.length + x1.2.2.2.2.2.length) 56 then (bif zR ((x0.2.2.2.2.2 ++ x1.2.2.2.2.2).length + x2.2.2.2.2.2.length) 56 then (let y0:List zB:=((x0.2.2.2.2.2++x1.2.2.2.2.2)++x2.2.2.2.2.2)
   some (xL x2 y0))
  else none)
 else none
abbrev Xt:Type:=List zB→Int→List qO→Option V0
def Cl (k:Nat)(rec:Xt)(s0:List zB)(s4:Int)(r0:List qO):Option V0:=
 bif decide (s4 < (s0.length : Int)) then (bif zC s4 s0.length then ((wY k 18 [(s0.getD s4.toNat (0,0,0,0,0,0,0)).1,(s0.getD s4.toNat (0,0,0,0,0,0,0)).2.1,(s0.getD s4.toNat (0,0,0,0,0,0,0)).2.2.1,(s0.getD s4.toNat (0,0,0,0,0,0,0)).2.2.2.1]).bind fun x0=>
   bif zR (r0.length + 2) 64 then (let y0:List qO:=(r0++[((s0.getD s4.toNat (0,0,0,0,0,0,0)).2.1,x0),((s0.getD s4.toNat (0,0,0,0,0,0,0)).2.2.1,x0)])
    rec s0 (zA (s4+1)) y0)
   else none)
  else none)
 else some r0
def GP (k:Nat):Nat→Xt
 |0,_,_,_=>none
 |n+1,s0,s4,r0=>Cl k (GP k n) s0 s4 r0
def K4 (k:Nat)(a0:List zB):Option (List qO):=
 (GP k k a0 0 []).bind fun z=>
 some z
def lz (k:Nat)(xQ:Int)(Ib:List zH)(Ic:EQ)(Ie:AC)(Ig:EQ)(Ih:AC)(Ii:EQ)(xR:List zB)(Ij:AC)(Ik:Int)(Il a1:Bool):Option M4:=
 (LG k Ib Ic Ie Ig xR xQ a1).bind fun x0=>
 (K4 k x0.2.2.2.2.2).bind fun x1=>
 some (xQ,(vG x0 (Ih,Ii,x0.2.2.2.2.1,Ij,Ik,Il,x1)))
abbrev Xx:Type:=yM×gh×(List qO)
abbrev Xw:Type:=List zB→Int→yM→gh→List qO→Option Xx
def Dd (k:Nat)(rec:Xw)(s7:List zB)(s8:Int)(b0:yM)(b1:gh)(r2:List qO):Option Xx:=
 bif decide (s8 < (s7.length : Int)) then (bif zC s8 s7.length then (bif zC s8 s7.length then ((wY k 22 [(s7.getD s8.toNat (0,0,0,0,0,0,0)).1]).bind fun x1=>
    bif zR (r2.length + 1) 64 then (let y0:List qO:=(r2++[((s7.getD s8.toNat (0,0,0,0,0,0,0)).2.1,x1)])
     rec s7 (zA (s8+1)) b0 b1 y0)
    else none)
   else none)
  else none)
 else some (b0,b1,r2)
def tG (k:Nat):Nat→Xw:=vH (fun _ _ _ _ _=>none) (Dd k)
abbrev Xy:Type:=Int→yM→gh→List qO→Option Xx
def De (k:Nat)(rec:Xy)(s9:Int)(b0:yM)(b1:gh)(r2:List qO):Option Xx:=
 bif decide (s9 < (b0.2.1.length : Int)) then (bif zC s9 b0.2.1.length then ((wY k 23 [(b0.2.1.getD s9.toNat (0,0,0)).1]).bind fun x2=>
   bif zR (r2.length+1) 64 then(rec (zA (s9+1)) b0 b1 (r2++[(s9,x2)]))
   else none)
  else none)
 else some (b0,b1,r2)
def tH (k:Nat):Nat→Xy:=vH (fun _ _ _ _=>none) (De k)
abbrev XB:Type:=yJ×yM×gh×(List qO)
abbrev XA:Type:=List zB→Int→yJ→yM→gh→List qO→Option XB
def Df (k:Nat)(rec:XA)(s7:List zB)(ao:Int)(b0:yJ)(b1:yM)(b2:gh)(r3:List qO):Option XB:=
 bif decide (ao < (s7.length : Int)) then (bif zC ao s7.length then ((RM k (s7.getD ao.toNat (0,0,0,0,0,0,0)).1 (s7.getD ao.toNat (0,0,0,0,0,0,0)).2.1 (s7.getD ao.toNat (0,0,0,0,0,0,0)).2.2.1 (s7.getD ao.toNat (0,0,0,0,0,0,0)).2.2.2.1 (s7.getD ao.toNat (0,0,0,0,0,0,0)).2.2.2.2.1 (s7.getD ao.toNat (0,0,0,0,0,0,0)).2.2.2.2.2.1 (s7.getD ao.toNat (0,0,0,0,0,0,0)).2.2.2.2.2.2 b1.1).bind fun x3=>
   bif x3 then (bif zC ao s7.length then (bif zC ao s7.length then ((wY k 21 [(s7.getD ao.toNat (0,0,0,0,0,0,0)).1]).bind fun x4=>
      bif zR (r3.length + 1) 64 then (let y1:List qO:=(r3++[((s7.getD ao.toNat (0,0,0,0,0,0,0)).2.1,x4)])
       bif zC ao s7.length then ((ly k b1.2.2.2.2.2.2.2.1 (s7.getD ao.toNat (0,0,0,0,0,0,0)).1).bind fun x5=>
        rec s7 (zA (ao+1)) b0 (gP b1 (x5.1,b1.2.2.2.2.2.2.2.2)) b2 y1)
       else none)
      else none)
     else none)
    else none)
   else rec s7 (zA (ao+1)) b0 b1 b2 r3)
  else none)
 else some (b0,b1,b2,r3)
def qw (k:Nat):Nat→XA:=vH (fun _ _ _ _ _ _=>none) (Df k)
def Dg (k:Nat)(a0:yJ)(a1:yM):Option (yM×(List qO)):=
 bif a1.2.2.2.2.2.2.2.2.2.2 then some (a1,[])
 else(LI k a0 (zA (a1.1+1))).bind fun x0=>
 bif x0 then ((tG k k a1.2.2.2.2.2.2.2.1 0 ((zA (a1.1+1)),a1.2) (0,0,false) []).bind fun z=>
  (tH k k 0 z.1 z.2.1 z.2.2).bind fun z1=>
  some ((gP z1.1 ([],z1.1.2.2.2.2.2.2.2.2.1,z1.1.2.2.2.2.2.2.2.2.2.1,true)),z1.2.2))
 else(qw k k a1.2.2.2.2.2.2.2.1 0 a0 ((zA (a1.1+1)),a1.2) (0,0,false) []).bind fun z2=>
 (Hr k z2.1 z2.2.1.1).bind fun x6=>
 (lz k z2.2.1.1 z2.2.1.2.1 z2.2.1.2.2.1 z2.2.1.2.2.2.1 z2.2.1.2.2.2.2.1 z2.2.1.2.2.2.2.2.1 z2.2.1.2.2.2.2.2.2.1 z2.2.1.2.2.2.2.2.2.2.1 z2.2.1.2.2.2.2.2.2.2.2.1 z2.2.1.2.2.2.2.2.2.2.2.2.1 z2.2.1.2.2.2.2.2.2.2.2.2.2 x6).bind fun x7=>
 bif zR (z2.2.2.2.length + x7.2.2.2.2.2.2.2.2.2.2.2.length) 64 then (let y2:List qO:=(z2.2.2.2++x7.2.2.2.2.2.2.2.2.2.2.2)
  some ((qR x7),y2))
 else none
def qq (k:Nat)(a0:ru)(a1:Int):Option Int:=
 bif decide (a1<0) then some (-1)
 else bif decide (a1≥a0.1) then some (-1)
 else some a1
def CR (k:Nat)(a0:yJ)(a1 a2:Int):Option Int:=
 bif decide (a1≥a0.2.2.2.1) then some 7
 else bif decide (a2 = 3) then (bif decide (a1≥a0.2.2.1) then some 7
  else some 0)
 else some 0
def xk (k:Nat)(a0:yJ)(a1:Int)(a2:zB):Option Int:=
 bif decide (a2.1<1) then some 1
 else bif decide (a2.2.1<0) then some 1
 else bif decide (a2.2.1≥a0.1) then some 1
 else bif decide (a2.2.2.1<0) then some 1
 else bif decide (a2.2.2.1≥a0.1) then some 1
 else bif decide (a2.2.1=a2.2.2.1) then some 1
 else bif decide (a2.2.2.2.1<1) then some 1
 else bif decide (a2.2.2.2.1>1099511627776) then some 1
 else bif decide (a2.2.2.2.2.1<1) then some 1
 else bif decide (a2.2.2.2.2.1>3) then some 1
 else bif decide (a2.2.2.2.2.2.1<0) then some 1
 else bif decide (a2.2.2.2.2.2.1>a2.2.2.2.2.2.2) then some 1
 else bif decide (a2.2.2.2.2.2.2<a1) then some 1
 else bif decide (a2.2.2.2.2.2.2>1048576) then some 1
 else(CR k a0 a1 a2.2.2.2.2.1).bind fun x0=>
 some x0
abbrev XF:Type:=AC→Int→Int→Option (AC×Int×Int)
def CJ (k:Nat)(rec:XF)(s0:AC)(s1 s6:Int):Option (AC×Int×Int):=
 bif decide (s6 < (s0.length : Int)) then (bif zC s6 s0.length then (bif decide ((s0.getD s6.toNat 0)<s1) then(rec s0 s1 (zA (s6+1)))
   else some (s0,s1,s6))
  else none)
 else some (s0,s1,s6)
def G9 (k:Nat):Nat→XF:=vH (fun _ _ _=>none) (CJ k)
def xh (k:Nat)(a0:AC)(a1:Int):Option (AC×Int):=
 (xg k a0 a1).bind fun x0=>
 bif x0 then some (a0,6)
 else bif decide ((a0.length:Int)≥200) then some (a0,3)
 else(G9 k k a0 a1 0).bind fun z=>
 bif (decide (0 ≤ z.2.2)) && (decide (z.2.2 ≤ (z.1.length : Int))) then (bif zR (0 + (List.take z.2.2.toNat z.1).length) 8 then (bif zR ((List.take z.2.2.toNat z.1).length + 1) 8 then (bif (decide (0 ≤ z.2.2)) && (decide (z.2.2 ≤ (z.1.length : Int))) then (bif zR (((List.take z.2.2.toNat z.1) ++ [z.2.1]).length + (List.drop z.2.2.toNat z.1).length) 8 then (let y0:AC:=(((List.take z.2.2.toNat z.1)++[z.2.1])++(List.drop z.2.2.toNat z.1))
      some (y0,0))
     else none)
    else none)
   else none)
  else none)
 else none
abbrev XH:Type:=List zB→Int→Int→Int→Int→Int→Int→Int→Int→Option Int
def CH (k:Nat)(rec:XH)(s0:List zB)(s5 aa ae af ab aV bd bg:Int):Option Int:=
 bif decide (s5 < (s0.length : Int)) then (bif zC s5 s0.length then ((CC k (s0.getD s5.toNat (0,0,0,0,0,0,0)).1 (s0.getD s5.toNat (0,0,0,0,0,0,0)).2.1 (s0.getD s5.toNat (0,0,0,0,0,0,0)).2.2.1 (s0.getD s5.toNat (0,0,0,0,0,0,0)).2.2.2.1 (s0.getD s5.toNat (0,0,0,0,0,0,0)).2.2.2.2.1 (s0.getD s5.toNat (0,0,0,0,0,0,0)).2.2.2.2.2.1 (s0.getD s5.toNat (0,0,0,0,0,0,0)).2.2.2.2.2.2 aa ae af ab aV bd bg).bind fun x0=>
   bif x0 then(rec s0 (zA (s5+1)) aa ae af ab aV bd bg)
   else some s5)
  else none)
 else some s5
def CG (k:Nat):Nat→XH
 |0,_,_,_,_,_,_,_,_,_=>none
 |n+1,s0,s5,aa,ae,af,ab,aV,bd,bg=>CH k (CG k n) s0 s5 aa ae af ab aV bd bg
def CF (k:Nat)(a0:List zB)(oS gi ka lE kb rz rA:Int):Option Int:=
 (CG k k a0 0 oS gi ka lE kb rz rA).bind fun z=>
 some z
def xe (k:Nat)(a0:List zB)(a1 vSz vS0 vS1 vS2 vS3 vS4 vS5:Int):Option (List zB):=
 bif (decide (0 ≤ a1)) && (decide (a1 ≤ (a0.length : Int))) then (bif zR (0 + (List.take a1.toNat a0).length) 56 then (bif zR ((List.take a1.toNat a0).length + 1) 56 then (let y0:List zB:=((List.take a1.toNat a0)++[(vSz,vS0,vS1,vS2,vS3,vS4,vS5)])
    bif (decide (0 ≤ a1)) && (decide (a1 ≤ (a0.length : Int))) then (bif zR (y0.length+(List.drop a1.toNat a0).length) 56 then some (y0++(List.drop a1.toNat a0))
     else none)
    else none)
   else none)
  else none)
 else none
def xf (k:Nat)(a0:List zB)(oS gi ka lE kb rz rA:Int):Option ((List zB)×Int):=
 (j0 k a0 oS).bind fun x0=>
 bif decide (x0≥0) then some (a0,6)
 else bif decide ((a0.length:Int)≥40) then some (a0,3)
 else(CF k a0 oS gi ka lE kb rz rA).bind fun x1=>
 (xe k a0 x1 oS gi ka lE kb rz rA).bind fun x2=>
 some (x2,0)
def Lv (k:Nat)(a0:nq)(a1:Im):Option (Int×ru):=
 (qq k (qU a0 ([],a0.2.2.2.2.2.2.2.2.2.2.2.2.2.2.2.2.2)) a1.2.1).bind fun x0=>
 bif decide (a1.2.2.2.1 ≥ 1) then (bif decide (a1.2.2.2.1 ≤ 3) then ((xk k (qX a0) a0.2.2.2.2.2.1 (a1.1,a0.2.2.2.2.2.2.2.2.2.2.2.2.2.2.2.2.1,x0,a1.2.2)).bind fun x1=>
   bif !(decide (x1=0)) then some (x1,(qU a0 ([],a0.2.2.2.2.2.2.2.2.2.2.2.2.2.2.2.2.2)))
   else(xh k a0.2.2.2.2.2.2.2.2.2.2.2.2.2.1 a1.1).bind fun x2=>
   bif !(decide (x2.2=0)) then some (x2.2,(qU a0 ([],a0.2.2.2.2.2.2.2.2.2.2.2.2.2.2.2.2.2)))
   else(xf k a0.2.2.2.2.2.2.2.2.2.2.2.2.1 a1.1 a0.2.2.2.2.2.2.2.2.2.2.2.2.2.2.2.2.1 x0 a1.2.2.1 a1.2.2.2.1 a1.2.2.2.2.1 a1.2.2.2.2.2).bind fun x3=>
   bif !(decide (x3.2=0)) then some (x3.2,(qU a0 ([],a0.2.2.2.2.2.2.2.2.2.2.2.2.2.2.2.2.2)))
   else some (0,(gU a0 (x3.1,x2.1,a0.2.2.2.2.2.2.2.2.2.2.2.2.2.2.1,a0.2.2.2.2.2.2.2.2.2.2.2.2.2.2.2.1,a0.2.2.2.2.2.2.2.2.2.2.2.2.2.2.2.2.1,[],a1.1))))
  else(xk k (qX a0) a0.2.2.2.2.2.1 (a1.1,a0.2.2.2.2.2.2.2.2.2.2.2.2.2.2.2.2.1,x0,a1.2.2.1,0,a1.2.2.2.2)).bind fun x4=>
  bif !(decide (x4=0)) then some (x4,(qU a0 ([],a0.2.2.2.2.2.2.2.2.2.2.2.2.2.2.2.2.2)))
  else(xh k a0.2.2.2.2.2.2.2.2.2.2.2.2.2.1 a1.1).bind fun x5=>
  bif !(decide (x5.2=0)) then some (x5.2,(qU a0 ([],a0.2.2.2.2.2.2.2.2.2.2.2.2.2.2.2.2.2)))
  else(xf k a0.2.2.2.2.2.2.2.2.2.2.2.2.1 a1.1 a0.2.2.2.2.2.2.2.2.2.2.2.2.2.2.2.2.1 x0 a1.2.2.1 0 a1.2.2.2.2.1 a1.2.2.2.2.2).bind fun x6=>
  bif !(decide (x6.2=0)) then some (x6.2,(qU a0 ([],a0.2.2.2.2.2.2.2.2.2.2.2.2.2.2.2.2.2)))
  else some (0,(gU a0 (x6.1,x5.1,a0.2.2.2.2.2.2.2.2.2.2.2.2.2.2.1,a0.2.2.2.2.2.2.2.2.2.2.2.2.2.2.2.1,a0.2.2.2.2.2.2.2.2.2.2.2.2.2.2.2.2.1,[],a1.1))))
 else(xk k (qX a0) a0.2.2.2.2.2.1 (a1.1,a0.2.2.2.2.2.2.2.2.2.2.2.2.2.2.2.2.1,x0,a1.2.2.1,0,a1.2.2.2.2)).bind fun x7=>
 bif !(decide (x7=0)) then some (x7,(qU a0 ([],a0.2.2.2.2.2.2.2.2.2.2.2.2.2.2.2.2.2)))
 else(xh k a0.2.2.2.2.2.2.2.2.2.2.2.2.2.1 a1.1).bind fun x8=>
 bif !(decide (x8.2=0)) then some (x8.2,(qU a0 ([],a0.2.2.2.2.2.2.2.2.2.2.2.2.2.2.2.2.2)))
 else(xf k a0.2.2.2.2.2.2.2.2.2.2.2.2.1 a1.1 a0.2.2.2.2.2.2.2.2.2.2.2.2.2.2.2.2.1 x0 a1.2.2.1 0 a1.2.2.2.2.1 a1.2.2.2.2.2).bind fun x9=>
 bif !(decide (x9.2=0)) then some (x9.2,(qU a0 ([],a0.2.2.2.2.2.2.2.2.2.2.2.2.2.2.2.2.2)))
 else some (0,(gU a0 (x9.1,x8.1,a0.2.2.2.2.2.2.2.2.2.2.2.2.2.2.1,a0.2.2.2.2.2.2.2.2.2.2.2.2.2.2.2.1,a0.2.2.2.2.2.2.2.2.2.2.2.2.2.2.2.2.1,[],a1.1)))
def qVu (k:Nat)(a0:ru)(a1:Int):Option (zB×Bool):=
 (j0 k a0.2.2.2.2.2.2.2.2.2.2.2.2.1 a1).bind fun x0=>
 bif decide (x0<0) then some ((0,0,0,0,0,0,0),false)
 else bif zC x0 a0.2.2.2.2.2.2.2.2.2.2.2.2.1.length then (bif !(decide ((a0.2.2.2.2.2.2.2.2.2.2.2.2.1.getD x0.toNat (0,0,0,0,0,0,0)).2.1=a0.2.2.2.2.2.2.2.2.2.2.2.2.2.2.2.2.1)) then some ((0,0,0,0,0,0,0),false)
  else bif zC x0 a0.2.2.2.2.2.2.2.2.2.2.2.2.1.length then some ((a0.2.2.2.2.2.2.2.2.2.2.2.2.1.getD x0.toNat (0,0,0,0,0,0,0)),true)
  else none)
 else none
def CI (k:Nat)(rec:Um)(s6:List zB)(s9:Int)(b0:zB):Option Uo:=
 bif decide (s9 < (s6.length : Int)) then (bif zC s9 s6.length then ((CC k b0.1 b0.2.1 b0.2.2.1 b0.2.2.2.1 b0.2.2.2.2.1 b0.2.2.2.2.2.1 b0.2.2.2.2.2.2 (s6.getD s9.toNat (0,0,0,0,0,0,0)).1 (s6.getD s9.toNat (0,0,0,0,0,0,0)).2.1 (s6.getD s9.toNat (0,0,0,0,0,0,0)).2.2.1 (s6.getD s9.toNat (0,0,0,0,0,0,0)).2.2.2.1 (s6.getD s9.toNat (0,0,0,0,0,0,0)).2.2.2.2.1 (s6.getD s9.toNat (0,0,0,0,0,0,0)).2.2.2.2.2.1 (s6.getD s9.toNat (0,0,0,0,0,0,0)).2.2.2.2.2.2).bind fun x1=>
   bif !x1 then(rec s6 (zA (s9+1)) b0)
   else some (s6,s9,b0))
  else none)
 else some (s6,s9,b0)
def G8 (k:Nat):Nat→Um:=vH (fun _ _ _=>none) (CI k)
def G6 (k:Nat)(a0:List zB)(a1:Int):Option ((List zB)×Int):=
 (ly k a0 a1).bind fun x0=>
 bif !(decide (x0.2.2.2.2.2.2.2.2=0)) then some (a0,x0.2.2.2.2.2.2.2.2)
 else(G8 k k x0.1 0 (My x0)).bind fun z=>
 (xe k z.1 z.2.1 z.2.2.1 z.2.2.2.1 z.2.2.2.2.1 z.2.2.2.2.2.1 z.2.2.2.2.2.2.1 z.2.2.2.2.2.2.2.1 z.2.2.2.2.2.2.2.2).bind fun x2=>
 some (x2,0)
def G5 (k:Nat)(a0:List zB)(a1:Int):Option ((List zB)×Int):=
 (ly k a0 a1).bind fun x0=>
 bif !(decide (x0.2.2.2.2.2.2.2.2=0)) then some (a0,x0.2.2.2.2.2.2.2.2)
 else(CF k x0.1 x0.2.1 x0.2.2.1 x0.2.2.2.1 x0.2.2.2.2.1 x0.2.2.2.2.2.1 x0.2.2.2.2.2.2.1 x0.2.2.2.2.2.2.2.1).bind fun x1=>
 (xe k x0.1 x1 x0.2.1 x0.2.2.1 x0.2.2.2.1 x0.2.2.2.2.1 x0.2.2.2.2.2.1 x0.2.2.2.2.2.2.1 x0.2.2.2.2.2.2.2.1).bind fun x2=>
 some (x2,0)
def G4 (k:Nat)(a0:List zB)(a1 a2:Int):Option ((List zB)×Int):=
 (ly k a0 a1).bind fun x0=>
 bif !(decide (x0.2.2.2.2.2.2.2.2=0)) then some (a0,x0.2.2.2.2.2.2.2.2)
 else(CF k x0.1 x0.2.1 x0.2.2.1 x0.2.2.2.1 x0.2.2.2.2.1 a2 x0.2.2.2.2.2.2.1 x0.2.2.2.2.2.2.2.1).bind fun x1=>
 (xe k x0.1 x1 x0.2.1 x0.2.2.1 x0.2.2.2.1 x0.2.2.2.2.1 a2 x0.2.2.2.2.2.2.1 x0.2.2.2.2.2.2.2.1).bind fun x2=>
 some (x2,0)
def xm (k:Nat)(a0:nq)(a1:Int)(a2:Im):Option (Int×ru):=
 (qVu k (qU a0 ([],a0.2.2.2.2.2.2.2.2.2.2.2.2.2.2.2.2.2)) a2.1).bind fun x0=>
 bif !x0.2 then some (4,(qU a0 ([],a0.2.2.2.2.2.2.2.2.2.2.2.2.2.2.2.2.2)))
 else bif decide (a1 = 2) then ((ly k a0.2.2.2.2.2.2.2.2.2.2.2.2.1 a2.1).bind fun x1=>
  (wY k 20 [a2.1]).bind fun x2=>
  some (0,(gU a0 (x1.1,(M5 a0 ([(a0.2.2.2.2.2.2.2.2.2.2.2.2.2.2.2.2.1,x2)],a0.2.2.2.2.2.2.2.2.2.2.2.2.2.2.2.2.2))))))
 else bif decide (a1 = 3) then (bif decide (a2.2.1 = 0) then ((G6 k a0.2.2.2.2.2.2.2.2.2.2.2.2.1 a2.1).bind fun x3=>
   some (0,(gU a0 (x3.1,(M5 a0 ([],a0.2.2.2.2.2.2.2.2.2.2.2.2.2.2.2.2.2))))))
  else bif decide (a2.2.1 = 1) then ((G5 k a0.2.2.2.2.2.2.2.2.2.2.2.2.1 a2.1).bind fun x4=>
   some (0,(gU a0 (x4.1,(M5 a0 ([],a0.2.2.2.2.2.2.2.2.2.2.2.2.2.2.2.2.2))))))
  else some (1,(qU a0 ([],a0.2.2.2.2.2.2.2.2.2.2.2.2.2.2.2.2.2))))
 else bif decide (a2.2.1<1) then some (1,(qU a0 ([],a0.2.2.2.2.2.2.2.2.2.2.2.2.2.2.2.2.2)))
 else bif decide (a2.2.1>3) then some (1,(qU a0 ([],a0.2.2.2.2.2.2.2.2.2.2.2.2.2.2.2.2.2)))
 else(CR k (qX a0) a0.2.2.2.2.2.1 a2.2.1).bind fun x5=>
 bif !(decide (x5=0)) then some (x5,(qU a0 ([],a0.2.2.2.2.2.2.2.2.2.2.2.2.2.2.2.2.2)))
 else(G4 k a0.2.2.2.2.2.2.2.2.2.2.2.2.1 a2.1 a2.2.1).bind fun x6=>
 some (0,(gU a0 (x6.1,(M5 a0 ([],a0.2.2.2.2.2.2.2.2.2.2.2.2.2.2.2.2.2)))))
def xn (k:Nat)(a0:nq)(a1:Int)(a2:Im):Option (Int×ru):=
 (mb k a0.2.2.2.2.2.2.1 a0.2.2.2.2.2.2.2.1 a0.2.2.2.2.2.2.2.2.1 a0.2.2.2.2.2.2.2.2.2.1).bind fun x0=>
 bif decide (a1 = 5) then ((qq k (qU a0 ([],a0.2.2.2.2.2.2.2.2.2.2.2.2.2.2.2.2.2)) a2.1).bind fun x1=>
  bif decide (x1<0) then some (1,(qU a0 ([],a0.2.2.2.2.2.2.2.2.2.2.2.2.2.2.2.2.2)))
  else bif decide (x1=a0.2.2.2.2.2.2.2.2.2.2.2.2.2.2.2.2.1) then some (1,(qU a0 ([],a0.2.2.2.2.2.2.2.2.2.2.2.2.2.2.2.2.2)))
  else bif decide (a2.2.1<(-1)) then some (1,(qU a0 ([],a0.2.2.2.2.2.2.2.2.2.2.2.2.2.2.2.2.2)))
  else bif decide (a2.2.1>1152921504606846976) then some (1,(qU a0 ([],a0.2.2.2.2.2.2.2.2.2.2.2.2.2.2.2.2.2)))
  else bif zC a0.2.2.2.2.2.2.2.2.2.2.2.2.2.2.2.2.1 x0.2.1.length then (bif zC x1 (x0.2.1.getD a0.2.2.2.2.2.2.2.2.2.2.2.2.2.2.2.2.1.toNat []).length then (let y0:EQ:=(x0.2.1.set a0.2.2.2.2.2.2.2.2.2.2.2.2.2.2.2.2.1.toNat ((x0.2.1.getD a0.2.2.2.2.2.2.2.2.2.2.2.2.2.2.2.2.1.toNat []).set x1.toNat a2.2.1))
    some (0,(wJ a0 (x0.1,y0,x0.2.2.1,x0.2.2.2,(X5 a0 ([],a0.2.2.2.2.2.2.2.2.2.2.2.2.2.2.2.2.2))))))
   else none)
  else none)
 else bif decide (a1 = 6) then (bif decide (a2.1<(-1)) then some (1,(qU a0 ([],a0.2.2.2.2.2.2.2.2.2.2.2.2.2.2.2.2.2)))
  else bif decide (a2.1>1152921504606846976) then some (1,(qU a0 ([],a0.2.2.2.2.2.2.2.2.2.2.2.2.2.2.2.2.2)))
  else bif zC a0.2.2.2.2.2.2.2.2.2.2.2.2.2.2.2.2.1 x0.2.2.1.length then (let y1:AC:=(x0.2.2.1.set a0.2.2.2.2.2.2.2.2.2.2.2.2.2.2.2.2.1.toNat a2.1)
   some (0,(wJ a0 (x0.1,x0.2.1,y1,x0.2.2.2,(X5 a0 ([],a0.2.2.2.2.2.2.2.2.2.2.2.2.2.2.2.2.2))))))
  else none)
 else bif decide (a2.1<0) then some (1,(qU a0 ([],a0.2.2.2.2.2.2.2.2.2.2.2.2.2.2.2.2.2)))
 else bif decide (a2.1>1152921504606846976) then some (1,(qU a0 ([],a0.2.2.2.2.2.2.2.2.2.2.2.2.2.2.2.2.2)))
 else bif zC a0.2.2.2.2.2.2.2.2.2.2.2.2.2.2.2.2.1 x0.1.length then (let y2:List zH:=(x0.1.set a0.2.2.2.2.2.2.2.2.2.2.2.2.2.2.2.2.1.toNat ((x0.1.getD a0.2.2.2.2.2.2.2.2.2.2.2.2.2.2.2.2.1.toNat (0,0,0)).1,(x0.1.getD a0.2.2.2.2.2.2.2.2.2.2.2.2.2.2.2.2.1.toNat (0,0,0)).2.1,a2.1))
  some (0,(wJ a0 (y2,x0.2.1,x0.2.2.1,x0.2.2.2,(X5 a0 ([],a0.2.2.2.2.2.2.2.2.2.2.2.2.2.2.2.2.2))))))
 else none
def qs (k:Nat)(a0:AC)(a1 a2:Int):Option AC:=
 bif zR (0 + a0.length) 8 then (bif decide (a1 ≥ 0) then (bif decide (a1 < (a0.length : Int)) then (bif zC a1 a0.length then some (a0.set a1.toNat a2)
    else none)
   else some a0)
  else some a0)
 else none
def Lw (k:Nat)(a0:nq)(a1 a2:Int):Option (Int×ru):=
 bif decide (a1<0) then some (1,(qU a0 ([],a0.2.2.2.2.2.2.2.2.2.2.2.2.2.2.2.2.2)))
 else bif decide (a1≥(a0.2.1.length:Int)) then some (1,(qU a0 ([],a0.2.2.2.2.2.2.2.2.2.2.2.2.2.2.2.2.2)))
 else bif decide (a2<0) then some (1,(qU a0 ([],a0.2.2.2.2.2.2.2.2.2.2.2.2.2.2.2.2.2)))
 else bif decide (a2>1099511627776) then some (1,(qU a0 ([],a0.2.2.2.2.2.2.2.2.2.2.2.2.2.2.2.2.2)))
 else bif zC a0.2.2.2.2.2.2.2.2.2.2.2.2.2.2.2.2.1 a0.2.2.2.2.2.2.2.2.2.2.2.1.length then ((qs k (a0.2.2.2.2.2.2.2.2.2.2.2.1.getD a0.2.2.2.2.2.2.2.2.2.2.2.2.2.2.2.2.1.toNat []) a1 a2).bind fun x0=>
  (tE k a0.2.1 a0.2.2.2.2.2.2.2.2.2.2.1 x0).bind fun x1=>
  bif !x1.2 then some (8,(qU a0 ([],a0.2.2.2.2.2.2.2.2.2.2.2.2.2.2.2.2.2)))
  else bif decide (x1.1>1152921504606846976) then some (8,(qU a0 ([],a0.2.2.2.2.2.2.2.2.2.2.2.2.2.2.2.2.2)))
  else(mb k a0.2.2.2.2.2.2.1 a0.2.2.2.2.2.2.2.1 a0.2.2.2.2.2.2.2.2.1 a0.2.2.2.2.2.2.2.2.2.1).bind fun x2=>
  bif zC a0.2.2.2.2.2.2.2.2.2.2.2.2.2.2.2.2.1 x2.1.length then (bif decide (x1.1 < (x2.1.getD a0.2.2.2.2.2.2.2.2.2.2.2.2.2.2.2.2.1.toNat (0, 0, 0)).2.1) then (bif decide ((zA ((x2.1.getD a0.2.2.2.2.2.2.2.2.2.2.2.2.2.2.2.2.1.toNat (0,0,0)).1+x1.1))<0) then some (9,(qU a0 ([],a0.2.2.2.2.2.2.2.2.2.2.2.2.2.2.2.2.2)))
    else bif zC a0.2.2.2.2.2.2.2.2.2.2.2.2.2.2.2.2.1 x2.1.length then (let y0:List zH:=(x2.1.set a0.2.2.2.2.2.2.2.2.2.2.2.2.2.2.2.2.1.toNat ((x2.1.getD a0.2.2.2.2.2.2.2.2.2.2.2.2.2.2.2.2.1.toNat (0,0,0)).1,x1.1,(x2.1.getD a0.2.2.2.2.2.2.2.2.2.2.2.2.2.2.2.2.1.toNat (0,0,0)).2.2))
     bif zR (0 + a0.2.2.2.2.2.2.2.2.2.2.2.1.length) 24 then (bif zC a0.2.2.2.2.2.2.2.2.2.2.2.2.2.2.2.2.1 a0.2.2.2.2.2.2.2.2.2.2.2.1.length then (let y1:EQ:=(a0.2.2.2.2.2.2.2.2.2.2.2.1.set a0.2.2.2.2.2.2.2.2.2.2.2.2.2.2.2.2.1.toNat x0)
       some (0,(wJ a0 (y0,x2.2.1,x2.2.2.1,x2.2.2.2,a0.2.2.2.2.2.2.2.2.2.2.1,y1,(yEf a0 ([],a0.2.2.2.2.2.2.2.2.2.2.2.2.2.2.2.2.2))))))
      else none)
     else none)
    else none)
   else bif zC a0.2.2.2.2.2.2.2.2.2.2.2.2.2.2.2.2.1 x2.1.length then (let y2:List zH:=(x2.1.set a0.2.2.2.2.2.2.2.2.2.2.2.2.2.2.2.2.1.toNat ((x2.1.getD a0.2.2.2.2.2.2.2.2.2.2.2.2.2.2.2.2.1.toNat (0,0,0)).1,x1.1,(x2.1.getD a0.2.2.2.2.2.2.2.2.2.2.2.2.2.2.2.2.1.toNat (0,0,0)).2.2))
    bif zR (0 + a0.2.2.2.2.2.2.2.2.2.2.2.1.length) 24 then (bif zC a0.2.2.2.2.2.2.2.2.2.2.2.2.2.2.2.2.1 a0.2.2.2.2.2.2.2.2.2.2.2.1.length then (let y3:EQ:=(a0.2.2.2.2.2.2.2.2.2.2.2.1.set a0.2.2.2.2.2.2.2.2.2.2.2.2.2.2.2.2.1.toNat x0)
      some (0,(wJ a0 (y2,x2.2.1,x2.2.2.1,x2.2.2.2,a0.2.2.2.2.2.2.2.2.2.2.1,y3,(yEf a0 ([],a0.2.2.2.2.2.2.2.2.2.2.2.2.2.2.2.2.2))))))
     else none)
    else none)
   else none)
  else none)
 else none
def CT (k:Nat)(a0:zH)(a1:Int):Option (zH×Int):=
 (CD k a0.1 a1).bind fun x0=>
 bif !x0.2 then some (a0,8)
 else(Fs k x0.1 a0.2.1 a0.2.2).bind fun x1=>
 bif !x1 then some (a0,8)
 else some ((x0.1,a0.2),0)
def CU (k:Nat)(a0:nq)(a1:Bool)(a2 a3:Int):Option (Int×ru):=
 (qq k (qU a0 ([],a0.2.2.2.2.2.2.2.2.2.2.2.2.2.2.2.2.2)) a2).bind fun x0=>
 bif decide (x0<0) then some (1,(qU a0 ([],a0.2.2.2.2.2.2.2.2.2.2.2.2.2.2.2.2.2)))
 else bif decide (a3<1) then some (1,(qU a0 ([],a0.2.2.2.2.2.2.2.2.2.2.2.2.2.2.2.2.2)))
 else bif decide (a3>1099511627776) then some (1,(qU a0 ([],a0.2.2.2.2.2.2.2.2.2.2.2.2.2.2.2.2.2)))
 else(mb k a0.2.2.2.2.2.2.1 a0.2.2.2.2.2.2.2.1 a0.2.2.2.2.2.2.2.2.1 a0.2.2.2.2.2.2.2.2.2.1).bind fun x1=>
 bif a1 then (bif zC x0 x1.1.length then ((CT k (x1.1.getD x0.toNat (0,0,0)) a3).bind fun x2=>
   bif decide ((zA (a0.2.2.2.2.2.2.2.2.2.2.2.2.2.2.1+a3))>1152921504606846976) then some (8,(qU a0 ([],a0.2.2.2.2.2.2.2.2.2.2.2.2.2.2.2.2.2)))
   else bif !(decide (x2.2=0)) then some (8,(qU a0 ([],a0.2.2.2.2.2.2.2.2.2.2.2.2.2.2.2.2.2)))
   else bif zC x0 x1.1.length then some (0,(wJ a0 ((x1.1.set x0.toNat x2.1),x1.2.1,x1.2.2.1,x1.2.2.2,(D3 a0 ((zA (a0.2.2.2.2.2.2.2.2.2.2.2.2.2.2.1+a3)),a0.2.2.2.2.2.2.2.2.2.2.2.2.2.2.2.1,a0.2.2.2.2.2.2.2.2.2.2.2.2.2.2.2.2.1,[],a0.2.2.2.2.2.2.2.2.2.2.2.2.2.2.2.2.2)))))
   else none)
  else none)
 else bif zC x0 x1.1.length then (bif decide ((zA ((zA ((x1.1.getD x0.toNat (0,0,0)).1+(x1.1.getD x0.toNat (0,0,0)).2.1))-(x1.1.getD x0.toNat (0,0,0)).2.2))<a3) then some (9,(qU a0 ([],a0.2.2.2.2.2.2.2.2.2.2.2.2.2.2.2.2.2)))
  else bif decide (a0.2.2.2.2.2.2.2.2.2.2.2.2.2.2.1<a3) then some (9,(qU a0 ([],a0.2.2.2.2.2.2.2.2.2.2.2.2.2.2.2.2.2)))
  else bif zC x0 x1.1.length then (let y0:List zH:=(x1.1.set x0.toNat ((zA ((x1.1.getD x0.toNat (0,0,0)).1-a3)),(x1.1.getD x0.toNat (0,0,0)).2))
   some (0,(wJ a0 (y0,x1.2.1,x1.2.2.1,x1.2.2.2,(D3 a0 ((zA (a0.2.2.2.2.2.2.2.2.2.2.2.2.2.2.1-a3)),a0.2.2.2.2.2.2.2.2.2.2.2.2.2.2.2.1,a0.2.2.2.2.2.2.2.2.2.2.2.2.2.2.2.2.1,[],a0.2.2.2.2.2.2.2.2.2.2.2.2.2.2.2.2.2))))))
  else none)
 else none
abbrev XS:Type:=(nq×AC×(List zH)×EQ×AC×EQ)⊕(Int×nq)
abbrev XQ:Type:=Int→nq→AC→List zH→EQ→AC→EQ→Option XS
def CV (k:Nat)(rec:XQ)(s9:Int)(b0:nq)(r1:AC)(r3:List zH)(m4:EQ)(r5:AC)(m6:EQ):Option XS:=
 bif decide (s9 < (r3.length : Int)) then (bif zC s9 b0.2.2.2.2.2.2.2.2.2.2.2.1.length then ((tE k b0.2.1 r1 (b0.2.2.2.2.2.2.2.2.2.2.2.1.getD s9.toNat [])).bind fun x2=>
   bif !x2.2 then some (.inr (8,b0))
   else bif decide (x2.1>1152921504606846976) then some (.inr (8,b0))
   else bif zC s9 r3.length then (let y0:List zH:=(r3.set s9.toNat ((r3.getD s9.toNat (0,0,0)).1,x2.1,(r3.getD s9.toNat (0,0,0)).2.2))
    rec (zA (s9+1)) b0 r1 y0 m4 r5 m6)
   else none)
  else none)
 else some (.inl (b0,r1,r3,m4,r5,m6))
def qt (k:Nat):Nat→XQ:=vH (fun _ _ _ _ _ _ _=>none) (CV k)
def Lx (k:Nat)(a0:nq)(a1 a2:Int):Option (Int×ru):=
 bif decide (a1<0) then some (1,(qU a0 ([],a0.2.2.2.2.2.2.2.2.2.2.2.2.2.2.2.2.2)))
 else bif decide (a1≥(a0.2.1.length:Int)) then some (1,(qU a0 ([],a0.2.2.2.2.2.2.2.2.2.2.2.2.2.2.2.2.2)))
 else bif decide (a2<0) then some (1,(qU a0 ([],a0.2.2.2.2.2.2.2.2.2.2.2.2.2.2.2.2.2)))
 else bif decide (a2>1048576) then some (1,(qU a0 ([],a0.2.2.2.2.2.2.2.2.2.2.2.2.2.2.2.2.2)))
 else(qs k a0.2.2.2.2.2.2.2.2.2.2.1 a1 a2).bind fun x0=>
 (mb k a0.2.2.2.2.2.2.1 a0.2.2.2.2.2.2.2.1 a0.2.2.2.2.2.2.2.2.1 a0.2.2.2.2.2.2.2.2.2.1).bind fun x1=>
 (qt k k 0 a0 x0 x1.1 x1.2.1 x1.2.2.1 x1.2.2.2).bind fun z=>
 match z with
 |.inl z1=>some (0,(wJ z1.1 (xi z1 (z1.2.1,(yRj z1.1 ([],z1.1.2.2.2.2.2.2.2.2.2.2.2.2.2.2.2.2.2))))))
 |.inr z2=>some (qU1 z2 ([],z2.2.2.2.2.2.2.2.2.2.2.2.2.2.2.2.2.2.2))
def tM (k:Nat)(a0:nq)(a1:zB):Option (Int×ru):=
 bif decide (a1.1 = 1) then ((Lv k a0 a1.2).bind fun x0=>
  some (x0.1,x0.2))
 else bif decide (a1.1 = 2) then ((xm k a0 a1.1 a1.2).bind fun x1=>
  some (x1.1,x1.2))
 else bif decide (a1.1 = 3) then ((xm k a0 a1.1 a1.2).bind fun x2=>
  some (x2.1,x2.2))
 else bif decide (a1.1 = 4) then ((xm k a0 a1.1 a1.2).bind fun x3=>
  some (x3.1,x3.2))
 else bif decide (a1.1 = 5) then ((xn k a0 a1.1 a1.2).bind fun x4=>
  some (x4.1,x4.2))
 else bif decide (a1.1 = 6) then ((xn k a0 a1.1 a1.2).bind fun x5=>
  some (x5.1,x5.2))
 else bif decide (a1.1 = 7) then ((xn k a0 a1.1 a1.2).bind fun x6=>
  some (x6.1,x6.2))
 else bif decide (a1.1 = 8) then ((Lw k a0 a1.2.1 a1.2.2.1).bind fun x7=>
  some (x7.1,x7.2))
 else bif decide (a1.1 = 10) then ((CU k a0 (decide (a1.1=10)) a1.2.1 a1.2.2.1).bind fun x8=>
  some (x8.1,x8.2))
 else bif decide (a1.1 = 11) then ((CU k a0 (decide (a1.1=10)) a1.2.1 a1.2.2.1).bind fun x9=>
  some (x9.1,x9.2))
 else bif decide (a1.1 = 12) then ((Lx k a0 a1.2.1 a1.2.2.1).bind fun gf=>
  some (gf.1,gf.2))
 else some (0,(qU a0 ([],a0.2.2.2.2.2.2.2.2.2.2.2.2.2.2.2.2.2)))
def Hu (k:Nat)(a0:yJ)(a1:yM)(a2:qO):Option (yM×(List qO)×Int):=
 (xq k a0 a2).bind fun x0=>
 bif !x0 then some (a1,[],5)
 else bif a1.2.2.2.2.2.2.2.2.2.2 then (bif !(decide (a2.2.1=9)) then some (a1,[],7)
  else bif decide (a2.2.1 = 9) then (bif zC a2.1 a1.2.1.length then ((pY k a1.2.2.2.2.2.2.2.1 a2.1).bind fun x1=>
    (wY k 17 [(a1.2.1.getD a2.1.toNat (0,0,0)).1,(a1.2.1.getD a2.1.toNat (0,0,0)).2.1,(a1.2.1.getD a2.1.toNat (0,0,0)).2.2,(x1.length:Int),a1.1]).bind fun x2=>
    some (a1,[(a2.1,x2)],0))
   else none)
  else bif decide (a2.2.1 = 14) then ((Dg k a0 a1).bind fun x3=>
   some (x3.1,x3.2,0))
  else(tM k (eW a0 (jP a1 (a2.1,0))) a2.2).bind fun x4=>
  bif !(decide (x4.1=0)) then some (a1,[],x4.1)
  else bif !(decide (a2.1 = (-1))) then ((wY k 15 []).bind fun x5=>
   (lz k x4.2.2.2.2.2.2.1 x4.2.2.2.2.2.2.2.1 x4.2.2.2.2.2.2.2.2.1 x4.2.2.2.2.2.2.2.2.2.1 x4.2.2.2.2.2.2.2.2.2.2.1 x4.2.2.2.2.2.2.2.2.2.2.2.1 x4.2.2.2.2.2.2.2.2.2.2.2.2.1 x4.2.2.2.2.2.2.2.2.2.2.2.2.2.1 x4.2.2.2.2.2.2.2.2.2.2.2.2.2.2.1 x4.2.2.2.2.2.2.2.2.2.2.2.2.2.2.2.1 x4.2.2.2.2.2.2.2.2.2.2.2.2.2.2.2.2.1 (decide (a2.2.1=13))).bind fun x6=>
   bif zR (1 + x4.2.2.2.2.2.2.2.2.2.2.2.2.2.2.2.2.2.2.1.length) 64 then (let y0:List qO:=([(a2.1,x5)]++x4.2.2.2.2.2.2.2.2.2.2.2.2.2.2.2.2.2.2.1)
    bif zR (y0.length + x6.2.2.2.2.2.2.2.2.2.2.2.length) 64 then (bif decide (x4.2.2.2.2.2.2.2.2.2.2.2.2.2.2.2.2.2.2.2 > 0) then ((j0 k x6.2.2.2.2.2.2.2.1 x4.2.2.2.2.2.2.2.2.2.2.2.2.2.2.2.2.2.2.2).bind fun x7=>
      bif decide (x7 ≥ 0) then ((wY k 19 [x4.2.2.2.2.2.2.2.2.2.2.2.2.2.2.2.2.2.2.2]).bind fun x8=>
       bif zR ((y0 ++ x6.2.2.2.2.2.2.2.2.2.2.2).length + 1) 64 then (let y1:List qO:=((y0++x6.2.2.2.2.2.2.2.2.2.2.2)++[(a2.1,x8)])
        some ((qR x6),y1,0))
       else none)
      else some ((qR x6),(y0++x6.2.2.2.2.2.2.2.2.2.2.2),0))
     else some ((qR x6),(y0++x6.2.2.2.2.2.2.2.2.2.2.2),0))
    else none)
   else none)
  else(lz k x4.2.2.2.2.2.2.1 x4.2.2.2.2.2.2.2.1 x4.2.2.2.2.2.2.2.2.1 x4.2.2.2.2.2.2.2.2.2.1 x4.2.2.2.2.2.2.2.2.2.2.1 x4.2.2.2.2.2.2.2.2.2.2.2.1 x4.2.2.2.2.2.2.2.2.2.2.2.2.1 x4.2.2.2.2.2.2.2.2.2.2.2.2.2.1 x4.2.2.2.2.2.2.2.2.2.2.2.2.2.2.1 x4.2.2.2.2.2.2.2.2.2.2.2.2.2.2.2.1 x4.2.2.2.2.2.2.2.2.2.2.2.2.2.2.2.2.1 (decide (a2.2.1=13))).bind fun x9=>
  bif zR x4.2.2.2.2.2.2.2.2.2.2.2.2.2.2.2.2.2.2.1.length 64 then (let y2:List qO:=x4.2.2.2.2.2.2.2.2.2.2.2.2.2.2.2.2.2.2.1
   bif zR (y2.length + x9.2.2.2.2.2.2.2.2.2.2.2.length) 64 then (bif decide (x4.2.2.2.2.2.2.2.2.2.2.2.2.2.2.2.2.2.2.2 > 0) then ((j0 k x9.2.2.2.2.2.2.2.1 x4.2.2.2.2.2.2.2.2.2.2.2.2.2.2.2.2.2.2.2).bind fun gf=>
     bif decide (gf ≥ 0) then ((wY k 19 [x4.2.2.2.2.2.2.2.2.2.2.2.2.2.2.2.2.2.2.2]).bind fun Ht=>
      bif zR ((y2 ++ x9.2.2.2.2.2.2.2.2.2.2.2).length + 1) 64 then (let y3:List qO:=((y2++x9.2.2.2.2.2.2.2.2.2.2.2)++[(a2.1,Ht)])
       some ((qR x9),y3,0))
      else none)
     else some ((qR x9),(y2++x9.2.2.2.2.2.2.2.2.2.2.2),0))
    else some ((qR x9),(y2++x9.2.2.2.2.2.2.2.2.2.2.2),0))
   else none)
  else none)
 else bif decide (a2.2.1 = 9) then (bif zC a2.1 a1.2.1.length then ((pY k a1.2.2.2.2.2.2.2.1 a2.1).bind fun X6=>
   (wY k 17 [(a1.2.1.getD a2.1.toNat (0,0,0)).1,(a1.2.1.getD a2.1.toNat (0,0,0)).2.1,(a1.2.1.getD a2.1.toNat (0,0,0)).2.2,(X6.length:Int),a1.1]).bind fun x13=>
   some (a1,[(a2.1,x13)],0))
  else none)
 else bif decide (a2.2.1 = 14) then ((Dg k a0 a1).bind fun x14=>
  some (x14.1,x14.2,0))
 else(tM k (eW a0 (jP a1 (a2.1,0))) a2.2).bind fun cN=>
 bif !(decide (cN.1=0)) then some (a1,[],cN.1)
 else bif !(decide (a2.1 = (-1))) then ((wY k 15 []).bind fun x16=>
  (lz k cN.2.2.2.2.2.2.1 cN.2.2.2.2.2.2.2.1 cN.2.2.2.2.2.2.2.2.1 cN.2.2.2.2.2.2.2.2.2.1 cN.2.2.2.2.2.2.2.2.2.2.1 cN.2.2.2.2.2.2.2.2.2.2.2.1 cN.2.2.2.2.2.2.2.2.2.2.2.2.1 cN.2.2.2.2.2.2.2.2.2.2.2.2.2.1 cN.2.2.2.2.2.2.2.2.2.2.2.2.2.2.1 cN.2.2.2.2.2.2.2.2.2.2.2.2.2.2.2.1 cN.2.2.2.2.2.2.2.2.2.2.2.2.2.2.2.2.1 (decide (a2.2.1=13))).bind fun rC=>
  bif zR (1 + cN.2.2.2.2.2.2.2.2.2.2.2.2.2.2.2.2.2.2.1.length) 64 then (let y4:List qO:=([(a2.1,x16)]++cN.2.2.2.2.2.2.2.2.2.2.2.2.2.2.2.2.2.2.1)
   bif zR (y4.length + rC.2.2.2.2.2.2.2.2.2.2.2.length) 64 then (bif decide (cN.2.2.2.2.2.2.2.2.2.2.2.2.2.2.2.2.2.2.2 > 0) then ((j0 k rC.2.2.2.2.2.2.2.1 cN.2.2.2.2.2.2.2.2.2.2.2.2.2.2.2.2.2.2.2).bind fun x18=>
     bif decide (x18 ≥ 0) then ((wY k 19 [cN.2.2.2.2.2.2.2.2.2.2.2.2.2.2.2.2.2.2.2]).bind fun x19=>
      bif zR ((y4 ++ rC.2.2.2.2.2.2.2.2.2.2.2).length + 1) 64 then (let y5:List qO:=((y4++rC.2.2.2.2.2.2.2.2.2.2.2)++[(a2.1,x19)])
       some ((qR rC),y5,0))
      else none)
     else some ((qR rC),(y4++rC.2.2.2.2.2.2.2.2.2.2.2),0))
    else some ((qR rC),(y4++rC.2.2.2.2.2.2.2.2.2.2.2),0))
   else none)
  else none)
 else(lz k cN.2.2.2.2.2.2.1 cN.2.2.2.2.2.2.2.1 cN.2.2.2.2.2.2.2.2.1 cN.2.2.2.2.2.2.2.2.2.1 cN.2.2.2.2.2.2.2.2.2.2.1 cN.2.2.2.2.2.2.2.2.2.2.2.1 cN.2.2.2.2.2.2.2.2.2.2.2.2.1 cN.2.2.2.2.2.2.2.2.2.2.2.2.2.1 cN.2.2.2.2.2.2.2.2.2.2.2.2.2.2.1 cN.2.2.2.2.2.2.2.2.2.2.2.2.2.2.2.1 cN.2.2.2.2.2.2.2.2.2.2.2.2.2.2.2.2.1 (decide (a2.2.1=13))).bind fun rD=>
 bif zR cN.2.2.2.2.2.2.2.2.2.2.2.2.2.2.2.2.2.2.1.length 64 then (let y6:List qO:=cN.2.2.2.2.2.2.2.2.2.2.2.2.2.2.2.2.2.2.1
  bif zR (y6.length + rD.2.2.2.2.2.2.2.2.2.2.2.length) 64 then (bif decide (cN.2.2.2.2.2.2.2.2.2.2.2.2.2.2.2.2.2.2.2 > 0) then ((j0 k rD.2.2.2.2.2.2.2.1 cN.2.2.2.2.2.2.2.2.2.2.2.2.2.2.2.2.2.2.2).bind fun x21=>
    bif decide (x21 ≥ 0) then ((wY k 19 [cN.2.2.2.2.2.2.2.2.2.2.2.2.2.2.2.2.2.2.2]).bind fun x22=>
     bif zR ((y6 ++ rD.2.2.2.2.2.2.2.2.2.2.2).length + 1) 64 then (let y7:List qO:=((y6++rD.2.2.2.2.2.2.2.2.2.2.2)++[(a2.1,x22)])
      some ((qR rD),y7,0))
     else none)
    else some ((qR rD),(y6++rD.2.2.2.2.2.2.2.2.2.2.2),0))
   else some ((qR rD),(y6++rD.2.2.2.2.2.2.2.2.2.2.2),0))
  else none)
 else none
abbrev XT:Type:=AC→AC→Int→Option (Unit⊕Bool)
def AN (k:Nat)(rec:XT)(s0 s1:AC)(s5:Int):Option (Unit⊕Bool):=
 bif decide (s5 < (s0.length : Int)) then (bif zC s5 s0.length then (bif zC s5 s1.length then (bif !(decide ((s0.getD s5.toNat 0)=(s1.getD s5.toNat 0))) then some (.inr false)
    else rec s0 s1 (zA (s5+1)))
   else none)
  else none)
 else some (.inl ())
def FL (k:Nat):Nat→XT
 |0,_,_,_=>none
 |n+1,s0,s1,s5=>AN k (FL k n) s0 s1 s5
def pR (k:Nat)(a0 a1:AC):Option Bool:=
 bif !(decide ((a0.length:Int)=(a1.length:Int))) then some false
 else(FL k k a0 a1 0).bind fun z=>
 match z with
 |.inl z1=>some true
 |.inr z2=>some z2
abbrev XW:Type:=EQ→EQ→Int→Option (Unit⊕Bool)
def AO (k:Nat)(rec:XW)(s0 s1:EQ)(s5:Int):Option (Unit⊕Bool):=
 bif decide (s5 < (s0.length : Int)) then (bif zC s5 s0.length then (bif zC s5 s1.length then ((pR k (s0.getD s5.toNat []) (s1.getD s5.toNat [])).bind fun x0=>
    bif !x0 then some (.inr false)
    else rec s0 s1 (zA (s5+1)))
   else none)
  else none)
 else some (.inl ())
def FM (k:Nat):Nat→XW
 |0,_,_,_=>none
 |n+1,s0,s1,s5=>AO k (FM k n) s0 s1 s5
def v9 (k:Nat)(a0 a1:EQ):Option Bool:=
 bif !(decide ((a0.length:Int)=(a1.length:Int))) then some false
 else(FM k k a0 a1 0).bind fun z=>
 match z with
 |.inl z1=>some true
 |.inr z2=>some z2
abbrev XZ:Type:=Int→List zH→EQ→AC→EQ→List zH→EQ→AC→EQ→Option (Unit⊕Bool)
def AP (k:Nat)(rec:XZ)(s5:Int)(aa:List zH)(ae:EQ)(af:AC)(ab:EQ)(an:List zH)(ar:EQ)(au:AC)(ax:EQ):Option (Unit⊕Bool):=
 bif decide (s5 < (aa.length : Int)) then (bif zC s5 aa.length then (bif zC s5 an.length then (bif !((decide ((aa.getD s5.toNat (0,0,0)).1=(an.getD s5.toNat (0,0,0)).1))&&((decide ((aa.getD s5.toNat (0,0,0)).2.1=(an.getD s5.toNat (0,0,0)).2.1))&&(decide ((aa.getD s5.toNat (0,0,0)).2.2=(an.getD s5.toNat (0,0,0)).2.2)))) then some (.inr false)
    else rec (zA (s5+1)) aa ae af ab an ar au ax)
   else none)
  else none)
 else some (.inl ())
def FO (k:Nat):Nat→XZ
 |0,_,_,_,_,_,_,_,_,_=>none
 |n+1,s5,aa,ae,af,ab,an,ar,au,ax=>AP k (FO k n) s5 aa ae af ab an ar au ax
def FN (k:Nat)(aL:List zH)(aZ:EQ)(aW:AC)(aT:EQ)(iJ:List zH)(rE:EQ)(rF:AC)(rG:EQ):Option Bool:=
 bif !(decide ((aL.length:Int)=(iJ.length:Int))) then some false
 else(v9 k aZ rE).bind fun x0=>
 bif !x0 then some false
 else(v9 k aT rG).bind fun x1=>
 bif !x1 then some false
 else(pR k aW rF).bind fun x2=>
 bif !x2 then some false
 else(FO k k 0 aL aZ aW aT iJ rE rF rG).bind fun z=>
 match z with
 |.inl z1=>some true
 |.inr z2=>some z2
abbrev X1:Type:=List zB→List zB→Int→Option (Unit⊕Bool)
def Dy (k:Nat)(rec:X1)(s0 s1:List zB)(s5:Int):Option (Unit⊕Bool):=
 bif decide (s5 < (s0.length : Int)) then (bif zC s5 s0.length then (bif zC s5 s1.length then (bif !((decide ((s0.getD s5.toNat (0,0,0,0,0,0,0)).1=(s1.getD s5.toNat (0,0,0,0,0,0,0)).1))&&((decide ((s0.getD s5.toNat (0,0,0,0,0,0,0)).2.1=(s1.getD s5.toNat (0,0,0,0,0,0,0)).2.1))&&((decide ((s0.getD s5.toNat (0,0,0,0,0,0,0)).2.2.1=(s1.getD s5.toNat (0,0,0,0,0,0,0)).2.2.1))&&((decide ((s0.getD s5.toNat (0,0,0,0,0,0,0)).2.2.2.1=(s1.getD s5.toNat (0,0,0,0,0,0,0)).2.2.2.1))&&((decide ((s0.getD s5.toNat (0,0,0,0,0,0,0)).2.2.2.2.1=(s1.getD s5.toNat (0,0,0,0,0,0,0)).2.2.2.2.1))&&((decide ((s0.getD s5.toNat (0,0,0,0,0,0,0)).2.2.2.2.2.1=(s1.getD s5.toNat (0,0,0,0,0,0,0)).2.2.2.2.2.1))&&(decide ((s0.getD s5.toNat (0,0,0,0,0,0,0)).2.2.2.2.2.2=(s1.getD s5.toNat (0,0,0,0,0,0,0)).2.2.2.2.2.2)))))))) then some (.inr false)
    else rec s0 s1 (zA (s5+1)))
   else none)
  else none)
 else some (.inl ())
def HG (k:Nat):Nat→X1
 |0,_,_,_=>none
 |n+1,s0,s1,s5=>Dy k (HG k n) s0 s1 s5
def HF (k:Nat)(a0 a1:List zB):Option Bool:=
 bif !(decide ((a0.length:Int)=(a1.length:Int))) then some false
 else(HG k k a0 a1 0).bind fun z=>
 match z with
 |.inl z1=>some true
 |.inr z2=>some z2
def LZ (k:Nat)(a0 a1:yM):Option Bool:=
 bif decide (a0.1 = a1.1) then (bif decide (a0.2.2.2.2.2.2.2.2.2.1 = a1.2.2.2.2.2.2.2.2.2.1) then (bif gX a0.2.2.2.2.2.2.2.2.2.2 a1.2.2.2.2.2.2.2.2.2.2 then ((FN k a0.2.1 a0.2.2.1 a0.2.2.2.1 a0.2.2.2.2.1 a1.2.1 a1.2.2.1 a1.2.2.2.1 a1.2.2.2.2.1).bind fun x0=>
    bif x0 then ((pR k a0.2.2.2.2.2.1 a1.2.2.2.2.2.1).bind fun x1=>
     bif x1 then ((v9 k a0.2.2.2.2.2.2.1 a1.2.2.2.2.2.2.1).bind fun x2=>
      bif x2 then ((HF k a0.2.2.2.2.2.2.2.1 a1.2.2.2.2.2.2.2.1).bind fun x3=>
       bif x3 then ((pR k a0.2.2.2.2.2.2.2.2.1 a1.2.2.2.2.2.2.2.2.1).bind fun x4=>
        some x4)
       else some false)
      else some false)
     else some false)
    else some false)
   else some false)
  else some false)
 else some false
abbrev X3:Type:=List qO→List qO→Int→Option (Unit⊕Bool)
def Cm (k:Nat)(rec:X3)(s0 s1:List qO)(s5:Int):Option (Unit⊕Bool):=
 bif decide (s5 < (s0.length : Int)) then (bif zC s5 s0.length then (bif zC s5 s1.length then (bif !((decide ((s0.getD s5.toNat (0,0,0,0,0,0,0,0)).1=(s1.getD s5.toNat (0,0,0,0,0,0,0,0)).1))&&((decide ((s0.getD s5.toNat (0,0,0,0,0,0,0,0)).2.1=(s1.getD s5.toNat (0,0,0,0,0,0,0,0)).2.1))&&((decide ((s0.getD s5.toNat (0,0,0,0,0,0,0,0)).2.2.1=(s1.getD s5.toNat (0,0,0,0,0,0,0,0)).2.2.1))&&((decide ((s0.getD s5.toNat (0,0,0,0,0,0,0,0)).2.2.2.1=(s1.getD s5.toNat (0,0,0,0,0,0,0,0)).2.2.2.1))&&((decide ((s0.getD s5.toNat (0,0,0,0,0,0,0,0)).2.2.2.2.1=(s1.getD s5.toNat (0,0,0,0,0,0,0,0)).2.2.2.2.1))&&((decide ((s0.getD s5.toNat (0,0,0,0,0,0,0,0)).2.2.2.2.2.1=(s1.getD s5.toNat (0,0,0,0,0,0,0,0)).2.2.2.2.2.1))&&((decide ((s0.getD s5.toNat (0,0,0,0,0,0,0,0)).2.2.2.2.2.2.1=(s1.getD s5.toNat (0,0,0,0,0,0,0,0)).2.2.2.2.2.2.1))&&(decide ((s0.getD s5.toNat (0,0,0,0,0,0,0,0)).2.2.2.2.2.2.2=(s1.getD s5.toNat (0,0,0,0,0,0,0,0)).2.2.2.2.2.2.2))))))))) then some (.inr false)
    else rec s0 s1 (zA (s5+1)))
   else none)
  else none)
 else some (.inl ())
def GQ (k:Nat):Nat→X3
 |0,_,_,_=>none
 |n+1,s0,s1,s5=>Cm k (GQ k n) s0 s1 s5
def K5 (k:Nat)(a0 a1:List qO):Option Bool:=
 bif !(decide ((a0.length:Int)=(a1.length:Int))) then some false
 else(GQ k k a0 a1 0).bind fun z=>
 match z with
 |.inl z1=>some true
 |.inr z2=>some z2
def L7 (k:Nat)(a0:yJ)(a1:yM)(a2:qO):Option Bool:=
 (L6 k a0 a1).bind fun x0=>
 bif x0 then some true
 else(L5 k a0).bind fun x1=>
 bif !x1 then some true
 else(L3 k a0 a1).bind fun x2=>
 bif !x2 then some true
 else(Hv k a0 a1 a2).bind fun x3=>
 (Hu k a0 a1 a2).bind fun x4=>
 (LZ k x3.1 x4.1).bind fun x5=>
 bif x5 then ((K5 k x3.2.1 x4.2.1).bind fun x6=>
  bif x6 then (bif decide (x3.2.2 = x4.2.2) then ((LY k a0 x3.1).bind fun x7=>
    bif x7 then ((R4 k).bind fun x8=>
     some x8)
    else some false)
   else some false)
  else some false)
 else some false
end Go.Ab.Gi
