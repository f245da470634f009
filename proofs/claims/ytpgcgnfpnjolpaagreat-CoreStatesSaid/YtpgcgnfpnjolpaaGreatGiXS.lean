/- part 5 -/
import Derived.Test.YtpgcgnfpnjolpaaGreatGiXSa
set_option linter.unusedVariables false
set_option maxRecDepth 100000
namespace Go.Ab.Gi
abbrev Xo:Type:=(List zH)×EQ×AC×EQ×(List zB)×AC
abbrev Xn:Type:=Int→List zH→EQ→AC→EQ→List zB→AC→Option Xo
def C8 (k:Nat)(rec:Xn)(ao:Int)(aa:List zH)(ae:EQ)(af:AC)(ab:EQ)(r1:List zB)(r2:AC):Option Xo:=
 bif decide (ao < (aa.length : Int)) then ((pZ k r1 ao).bind fun x1=>
  bif zR (r2.length+1) 8 then(rec (zA (ao+1)) aa ae af ab r1 (r2++[(x1.length:Int)]))
  else none)
 else some (aa,ae,af,ab,r1,r2)
def xp (k:Nat):Nat→Xn
 |0,_,_,_,_,_,_,_=>none
 |n+1,ao,aa,ae,af,ab,r1,r2=>C8 k (xp k n) ao aa ae af ab r1 r2
abbrev Xr:Type:=Int×(List zH)×EQ×AC×EQ×(List zB)×AC
abbrev Xp:Type:=Int→Int→List zH→EQ→AC→EQ→List zB→AC→AC→Option Xr
def Da (k:Nat)(rec:Xp)(bc bL:Int)(aa:List zH)(ae:EQ)(af:AC)(ab:EQ)(r1:List zB)(r2 r3:AC):Option Xr:=
 bif decide (bL < (r3.length : Int)) then (bif zC bL r3.length then (bif zC (r3.getD bL.toNat 0) r2.length then (bif zC (r3.getD bL.toNat 0) r2.length then (let y0:AC:=(r2.set (r3.getD bL.toNat 0).toNat (zA ((r2.getD (r3.getD bL.toNat 0).toNat 0)-1)))
     rec bc (zA (bL+1)) aa ae af ab r1 y0 r3)
    else none)
   else none)
  else none)
 else some (bc,aa,ae,af,ab,r1,r2)
def C9 (k:Nat):Nat→Xp
 |0,_,_,_,_,_,_,_,_,_=>none
 |n+1,bc,bL,aa,ae,af,ab,r1,r2,r3=>Da k (C9 k n) bc bL aa ae af ab r1 r2 r3
abbrev Xs:Type:=Int→List zH→EQ→AC→EQ→List zB→AC→Option (Int×AC)
def Db (k:Nat)(rec:Xs)(bc:Int)(aa:List zH)(ae:EQ)(af:AC)(ab:EQ)(r1:List zB)(r2:AC):Option (Int×AC):=
 (C5 k r1 r2).bind fun x2=>
 (pW k aa ae af ab x2).bind fun x3=>
 bif decide ((x3.length:Int)=0) then some (bc,r2)
 else(C9 k k bc 0 aa ae af ab r1 r2 x3).bind fun z1=>
 rec (zA (z1.1+1)) z1.2.1 z1.2.2.1 z1.2.2.2.1 z1.2.2.2.2.1 z1.2.2.2.2.2.1 z1.2.2.2.2.2.2
def Ho (k:Nat):Nat→Xs
 |0,_,_,_,_,_,_,_=>none
 |n+1,bc,aa,ae,af,ab,r1,r2=>Db k (Ho k n) bc aa ae af ab r1 r2
def LH (k:Nat)(aL:List zH)(aY:EQ)(aX:AC)(aT:EQ)(a1:List zB)(a2:Int):Option (AC×Int):=
 (Bq k a1 a2).bind fun x0=>
 (xp k k 0 aL aY aX aT x0 []).bind fun z=>
 (Ho k k 1 z.1 z.2.1 z.2.2.1 z.2.2.2.1 z.2.2.2.2.1 z.2.2.2.2.2).bind fun z2=>
 some (z2.2,z2.1)
abbrev Xv:Type:=(List zB)×(List zB)×(List zH)×EQ×AC×EQ
abbrev Xt:Type:=List zB→Int→List zB→List zH→EQ→AC→EQ→Option Xv
def Dc (k:Nat)(rec:Xt)(s1:List zB)(bx:Int)(r1:List zB)(aZ:List zH)(bP:EQ)(bQ:AC)(cG:EQ):Option Xv:=
 bif decide (bx < (r1.length : Int)) then (bif zC bx r1.length then ((lz k s1 (r1.getD bx.toNat (0,0,0,0,0,0,0)).1).bind fun x4=>
   rec x4.1 (zA (bx+1)) r1 aZ bP bQ cG)
  else none)
 else some (s1,r1,aZ,bP,bQ,cG)
def xq (k:Nat):Nat→Xt
 |0,_,_,_,_,_,_,_=>none
 |n+1,s1,bx,r1,aZ,bP,bQ,cG=>Dc k (xq k n) s1 bx r1 aZ bP bQ cG
def Hq (k:Nat)(aL:List zH)(aY:EQ)(aX:AC)(aT:EQ)(a1:List zB)(a2:Int):Option oS:=
 (LH k aL aY aX aT a1 a2).bind fun x0=>
 (Bq k a1 a2).bind fun x1=>
 (C5 k x1 x0.1).bind fun x2=>
 (we k aL aY aX aT x2).bind fun x3=>
 bif !(decide (x3.2.2.2.2=0)) then some (aL,aY,aX,aT,a1,[])
 else(xq k k a1 0 x2 x3.1 x3.2.1 x3.2.2.1 x3.2.2.2.1).bind fun z=>
 some (xj z (z.1,z.2.1))
def LI (k:Nat)(aL:List zH)(aY:EQ)(aX:AC)(aT:EQ)(a1:List zB)(a2:Int)(a3:Bool):Option oS:=
 (Hs k aL aY aX aT a1 a2).bind fun x0=>
 bif !a3 then some (x0.1,x0.2.1,x0.2.2.1,x0.2.2.2.1,x0.2.2.2.2.1,x0.2.2.2.2.2)
 else(Hq k x0.1 x0.2.1 x0.2.2.1 x0.2.2.2.1 x0.2.2.2.2.1 a2).bind fun x1=>
 bif decide ((x1.2.2.2.2.2.length:Int)=0) then some (x0.1,x0.2.1,x0.2.2.1,x0.2.2.2.1,x0.2.2.2.2.1,x0.2.2.2.2.2)
 else(Hs k x1.1 x1.2.1 x1.2.2.1 x1.2.2.2.1 x1.2.2.2.2.1 a2).bind fun x2=>
 bif zR (x0.2.2.2.2.2.length + x1.2.2.2.2.2.length) 56 then (bif zR ((x0.2.2.2.2.2 ++ x1.2.2.2.2.2).length + x2.2.2.2.2.2.length) 56 then (let y0:List zB:=((x0.2.2.2.2.2++x1.2.2.2.2.2)++x2.2.2.2.2.2)
   some (xM x2 y0))
  else none)
 else none
abbrev Xw:Type:=List zB→Int→List qP→Option V2
def Cm (k:Nat)(rec:Xw)(s0:List zB)(s4:Int)(r0:List qP):Option V2:=
 bif decide (s4 < (s0.length : Int)) then (bif zC s4 s0.length then ((jA k 18 [(s0.getD s4.toNat (0,0,0,0,0,0,0)).1,(s0.getD s4.toNat (0,0,0,0,0,0,0)).2.1,(s0.getD s4.toNat (0,0,0,0,0,0,0)).2.2.1,(s0.getD s4.toNat (0,0,0,0,0,0,0)).2.2.2.1]).bind fun x0=>
   bif zR (r0.length + 2) 64 then (let y0:List qP:=(r0++[((s0.getD s4.toNat (0,0,0,0,0,0,0)).2.1,x0),((s0.getD s4.toNat (0,0,0,0,0,0,0)).2.2.1,x0)])
    rec s0 (zA (s4+1)) y0)
   else none)
  else none)
 else some r0
def GR (k:Nat):Nat→Xw
 |0,_,_,_=>none
 |n+1,s0,s4,r0=>Cm k (GR k n) s0 s4 r0
def K6 (k:Nat)(a0:List zB):Option (List qP):=
 (GR k k a0 0 []).bind fun z=>
 some z
def lA (k:Nat)(xR:Int)(Ie:List zH)(Ig:EQ)(Ih:AC)(Ii:EQ)(Ij:AC)(Ik:EQ)(xS:List zB)(Il:AC)(Im:Int)(Io a1:Bool):Option M6:=
 (LI k Ie Ig Ih Ii xS xR a1).bind fun x0=>
 (K6 k x0.2.2.2.2.2).bind fun x1=>
 some (xR,(vG x0 (Ij,Ik,x0.2.2.2.2.1,Il,Im,Io,x1)))
abbrev XA:Type:=yN×gi×(List qP)
abbrev Xz:Type:=List zB→Int→yN→gi→List qP→Option XA
def De (k:Nat)(rec:Xz)(s7:List zB)(s8:Int)(b0:yN)(b1:gi)(r2:List qP):Option XA:=
 bif decide (s8 < (s7.length : Int)) then (bif zC s8 s7.length then (bif zC s8 s7.length then ((jA k 22 [(s7.getD s8.toNat (0,0,0,0,0,0,0)).1]).bind fun x1=>
    bif zR (r2.length + 1) 64 then (let y0:List qP:=(r2++[((s7.getD s8.toNat (0,0,0,0,0,0,0)).2.1,x1)])
     rec s7 (zA (s8+1)) b0 b1 y0)
    else none)
   else none)
  else none)
 else some (b0,b1,r2)
def tH (k:Nat):Nat→Xz:=vH (fun _ _ _ _ _=>none) (De k)
abbrev XB:Type:=Int→yN→gi→List qP→Option XA
def Df (k:Nat)(rec:XB)(s9:Int)(b0:yN)(b1:gi)(r2:List qP):Option XA:=
 bif decide (s9 < (b0.2.1.length : Int)) then (bif zC s9 b0.2.1.length then ((jA k 23 [(b0.2.1.getD s9.toNat (0,0,0)).1]).bind fun x2=>
   bif zR (r2.length+1) 64 then(rec (zA (s9+1)) b0 b1 (r2++[(s9,x2)]))
   else none)
  else none)
 else some (b0,b1,r2)
def tI (k:Nat):Nat→XB:=vH (fun _ _ _ _=>none) (Df k)
abbrev XG:Type:=yI×yN×gi×(List qP)
abbrev XF:Type:=List zB→Int→yI→yN→gi→List qP→Option XG
def Dg (k:Nat)(rec:XF)(s7:List zB)(ao:Int)(b0:yI)(b1:yN)(b2:gi)(r3:List qP):Option XG:=
 bif decide (ao < (s7.length : Int)) then (bif zC ao s7.length then ((RP k (s7.getD ao.toNat (0,0,0,0,0,0,0)).1 (s7.getD ao.toNat (0,0,0,0,0,0,0)).2.1 (s7.getD ao.toNat (0,0,0,0,0,0,0)).2.2.1 (s7.getD ao.toNat (0,0,0,0,0,0,0)).2.2.2.1 (s7.getD ao.toNat (0,0,0,0,0,0,0)).2.2.2.2.1 (s7.getD ao.toNat (0,0,0,0,0,0,0)).2.2.2.2.2.1 (s7.getD ao.toNat (0,0,0,0,0,0,0)).2.2.2.2.2.2 b1.1).bind fun x3=>
   bif x3 then (bif zC ao s7.length then (bif zC ao s7.length then ((jA k 21 [(s7.getD ao.toNat (0,0,0,0,0,0,0)).1]).bind fun x4=>
      bif zR (r3.length + 1) 64 then (let y1:List qP:=(r3++[((s7.getD ao.toNat (0,0,0,0,0,0,0)).2.1,x4)])
       bif zC ao s7.length then ((lz k b1.2.2.2.2.2.2.2.1 (s7.getD ao.toNat (0,0,0,0,0,0,0)).1).bind fun x5=>
        rec s7 (zA (ao+1)) b0 (gQ b1 (x5.1,b1.2.2.2.2.2.2.2.2)) b2 y1)
       else none)
      else none)
     else none)
    else none)
   else rec s7 (zA (ao+1)) b0 b1 b2 r3)
  else none)
 else some (b0,b1,b2,r3)
def qx (k:Nat):Nat→XF:=vH (fun _ _ _ _ _ _=>none) (Dg k)
def Dh (k:Nat)(a0:yI)(a1:yN):Option (yN×(List qP)):=
 bif a1.2.2.2.2.2.2.2.2.2.2 then some (a1,[])
 else(LK k a0 (zA (a1.1+1))).bind fun x0=>
 bif x0 then ((tH k k a1.2.2.2.2.2.2.2.1 0 ((zA (a1.1+1)),a1.2) (0,0,false) []).bind fun z=>
  (tI k k 0 z.1 z.2.1 z.2.2).bind fun z1=>
  some ((gQ z1.1 ([],z1.1.2.2.2.2.2.2.2.2.1,z1.1.2.2.2.2.2.2.2.2.2.1,true)),z1.2.2))
 else(qx k k a1.2.2.2.2.2.2.2.1 0 a0 ((zA (a1.1+1)),a1.2) (0,0,false) []).bind fun z2=>
 (Ht k z2.1 z2.2.1.1).bind fun x6=>
 (lA k z2.2.1.1 z2.2.1.2.1 z2.2.1.2.2.1 z2.2.1.2.2.2.1 z2.2.1.2.2.2.2.1 z2.2.1.2.2.2.2.2.1 z2.2.1.2.2.2.2.2.2.1 z2.2.1.2.2.2.2.2.2.2.1 z2.2.1.2.2.2.2.2.2.2.2.1 z2.2.1.2.2.2.2.2.2.2.2.2.1 z2.2.1.2.2.2.2.2.2.2.2.2.2 x6).bind fun x7=>
 bif zR (z2.2.2.2.length + x7.2.2.2.2.2.2.2.2.2.2.2.length) 64 then (let y2:List qP:=(z2.2.2.2++x7.2.2.2.2.2.2.2.2.2.2.2)
  some ((qR x7),y2))
 else none
def qs (k:Nat)(a0:rz)(a1:Int):Option Int:=
 bif decide (a1<0) then some (-1)
 else bif decide (a1≥a0.1) then some (-1)
 else some a1
def CT (k:Nat)(a0:yI)(a1 a2:Int):Option Int:=
 bif decide (a1≥a0.2.2.2.1) then some 7
 else bif decide (a2 = 3) then (bif decide (a1≥a0.2.2.1) then some 7
  else some 0)
 else some 0
def xl (k:Nat)(a0:yI)(a1:Int)(a2:zB):Option Int:=
 bif decide (a2.1<1) then some 1
 else bif decide (a2.2.1<0) then some 1
 else bif decide (a2.2.1≥a0.1) then some 1
 else bif decide (a2.2.2.1<0) then some 1
 else bif decide (a2.2.2.1≥a0.1) then some 1
 else bif decide (a2.2.1=a2.2.2.1) then some 1
 else bif decide (a2.2.2.2.1<1) then some 1
 else bif decide (a2.2.2.2.1>1099511627776) then some 1
 else bif decide (a2.2.2.2.2.1<1) then some 1
 else bif decide (a2.2.2.2.2.1>3) then some 1
 else bif decide (a2.2.2.2.2.2.1<0) then some 1
 else bif decide (a2.2.2.2.2.2.1>a2.2.2.2.2.2.2) then some 1
 else bif decide (a2.2.2.2.2.2.2<a1) then some 1
 else bif decide (a2.2.2.2.2.2.2>1048576) then some 1
 else(CT k a0 a1 a2.2.2.2.2.1).bind fun x0=>
 some x0
abbrev XI:Type:=AC→Int→Int→Option (AC×Int×Int)
def CK (k:Nat)(rec:XI)(s0:AC)(s1 s6:Int):Option (AC×Int×Int):=
 bif decide (s6 < (s0.length : Int)) then (bif zC s6 s0.length then (bif decide ((s0.getD s6.toNat 0)<s1) then(rec s0 s1 (zA (s6+1)))
   else some (s0,s1,s6))
  else none)
 else some (s0,s1,s6)
def Hb (k:Nat):Nat→XI:=vH (fun _ _ _=>none) (CK k)
def xi (k:Nat)(a0:AC)(a1:Int):Option (AC×Int):=
 (xh k a0 a1).bind fun x0=>
 bif x0 then some (a0,6)
 else bif decide ((a0.length:Int)≥200) then some (a0,3)
 else(Hb k k a0 a1 0).bind fun z=>
 bif (decide (0 ≤ z.2.2)) && (decide (z.2.2 ≤ (z.1.length : Int))) then (bif zR (0 + (List.take z.2.2.toNat z.1).length) 8 then (bif zR ((List.take z.2.2.toNat z.1).length + 1) 8 then (bif (decide (0 ≤ z.2.2)) && (decide (z.2.2 ≤ (z.1.length : Int))) then (bif zR (((List.take z.2.2.toNat z.1) ++ [z.2.1]).length + (List.drop z.2.2.toNat z.1).length) 8 then (let y0:AC:=(((List.take z.2.2.toNat z.1)++[z.2.1])++(List.drop z.2.2.toNat z.1))
      some (y0,0))
     else none)
    else none)
   else none)
  else none)
 else none
abbrev XK:Type:=List zB→Int→Int→Int→Int→Int→Int→Int→Int→Option Int
def CI (k:Nat)(rec:XK)(s0:List zB)(s5 aa ae af ab aV bg bh:Int):Option Int:=
 bif decide (s5 < (s0.length : Int)) then (bif zC s5 s0.length then ((CD k (s0.getD s5.toNat (0,0,0,0,0,0,0)).1 (s0.getD s5.toNat (0,0,0,0,0,0,0)).2.1 (s0.getD s5.toNat (0,0,0,0,0,0,0)).2.2.1 (s0.getD s5.toNat (0,0,0,0,0,0,0)).2.2.2.1 (s0.getD s5.toNat (0,0,0,0,0,0,0)).2.2.2.2.1 (s0.getD s5.toNat (0,0,0,0,0,0,0)).2.2.2.2.2.1 (s0.getD s5.toNat (0,0,0,0,0,0,0)).2.2.2.2.2.2 aa ae af ab aV bg bh).bind fun x0=>
   bif x0 then(rec s0 (zA (s5+1)) aa ae af ab aV bg bh)
   else some s5)
  else none)
 else some s5
def CH (k:Nat):Nat→XK
 |0,_,_,_,_,_,_,_,_,_=>none
 |n+1,s0,s5,aa,ae,af,ab,aV,bg,bh=>CI k (CH k n) s0 s5 aa ae af ab aV bg bh
def CG (k:Nat)(a0:List zB)(oT gj kf lF kg rA rC:Int):Option Int:=
 (CH k k a0 0 oT gj kf lF kg rA rC).bind fun z=>
 some z
def xf (k:Nat)(a0:List zB)(a1 vS3 vS4 vS5 vS6 vS7 vS8 vS9:Int):Option (List zB):=
 bif (decide (0 ≤ a1)) && (decide (a1 ≤ (a0.length : Int))) then (bif zR (0 + (List.take a1.toNat a0).length) 56 then (bif zR ((List.take a1.toNat a0).length + 1) 56 then (let y0:List zB:=((List.take a1.toNat a0)++[(vS3,vS4,vS5,vS6,vS7,vS8,vS9)])
    bif (decide (0 ≤ a1)) && (decide (a1 ≤ (a0.length : Int))) then (bif zR (y0.length+(List.drop a1.toNat a0).length) 56 then some (y0++(List.drop a1.toNat a0))
     else none)
    else none)
   else none)
  else none)
 else none
def xg (k:Nat)(a0:List zB)(oT gj kf lF kg rA rC:Int):Option ((List zB)×Int):=
 (j6 k a0 oT).bind fun x0=>
 bif decide (x0≥0) then some (a0,6)
 else bif decide ((a0.length:Int)≥40) then some (a0,3)
 else(CG k a0 oT gj kf lF kg rA rC).bind fun x1=>
 (xf k a0 x1 oT gj kf lF kg rA rC).bind fun x2=>
 some (x2,0)
def Lx (k:Nat)(a0:nr)(a1:Ip):Option (Int×rz):=
 (qs k (qV a0 ([],a0.2.2.2.2.2.2.2.2.2.2.2.2.2.2.2.2.2)) a1.2.1).bind fun x0=>
 bif decide (a1.2.2.2.1 ≥ 1) then (bif decide (a1.2.2.2.1 ≤ 3) then ((xl k (qZ a0) a0.2.2.2.2.2.1 (a1.1,a0.2.2.2.2.2.2.2.2.2.2.2.2.2.2.2.2.1,x0,a1.2.2)).bind fun x1=>
   bif !(decide (x1=0)) then some (x1,(qV a0 ([],a0.2.2.2.2.2.2.2.2.2.2.2.2.2.2.2.2.2)))
   else(xi k a0.2.2.2.2.2.2.2.2.2.2.2.2.2.1 a1.1).bind fun x2=>
   bif !(decide (x2.2=0)) then some (x2.2,(qV a0 ([],a0.2.2.2.2.2.2.2.2.2.2.2.2.2.2.2.2.2)))
   else(xg k a0.2.2.2.2.2.2.2.2.2.2.2.2.1 a1.1 a0.2.2.2.2.2.2.2.2.2.2.2.2.2.2.2.2.1 x0 a1.2.2.1 a1.2.2.2.1 a1.2.2.2.2.1 a1.2.2.2.2.2).bind fun x3=>
   bif !(decide (x3.2=0)) then some (x3.2,(qV a0 ([],a0.2.2.2.2.2.2.2.2.2.2.2.2.2.2.2.2.2)))
   else some (0,(gV a0 (x3.1,x2.1,a0.2.2.2.2.2.2.2.2.2.2.2.2.2.2.1,a0.2.2.2.2.2.2.2.2.2.2.2.2.2.2.2.1,a0.2.2.2.2.2.2.2.2.2.2.2.2.2.2.2.2.1,[],a1.1))))
  else(xl k (qZ a0) a0.2.2.2.2.2.1 (a1.1,a0.2.2.2.2.2.2.2.2.2.2.2.2.2.2.2.2.1,x0,a1.2.2.1,0,a1.2.2.2.2)).bind fun x4=>
  bif !(decide (x4=0)) then some (x4,(qV a0 ([],a0.2.2.2.2.2.2.2.2.2.2.2.2.2.2.2.2.2)))
  else(xi k a0.2.2.2.2.2.2.2.2.2.2.2.2.2.1 a1.1).bind fun x5=>
  bif !(decide (x5.2=0)) then some (x5.2,(qV a0 ([],a0.2.2.2.2.2.2.2.2.2.2.2.2.2.2.2.2.2)))
  else(xg k a0.2.2.2.2.2.2.2.2.2.2.2.2.1 a1.1 a0.2.2.2.2.2.2.2.2.2.2.2.2.2.2.2.2.1 x0 a1.2.2.1 0 a1.2.2.2.2.1 a1.2.2.2.2.2).bind fun x6=>
  bif !(decide (x6.2=0)) then some (x6.2,(qV a0 ([],a0.2.2.2.2.2.2.2.2.2.2.2.2.2.2.2.2.2)))
  else some (0,(gV a0 (x6.1,x5.1,a0.2.2.2.2.2.2.2.2.2.2.2.2.2.2.1,a0.2.2.2.2.2.2.2.2.2.2.2.2.2.2.2.1,a0.2.2.2.2.2.2.2.2.2.2.2.2.2.2.2.2.1,[],a1.1))))
 else(xl k (qZ a0) a0.2.2.2.2.2.1 (a1.1,a0.2.2.2.2.2.2.2.2.2.2.2.2.2.2.2.2.1,x0,a1.2.2.1,0,a1.2.2.2.2)).bind fun x7=>
 bif !(decide (x7=0)) then some (x7,(qV a0 ([],a0.2.2.2.2.2.2.2.2.2.2.2.2.2.2.2.2.2)))
 else(xi k a0.2.2.2.2.2.2.2.2.2.2.2.2.2.1 a1.1).bind fun x8=>
 bif !(decide (x8.2=0)) then some (x8.2,(qV a0 ([],a0.2.2.2.2.2.2.2.2.2.2.2.2.2.2.2.2.2)))
 else(xg k a0.2.2.2.2.2.2.2.2.2.2.2.2.1 a1.1 a0.2.2.2.2.2.2.2.2.2.2.2.2.2.2.2.2.1 x0 a1.2.2.1 0 a1.2.2.2.2.1 a1.2.2.2.2.2).bind fun x9=>
 bif !(decide (x9.2=0)) then some (x9.2,(qV a0 ([],a0.2.2.2.2.2.2.2.2.2.2.2.2.2.2.2.2.2)))
 else some (0,(gV a0 (x9.1,x8.1,a0.2.2.2.2.2.2.2.2.2.2.2.2.2.2.1,a0.2.2.2.2.2.2.2.2.2.2.2.2.2.2.2.1,a0.2.2.2.2.2.2.2.2.2.2.2.2.2.2.2.2.1,[],a1.1)))
def yA3 (k:Nat)(a0:rz)(a1:Int):Option (zB×Bool):=
 (j6 k a0.2.2.2.2.2.2.2.2.2.2.2.2.1 a1).bind fun x0=>
 bif decide (x0<0) then some ((0,0,0,0,0,0,0),false)
 else bif zC x0 a0.2.2.2.2.2.2.2.2.2.2.2.2.1.length then (bif !(decide ((a0.2.2.2.2.2.2.2.2.2.2.2.2.1.getD x0.toNat (0,0,0,0,0,0,0)).2.1=a0.2.2.2.2.2.2.2.2.2.2.2.2.2.2.2.2.1)) then some ((0,0,0,0,0,0,0),false)
  else bif zC x0 a0.2.2.2.2.2.2.2.2.2.2.2.2.1.length then some ((a0.2.2.2.2.2.2.2.2.2.2.2.2.1.getD x0.toNat (0,0,0,0,0,0,0)),true)
  else none)
 else none
def CJ (k:Nat)(rec:Uq)(s6:List zB)(s9:Int)(b0:zB):Option Us:=
 bif decide (s9 < (s6.length : Int)) then (bif zC s9 s6.length then ((CD k b0.1 b0.2.1 b0.2.2.1 b0.2.2.2.1 b0.2.2.2.2.1 b0.2.2.2.2.2.1 b0.2.2.2.2.2.2 (s6.getD s9.toNat (0,0,0,0,0,0,0)).1 (s6.getD s9.toNat (0,0,0,0,0,0,0)).2.1 (s6.getD s9.toNat (0,0,0,0,0,0,0)).2.2.1 (s6.getD s9.toNat (0,0,0,0,0,0,0)).2.2.2.1 (s6.getD s9.toNat (0,0,0,0,0,0,0)).2.2.2.2.1 (s6.getD s9.toNat (0,0,0,0,0,0,0)).2.2.2.2.2.1 (s6.getD s9.toNat (0,0,0,0,0,0,0)).2.2.2.2.2.2).bind fun x1=>
   bif !x1 then(rec s6 (zA (s9+1)) b0)
   else some (s6,s9,b0))
  else none)
 else some (s6,s9,b0)
def Ha (k:Nat):Nat→Uq:=vH (fun _ _ _=>none) (CJ k)
def G8 (k:Nat)(a0:List zB)(a1:Int):Option ((List zB)×Int):=
 (lz k a0 a1).bind fun x0=>
 bif !(decide (x0.2.2.2.2.2.2.2.2=0)) then some (a0,x0.2.2.2.2.2.2.2.2)
 else(Ha k k x0.1 0 (MA x0)).bind fun z=>
 (xf k z.1 z.2.1 z.2.2.1 z.2.2.2.1 z.2.2.2.2.1 z.2.2.2.2.2.1 z.2.2.2.2.2.2.1 z.2.2.2.2.2.2.2.1 z.2.2.2.2.2.2.2.2).bind fun x2=>
 some (x2,0)
def G7 (k:Nat)(a0:List zB)(a1:Int):Option ((List zB)×Int):=
 (lz k a0 a1).bind fun x0=>
 bif !(decide (x0.2.2.2.2.2.2.2.2=0)) then some (a0,x0.2.2.2.2.2.2.2.2)
 else(CG k x0.1 x0.2.1 x0.2.2.1 x0.2.2.2.1 x0.2.2.2.2.1 x0.2.2.2.2.2.1 x0.2.2.2.2.2.2.1 x0.2.2.2.2.2.2.2.1).bind fun x1=>
 (xf k x0.1 x1 x0.2.1 x0.2.2.1 x0.2.2.2.1 x0.2.2.2.2.1 x0.2.2.2.2.2.1 x0.2.2.2.2.2.2.1 x0.2.2.2.2.2.2.2.1).bind fun x2=>
 some (x2,0)
def G6 (k:Nat)(a0:List zB)(a1 a2:Int):Option ((List zB)×Int):=
 (lz k a0 a1).bind fun x0=>
 bif !(decide (x0.2.2.2.2.2.2.2.2=0)) then some (a0,x0.2.2.2.2.2.2.2.2)
 else(CG k x0.1 x0.2.1 x0.2.2.1 x0.2.2.2.1 x0.2.2.2.2.1 a2 x0.2.2.2.2.2.2.1 x0.2.2.2.2.2.2.2.1).bind fun x1=>
 (xf k x0.1 x1 x0.2.1 x0.2.2.1 x0.2.2.2.1 x0.2.2.2.2.1 a2 x0.2.2.2.2.2.2.1 x0.2.2.2.2.2.2.2.1).bind fun x2=>
 some (x2,0)
def xn (k:Nat)(a0:nr)(a1:Int)(a2:Ip):Option (Int×rz):=
 (yA3 k (qV a0 ([],a0.2.2.2.2.2.2.2.2.2.2.2.2.2.2.2.2.2)) a2.1).bind fun x0=>
 bif !x0.2 then some (4,(qV a0 ([],a0.2.2.2.2.2.2.2.2.2.2.2.2.2.2.2.2.2)))
 else bif decide (a1 = 2) then ((lz k a0.2.2.2.2.2.2.2.2.2.2.2.2.1 a2.1).bind fun x1=>
  (jA k 20 [a2.1]).bind fun x2=>
  some (0,(gV a0 (x1.1,(M7 a0 ([(a0.2.2.2.2.2.2.2.2.2.2.2.2.2.2.2.2.1,x2)],a0.2.2.2.2.2.2.2.2.2.2.2.2.2.2.2.2.2))))))
 else bif decide (a1 = 3) then (bif decide (a2.2.1 = 0) then ((G8 k a0.2.2.2.2.2.2.2.2.2.2.2.2.1 a2.1).bind fun x3=>
   some (0,(gV a0 (x3.1,(M7 a0 ([],a0.2.2.2.2.2.2.2.2.2.2.2.2.2.2.2.2.2))))))
  else bif decide (a2.2.1 = 1) then ((G7 k a0.2.2.2.2.2.2.2.2.2.2.2.2.1 a2.1).bind fun x4=>
   some (0,(gV a0 (x4.1,(M7 a0 ([],a0.2.2.2.2.2.2.2.2.2.2.2.2.2.2.2.2.2))))))
  else some (1,(qV a0 ([],a0.2.2.2.2.2.2.2.2.2.2.2.2.2.2.2.2.2))))
 else bif decide (a2.2.1<1) then some (1,(qV a0 ([],a0.2.2.2.2.2.2.2.2.2.2.2.2.2.2.2.2.2)))
 else bif decide (a2.2.1>3) then some (1,(qV a0 ([],a0.2.2.2.2.2.2.2.2.2.2.2.2.2.2.2.2.2)))
 else(CT k (qZ a0) a0.2.2.2.2.2.1 a2.2.1).bind fun x5=>
 bif !(decide (x5=0)) then some (x5,(qV a0 ([],a0.2.2.2.2.2.2.2.2.2.2.2.2.2.2.2.2.2)))
 else(G6 k a0.2.2.2.2.2.2.2.2.2.2.2.2.1 a2.1 a2.2.1).bind fun x6=>
 some (0,(gV a0 (x6.1,(M7 a0 ([],a0.2.2.2.2.2.2.2.2.2.2.2.2.2.2.2.2.2)))))
def xo (k:Nat)(a0:nr)(a1:Int)(a2:Ip):Option (Int×rz):=
 (mc k a0.2.2.2.2.2.2.1 a0.2.2.2.2.2.2.2.1 a0.2.2.2.2.2.2.2.2.1 a0.2.2.2.2.2.2.2.2.2.1).bind fun x0=>
 bif decide (a1 = 5) then ((qs k (qV a0 ([],a0.2.2.2.2.2.2.2.2.2.2.2.2.2.2.2.2.2)) a2.1).bind fun x1=>
  bif decide (x1<0) then some (1,(qV a0 ([],a0.2.2.2.2.2.2.2.2.2.2.2.2.2.2.2.2.2)))
  else bif decide (x1=a0.2.2.2.2.2.2.2.2.2.2.2.2.2.2.2.2.1) then some (1,(qV a0 ([],a0.2.2.2.2.2.2.2.2.2.2.2.2.2.2.2.2.2)))
  else bif decide (a2.2.1<(-1)) then some (1,(qV a0 ([],a0.2.2.2.2.2.2.2.2.2.2.2.2.2.2.2.2.2)))
  else bif decide (a2.2.1>1152921504606846976) then some (1,(qV a0 ([],a0.2.2.2.2.2.2.2.2.2.2.2.2.2.2.2.2.2)))
  else bif zC a0.2.2.2.2.2.2.2.2.2.2.2.2.2.2.2.2.1 x0.2.1.length then (bif zC x1 (x0.2.1.getD a0.2.2.2.2.2.2.2.2.2.2.2.2.2.2.2.2.1.toNat []).length then (let y0:EQ:=(x0.2.1.set a0.2.2.2.2.2.2.2.2.2.2.2.2.2.2.2.2.1.toNat ((x0.2.1.getD a0.2.2.2.2.2.2.2.2.2.2.2.2.2.2.2.2.1.toNat []).set x1.toNat a2.2.1))
    some (0,(wJ a0 (x0.1,y0,x0.2.2.1,x0.2.2.2,(X8 a0 ([],a0.2.2.2.2.2.2.2.2.2.2.2.2.2.2.2.2.2))))))
   else none)
  else none)
 else bif decide (a1 = 6) then (bif decide (a2.1<(-1)) then some (1,(qV a0 ([],a0.2.2.2.2.2.2.2.2.2.2.2.2.2.2.2.2.2)))
  else bif decide (a2.1>1152921504606846976) then some (1,(qV a0 ([],a0.2.2.2.2.2.2.2.2.2.2.2.2.2.2.2.2.2)))
  else bif zC a0.2.2.2.2.2.2.2.2.2.2.2.2.2.2.2.2.1 x0.2.2.1.length then (let y1:AC:=(x0.2.2.1.set a0.2.2.2.2.2.2.2.2.2.2.2.2.2.2.2.2.1.toNat a2.1)
   some (0,(wJ a0 (x0.1,x0.2.1,y1,x0.2.2.2,(X8 a0 ([],a0.2.2.2.2.2.2.2.2.2.2.2.2.2.2.2.2.2))))))
  else none)
 else bif decide (a2.1<0) then some (1,(qV a0 ([],a0.2.2.2.2.2.2.2.2.2.2.2.2.2.2.2.2.2)))
 else bif decide (a2.1>1152921504606846976) then some (1,(qV a0 ([],a0.2.2.2.2.2.2.2.2.2.2.2.2.2.2.2.2.2)))
 else bif zC a0.2.2.2.2.2.2.2.2.2.2.2.2.2.2.2.2.1 x0.1.length then (let y2:List zH:=(x0.1.set a0.2.2.2.2.2.2.2.2.2.2.2.2.2.2.2.2.1.toNat ((x0.1.getD a0.2.2.2.2.2.2.2.2.2.2.2.2.2.2.2.2.1.toNat (0,0,0)).1,(x0.1.getD a0.2.2.2.2.2.2.2.2.2.2.2.2.2.2.2.2.1.toNat (0,0,0)).2.1,a2.1))
  some (0,(wJ a0 (y2,x0.2.1,x0.2.2.1,x0.2.2.2,(X8 a0 ([],a0.2.2.2.2.2.2.2.2.2.2.2.2.2.2.2.2.2))))))
 else none
def qt (k:Nat)(a0:AC)(a1 a2:Int):Option AC:=
 bif zR (0 + a0.length) 8 then (bif decide (a1 ≥ 0) then (bif decide (a1 < (a0.length : Int)) then (bif zC a1 a0.length then some (a0.set a1.toNat a2)
    else none)
   else some a0)
  else some a0)
 else none
def Ly (k:Nat)(a0:nr)(a1 a2:Int):Option (Int×rz):=
 bif decide (a1<0) then some (1,(qV a0 ([],a0.2.2.2.2.2.2.2.2.2.2.2.2.2.2.2.2.2)))
 else bif decide (a1≥(a0.2.1.length:Int)) then some (1,(qV a0 ([],a0.2.2.2.2.2.2.2.2.2.2.2.2.2.2.2.2.2)))
 else bif decide (a2<0) then some (1,(qV a0 ([],a0.2.2.2.2.2.2.2.2.2.2.2.2.2.2.2.2.2)))
 else bif decide (a2>1099511627776) then some (1,(qV a0 ([],a0.2.2.2.2.2.2.2.2.2.2.2.2.2.2.2.2.2)))
 else bif zC a0.2.2.2.2.2.2.2.2.2.2.2.2.2.2.2.2.1 a0.2.2.2.2.2.2.2.2.2.2.2.1.length then ((qt k (a0.2.2.2.2.2.2.2.2.2.2.2.1.getD a0.2.2.2.2.2.2.2.2.2.2.2.2.2.2.2.2.1.toNat []) a1 a2).bind fun x0=>
  (tF k a0.2.1 a0.2.2.2.2.2.2.2.2.2.2.1 x0).bind fun x1=>
  bif !x1.2 then some (8,(qV a0 ([],a0.2.2.2.2.2.2.2.2.2.2.2.2.2.2.2.2.2)))
  else bif decide (x1.1>1152921504606846976) then some (8,(qV a0 ([],a0.2.2.2.2.2.2.2.2.2.2.2.2.2.2.2.2.2)))
  else(mc k a0.2.2.2.2.2.2.1 a0.2.2.2.2.2.2.2.1 a0.2.2.2.2.2.2.2.2.1 a0.2.2.2.2.2.2.2.2.2.1).bind fun x2=>
  bif zC a0.2.2.2.2.2.2.2.2.2.2.2.2.2.2.2.2.1 x2.1.length then (bif decide (x1.1 < (x2.1.getD a0.2.2.2.2.2.2.2.2.2.2.2.2.2.2.2.2.1.toNat (0, 0, 0)).2.1) then (bif decide ((zA ((x2.1.getD a0.2.2.2.2.2.2.2.2.2.2.2.2.2.2.2.2.1.toNat (0,0,0)).1+x1.1))<0) then some (9,(qV a0 ([],a0.2.2.2.2.2.2.2.2.2.2.2.2.2.2.2.2.2)))
    else bif zC a0.2.2.2.2.2.2.2.2.2.2.2.2.2.2.2.2.1 x2.1.length then (let y0:List zH:=(x2.1.set a0.2.2.2.2.2.2.2.2.2.2.2.2.2.2.2.2.1.toNat ((x2.1.getD a0.2.2.2.2.2.2.2.2.2.2.2.2.2.2.2.2.1.toNat (0,0,0)).1,x1.1,(x2.1.getD a0.2.2.2.2.2.2.2.2.2.2.2.2.2.2.2.2.1.toNat (0,0,0)).2.2))
     bif zR (0 + a0.2.2.2.2.2.2.2.2.2.2.2.1.length) 24 then (bif zC a0.2.2.2.2.2.2.2.2.2.2.2.2.2.2.2.2.1 a0.2.2.2.2.2.2.2.2.2.2.2.1.length then (let y1:EQ:=(a0.2.2.2.2.2.2.2.2.2.2.2.1.set a0.2.2.2.2.2.2.2.2.2.2.2.2.2.2.2.2.1.toNat x0)
       some (0,(wJ a0 (y0,x2.2.1,x2.2.2.1,x2.2.2.2,a0.2.2.2.2.2.2.2.2.2.2.1,y1,(qX2 a0 ([],a0.2.2.2.2.2.2.2.2.2.2.2.2.2.2.2.2.2))))))
      else none)
     else none)
    else none)
   else bif zC a0.2.2.2.2.2.2.2.2.2.2.2.2.2.2.2.2.1 x2.1.length then (let y2:List zH:=(x2.1.set a0.2.2.2.2.2.2.2.2.2.2.2.2.2.2.2.2.1.toNat ((x2.1.getD a0.2.2.2.2.2.2.2.2.2.2.2.2.2.2.2.2.1.toNat (0,0,0)).1,x1.1,(x2.1.getD a0.2.2.2.2.2.2.2.2.2.2.2.2.2.2.2.2.1.toNat (0,0,0)).2.2))
    bif zR (0 + a0.2.2.2.2.2.2.2.2.2.2.2.1.length) 24 then (bif zC a0.2.2.2.2.2.2.2.2.2.2.2.2.2.2.2.2.1 a0.2.2.2.2.2.2.2.2.2.2.2.1.length then (let y3:EQ:=(a0.2.2.2.2.2.2.2.2.2.2.2.1.set a0.2.2.2.2.2.2.2.2.2.2.2.2.2.2.2.2.1.toNat x0)
      some (0,(wJ a0 (y2,x2.2.1,x2.2.2.1,x2.2.2.2,a0.2.2.2.2.2.2.2.2.2.2.1,y3,(qX2 a0 ([],a0.2.2.2.2.2.2.2.2.2.2.2.2.2.2.2.2.2))))))
     else none)
    else none)
   else none)
  else none)
 else none
def CU (k:Nat)(a0:zH)(a1:Int):Option (zH×Int):=
 (CE k a0.1 a1).bind fun x0=>
 bif !x0.2 then some (a0,8)
 else(Fu k x0.1 a0.2.1 a0.2.2).bind fun x1=>
 bif !x1 then some (a0,8)
 else some ((x0.1,a0.2),0)
def CV (k:Nat)(a0:nr)(a1:Bool)(a2 a3:Int):Option (Int×rz):=
 (qs k (qV a0 ([],a0.2.2.2.2.2.2.2.2.2.2.2.2.2.2.2.2.2)) a2).bind fun x0=>
 bif decide (x0<0) then some (1,(qV a0 ([],a0.2.2.2.2.2.2.2.2.2.2.2.2.2.2.2.2.2)))
 else bif decide (a3<1) then some (1,(qV a0 ([],a0.2.2.2.2.2.2.2.2.2.2.2.2.2.2.2.2.2)))
 else bif decide (a3>1099511627776) then some (1,(qV a0 ([],a0.2.2.2.2.2.2.2.2.2.2.2.2.2.2.2.2.2)))
 else(mc k a0.2.2.2.2.2.2.1 a0.2.2.2.2.2.2.2.1 a0.2.2.2.2.2.2.2.2.1 a0.2.2.2.2.2.2.2.2.2.1).bind fun x1=>
 bif a1 then (bif zC x0 x1.1.length then ((CU k (x1.1.getD x0.toNat (0,0,0)) a3).bind fun x2=>
   bif decide ((zA (a0.2.2.2.2.2.2.2.2.2.2.2.2.2.2.1+a3))>1152921504606846976) then some (8,(qV a0 ([],a0.2.2.2.2.2.2.2.2.2.2.2.2.2.2.2.2.2)))
   else bif !(decide (x2.2=0)) then some (8,(qV a0 ([],a0.2.2.2.2.2.2.2.2.2.2.2.2.2.2.2.2.2)))
   else bif zC x0 x1.1.length then some (0,(wJ a0 ((x1.1.set x0.toNat x2.1),x1.2.1,x1.2.2.1,x1.2.2.2,(D4 a0 ((zA (a0.2.2.2.2.2.2.2.2.2.2.2.2.2.2.1+a3)),a0.2.2.2.2.2.2.2.2.2.2.2.2.2.2.2.1,a0.2.2.2.2.2.2.2.2.2.2.2.2.2.2.2.2.1,[],a0.2.2.2.2.2.2.2.2.2.2.2.2.2.2.2.2.2)))))
   else none)
  else none)
 else bif zC x0 x1.1.length then (bif decide ((zA ((zA ((x1.1.getD x0.toNat (0,0,0)).1+(x1.1.getD x0.toNat (0,0,0)).2.1))-(x1.1.getD x0.toNat (0,0,0)).2.2))<a3) then some (9,(qV a0 ([],a0.2.2.2.2.2.2.2.2.2.2.2.2.2.2.2.2.2)))
  else bif decide (a0.2.2.2.2.2.2.2.2.2.2.2.2.2.2.1<a3) then some (9,(qV a0 ([],a0.2.2.2.2.2.2.2.2.2.2.2.2.2.2.2.2.2)))
  else bif zC x0 x1.1.length then (let y0:List zH:=(x1.1.set x0.toNat ((zA ((x1.1.getD x0.toNat (0,0,0)).1-a3)),(x1.1.getD x0.toNat (0,0,0)).2))
   some (0,(wJ a0 (y0,x1.2.1,x1.2.2.1,x1.2.2.2,(D4 a0 ((zA (a0.2.2.2.2.2.2.2.2.2.2.2.2.2.2.1-a3)),a0.2.2.2.2.2.2.2.2.2.2.2.2.2.2.2.1,a0.2.2.2.2.2.2.2.2.2.2.2.2.2.2.2.2.1,[],a0.2.2.2.2.2.2.2.2.2.2.2.2.2.2.2.2.2))))))
  else none)
 else none
abbrev XV:Type:=(nr×AC×(List zH)×EQ×AC×EQ)⊕(Int×nr)
abbrev XT:Type:=Int→nr→AC→List zH→EQ→AC→EQ→Option XV
def CW (k:Nat)(rec:XT)(s9:Int)(b0:nr)(r1:AC)(r3:List zH)(m4:EQ)(r5:AC)(m6:EQ):Option XV:=
 bif decide (s9 < (r3.length : Int)) then (bif zC s9 b0.2.2.2.2.2.2.2.2.2.2.2.1.length then ((tF k b0.2.1 r1 (b0.2.2.2.2.2.2.2.2.2.2.2.1.getD s9.toNat [])).bind fun x2=>
   bif !x2.2 then some (.inr (8,b0))
   else bif decide (x2.1>1152921504606846976) then some (.inr (8,b0))
   else bif zC s9 r3.length then (let y0:List zH:=(r3.set s9.toNat ((r3.getD s9.toNat (0,0,0)).1,x2.1,(r3.getD s9.toNat (0,0,0)).2.2))
    rec (zA (s9+1)) b0 r1 y0 m4 r5 m6)
   else none)
  else none)
 else some (.inl (b0,r1,r3,m4,r5,m6))
def qu (k:Nat):Nat→XT:=vH (fun _ _ _ _ _ _ _=>none) (CW k)
def LA (k:Nat)(a0:nr)(a1 a2:Int):Option (Int×rz):=
 bif decide (a1<0) then some (1,(qV a0 ([],a0.2.2.2.2.2.2.2.2.2.2.2.2.2.2.2.2.2)))
 else bif decide (a1≥(a0.2.1.length:Int)) then some (1,(qV a0 ([],a0.2.2.2.2.2.2.2.2.2.2.2.2.2.2.2.2.2)))
 else bif decide (a2<0) then some (1,(qV a0 ([],a0.2.2.2.2.2.2.2.2.2.2.2.2.2.2.2.2.2)))
 else bif decide (a2>1048576) then some (1,(qV a0 ([],a0.2.2.2.2.2.2.2.2.2.2.2.2.2.2.2.2.2)))
 else(qt k a0.2.2.2.2.2.2.2.2.2.2.1 a1 a2).bind fun x0=>
 (mc k a0.2.2.2.2.2.2.1 a0.2.2.2.2.2.2.2.1 a0.2.2.2.2.2.2.2.2.1 a0.2.2.2.2.2.2.2.2.2.1).bind fun x1=>
 (qu k k 0 a0 x0 x1.1 x1.2.1 x1.2.2.1 x1.2.2.2).bind fun z=>
 match z with
 |.inl z1=>some (0,(wJ z1.1 (xj z1 (z1.2.1,(qXn z1.1 ([],z1.1.2.2.2.2.2.2.2.2.2.2.2.2.2.2.2.2.2))))))
 |.inr z2=>some (yDd z2 ([],z2.2.2.2.2.2.2.2.2.2.2.2.2.2.2.2.2.2.2))
def tN (k:Nat)(a0:nr)(a1:zB):Option (Int×rz):=
 bif decide (a1.1 = 1) then ((Lx k a0 a1.2).bind fun x0=>
  some (x0.1,x0.2))
 else bif decide (a1.1 = 2) then ((xn k a0 a1.1 a1.2).bind fun x1=>
  some (x1.1,x1.2))
 else bif decide (a1.1 = 3) then ((xn k a0 a1.1 a1.2).bind fun x2=>
  some (x2.1,x2.2))
 else bif decide (a1.1 = 4) then ((xn k a0 a1.1 a1.2).bind fun x3=>
  some (x3.1,x3.2))
 else bif decide (a1.1 = 5) then ((xo k a0 a1.1 a1.2).bind fun x4=>
  some (x4.1,x4.2))
 else bif decide (a1.1 = 6) then ((xo k a0 a1.1 a1.2).bind fun x5=>
  some (x5.1,x5.2))
 else bif decide (a1.1 = 7) then ((xo k a0 a1.1 a1.2).bind fun x6=>
  some (x6.1,x6.2))
 else bif decide (a1.1 = 8) then ((Ly k a0 a1.2.1 a1.2.2.1).bind fun x7=>
  some (x7.1,x7.2))
 else bif decide (a1.1 = 10) then ((CV k a0 (decide (a1.1=10)) a1.2.1 a1.2.2.1).bind fun x8=>
  some (x8.1,x8.2))
 else bif decide (a1.1 = 11) then ((CV k a0 (decide (a1.1=10)) a1.2.1 a1.2.2.1).bind fun x9=>
  some (x9.1,x9.2))
 else bif decide (a1.1 = 12) then ((LA k a0 a1.2.1 a1.2.2.1).bind fun gg=>
  some (gg.1,gg.2))
 else some (0,(qV a0 ([],a0.2.2.2.2.2.2.2.2.2.2.2.2.2.2.2.2.2)))
def Hw (k:Nat)(a0:yI)(a1:yN)(a2:qP):Option (yN×(List qP)×Int):=
 (xr k a0 a2).bind fun x0=>
 bif !x0 then some (a1,[],5)
 else bif a1.2.2.2.2.2.2.2.2.2.2 then (bif !(decide (a2.2.1=9)) then some (a1,[],7)
  else bif decide (a2.2.1 = 9) then (bif zC a2.1 a1.2.1.length then ((pZ k a1.2.2.2.2.2.2.2.1 a2.1).bind fun x1=>
    (jA k 17 [(a1.2.1.getD a2.1.toNat (0,0,0)).1,(a1.2.1.getD a2.1.toNat (0,0,0)).2.1,(a1.2.1.getD a2.1.toNat (0,0,0)).2.2,(x1.length:Int),a1.1]).bind fun x2=>
    some (a1,[(a2.1,x2)],0))
   else none)
  else bif decide (a2.2.1 = 14) then ((Dh k a0 a1).bind fun x3=>
   some (x3.1,x3.2,0))
  else(tN k (jZ a0 (jJ a1 (a2.1,0))) a2.2).bind fun x4=>
  bif !(decide (x4.1=0)) then some (a1,[],x4.1)
  else bif !(decide (a2.1 = (-1))) then ((jA k 15 []).bind fun x5=>
   (lA k x4.2.2.2.2.2.2.1 x4.2.2.2.2.2.2.2.1 x4.2.2.2.2.2.2.2.2.1 x4.2.2.2.2.2.2.2.2.2.1 x4.2.2.2.2.2.2.2.2.2.2.1 x4.2.2.2.2.2.2.2.2.2.2.2.1 x4.2.2.2.2.2.2.2.2.2.2.2.2.1 x4.2.2.2.2.2.2.2.2.2.2.2.2.2.1 x4.2.2.2.2.2.2.2.2.2.2.2.2.2.2.1 x4.2.2.2.2.2.2.2.2.2.2.2.2.2.2.2.1 x4.2.2.2.2.2.2.2.2.2.2.2.2.2.2.2.2.1 (decide (a2.2.1=13))).bind fun x6=>
   bif zR (1 + x4.2.2.2.2.2.2.2.2.2.2.2.2.2.2.2.2.2.2.1.length) 64 then (let y0:List qP:=([(a2.1,x5)]++x4.2.2.2.2.2.2.2.2.2.2.2.2.2.2.2.2.2.2.1)
    bif zR (y0.length + x6.2.2.2.2.2.2.2.2.2.2.2.length) 64 then (bif decide (x4.2.2.2.2.2.2.2.2.2.2.2.2.2.2.2.2.2.2.2 > 0) then ((j6 k x6.2.2.2.2.2.2.2.1 x4.2.2.2.2.2.2.2.2.2.2.2.2.2.2.2.2.2.2.2).bind fun x7=>
      bif decide (x7 ≥ 0) then ((jA k 19 [x4.2.2.2.2.2.2.2.2.2.2.2.2.2.2.2.2.2.2.2]).bind fun x8=>
       bif zR ((y0 ++ x6.2.2.2.2.2.2.2.2.2.2.2).length + 1) 64 then (let y1:List qP:=((y0++x6.2.2.2.2.2.2.2.2.2.2.2)++[(a2.1,x8)])
        some ((qR x6),y1,0))
       else none)
      else some ((qR x6),(y0++x6.2.2.2.2.2.2.2.2.2.2.2),0))
     else some ((qR x6),(y0++x6.2.2.2.2.2.2.2.2.2.2.2),0))
    else none)
   else none)
  else(lA k x4.2.2.2.2.2.2.1 x4.2.2.2.2.2.2.2.1 x4.2.2.2.2.2.2.2.2.1 x4.2.2.2.2.2.2.2.2.2.1 x4.2.2.2.2.2.2.2.2.2.2.1 x4.2.2.2.2.2.2.2.2.2.2.2.1 x4.2.2.2.2.2.2.2.2.2.2.2.2.1 x4.2.2.2.2.2.2.2.2.2.2.2.2.2.1 x4.2.2.2.2.2.2.2.2.2.2.2.2.2.2.1 x4.2.2.2.2.2.2.2.2.2.2.2.2.2.2.2.1 x4.2.2.2.2.2.2.2.2.2.2.2.2.2.2.2.2.1 (decide (a2.2.1=13))).bind fun x9=>
  bif zR x4.2.2.2.2.2.2.2.2.2.2.2.2.2.2.2.2.2.2.1.length 64 then (let y2:List qP:=x4.2.2.2.2.2.2.2.2.2.2.2.2.2.2.2.2.2.2.1
   bif zR (y2.length + x9.2.2.2.2.2.2.2.2.2.2.2.length) 64 then (bif decide (x4.2.2.2.2.2.2.2.2.2.2.2.2.2.2.2.2.2.2.2 > 0) then ((j6 k x9.2.2.2.2.2.2.2.1 x4.2.2.2.2.2.2.2.2.2.2.2.2.2.2.2.2.2.2.2).bind fun gg=>
     bif decide (gg ≥ 0) then ((jA k 19 [x4.2.2.2.2.2.2.2.2.2.2.2.2.2.2.2.2.2.2.2]).bind fun Hv=>
      bif zR ((y2 ++ x9.2.2.2.2.2.2.2.2.2.2.2).length + 1) 64 then (let y3:List qP:=((y2++x9.2.2.2.2.2.2.2.2.2.2.2)++[(a2.1,Hv)])
       some ((qR x9),y3,0))
      else none)
     else some ((qR x9),(y2++x9.2.2.2.2.2.2.2.2.2.2.2),0))
    else some ((qR x9),(y2++x9.2.2.2.2.2.2.2.2.2.2.2),0))
   else none)
  else none)
 else bif decide (a2.2.1 = 9) then (bif zC a2.1 a1.2.1.length then ((pZ k a1.2.2.2.2.2.2.2.1 a2.1).bind fun X9=>
   (jA k 17 [(a1.2.1.getD a2.1.toNat (0,0,0)).1,(a1.2.1.getD a2.1.toNat (0,0,0)).2.1,(a1.2.1.getD a2.1.toNat (0,0,0)).2.2,(X9.length:Int),a1.1]).bind fun x13=>
   some (a1,[(a2.1,x13)],0))
  else none)
 else bif decide (a2.2.1 = 14) then ((Dh k a0 a1).bind fun x14=>
  some (x14.1,x14.2,0))
 else(tN k (jZ a0 (jJ a1 (a2.1,0))) a2.2).bind fun cN=>
 bif !(decide (cN.1=0)) then some (a1,[],cN.1)
 else bif !(decide (a2.1 = (-1))) then ((jA k 15 []).bind fun x16=>
  (lA k cN.2.2.2.2.2.2.1 cN.2.2.2.2.2.2.2.1 cN.2.2.2.2.2.2.2.2.1 cN.2.2.2.2.2.2.2.2.2.1 cN.2.2.2.2.2.2.2.2.2.2.1 cN.2.2.2.2.2.2.2.2.2.2.2.1 cN.2.2.2.2.2.2.2.2.2.2.2.2.1 cN.2.2.2.2.2.2.2.2.2.2.2.2.2.1 cN.2.2.2.2.2.2.2.2.2.2.2.2.2.2.1 cN.2.2.2.2.2.2.2.2.2.2.2.2.2.2.2.1 cN.2.2.2.2.2.2.2.2.2.2.2.2.2.2.2.2.1 (decide (a2.2.1=13))).bind fun rD=>
  bif zR (1 + cN.2.2.2.2.2.2.2.2.2.2.2.2.2.2.2.2.2.2.1.length) 64 then (let y4:List qP:=([(a2.1,x16)]++cN.2.2.2.2.2.2.2.2.2.2.2.2.2.2.2.2.2.2.1)
   bif zR (y4.length + rD.2.2.2.2.2.2.2.2.2.2.2.length) 64 then (bif decide (cN.2.2.2.2.2.2.2.2.2.2.2.2.2.2.2.2.2.2.2 > 0) then ((j6 k rD.2.2.2.2.2.2.2.1 cN.2.2.2.2.2.2.2.2.2.2.2.2.2.2.2.2.2.2.2).bind fun x18=>
     bif decide (x18 ≥ 0) then ((jA k 19 [cN.2.2.2.2.2.2.2.2.2.2.2.2.2.2.2.2.2.2.2]).bind fun x19=>
      bif zR ((y4 ++ rD.2.2.2.2.2.2.2.2.2.2.2).length + 1) 64 then (let y5:List qP:=((y4++rD.2.2.2.2.2.2.2.2.2.2.2)++[(a2.1,x19)])
       some ((qR rD),y5,0))
      else none)
     else some ((qR rD),(y4++rD.2.2.2.2.2.2.2.2.2.2.2),0))
    else some ((qR rD),(y4++rD.2.2.2.2.2.2.2.2.2.2.2),0))
   else none)
  else none)
 else(lA k cN.2.2.2.2.2.2.1 cN.2.2.2.2.2.2.2.1 cN.2.2.2.2.2.2.2.2.1 cN.2.2.2.2.2.2.2.2.2.1 cN.2.2.2.2.2.2.2.2.2.2.1 cN.2.2.2.2.2.2.2.2.2.2.2.1 cN.2.2.2.2.2.2.2.2.2.2.2.2.1 cN.2.2.2.2.2.2.2.2.2.2.2.2.2.1 cN.2.2.2.2.2.2.2.2.2.2.2.2.2.2.1 cN.2.2.2.2.2.2.2.2.2.2.2.2.2.2.2.1 cN.2.2.2.2.2.2.2.2.2.2.2.2.2.2.2.2.1 (decide (a2.2.1=13))).bind fun rE=>
 bif zR cN.2.2.2.2.2.2.2.2.2.2.2.2.2.2.2.2.2.2.1.length 64 then (let y6:List qP:=cN.2.2.2.2.2.2.2.2.2.2.2.2.2.2.2.2.2.2.1
  bif zR (y6.length + rE.2.2.2.2.2.2.2.2.2.2.2.length) 64 then (bif decide (cN.2.2.2.2.2.2.2.2.2.2.2.2.2.2.2.2.2.2.2 > 0) then ((j6 k rE.2.2.2.2.2.2.2.1 cN.2.2.2.2.2.2.2.2.2.2.2.2.2.2.2.2.2.2.2).bind fun x21=>
    bif decide (x21 ≥ 0) then ((jA k 19 [cN.2.2.2.2.2.2.2.2.2.2.2.2.2.2.2.2.2.2.2]).bind fun x22=>
     bif zR ((y6 ++ rE.2.2.2.2.2.2.2.2.2.2.2).length + 1) 64 then (let y7:List qP:=((y6++rE.2.2.2.2.2.2.2.2.2.2.2)++[(a2.1,x22)])
      some ((qR rE),y7,0))
     else none)
    else some ((qR rE),(y6++rE.2.2.2.2.2.2.2.2.2.2.2),0))
   else some ((qR rE),(y6++rE.2.2.2.2.2.2.2.2.2.2.2),0))
  else none)
 else none
abbrev XW:Type:=AC→AC→Int→Option (Unit⊕Bool)
def AO (k:Nat)(rec:XW)(s0 s1:AC)(s5:Int):Option (Unit⊕Bool):=
 bif decide (s5 < (s0.length : Int)) then (bif zC s5 s0.length then (bif zC s5 s1.length then (bif !(decide ((s0.getD s5.toNat 0)=(s1.getD s5.toNat 0))) then some (.inr false)
    else rec s0 s1 (zA (s5+1)))
   else none)
  else none)
 else some (.inl ())
def FN (k:Nat):Nat→XW
 |0,_,_,_=>none
 |n+1,s0,s1,s5=>AO k (FN k n) s0 s1 s5
def pS (k:Nat)(a0 a1:AC):Option Bool:=
 bif !(decide ((a0.length:Int)=(a1.length:Int))) then some false
 else(FN k k a0 a1 0).bind fun z=>
 match z with
 |.inl z1=>some true
 |.inr z2=>some z2
abbrev XZ:Type:=EQ→EQ→Int→Option (Unit⊕Bool)
def AP (k:Nat)(rec:XZ)(s0 s1:EQ)(s5:Int):Option (Unit⊕Bool):=
 bif decide (s5 < (s0.length : Int)) then (bif zC s5 s0.length then (bif zC s5 s1.length then ((pS k (s0.getD s5.toNat []) (s1.getD s5.toNat [])).bind fun x0=>
    bif !x0 then some (.inr false)
    else rec s0 s1 (zA (s5+1)))
   else none)
  else none)
 else some (.inl ())
def FO (k:Nat):Nat→XZ
 |0,_,_,_=>none
 |n+1,s0,s1,s5=>AP k (FO k n) s0 s1 s5
def wa (k:Nat)(a0 a1:EQ):Option Bool:=
 bif !(decide ((a0.length:Int)=(a1.length:Int))) then some false
 else(FO k k a0 a1 0).bind fun z=>
 match z with
 |.inl z1=>some true
 |.inr z2=>some z2
abbrev X2:Type:=Int→List zH→EQ→AC→EQ→List zH→EQ→AC→EQ→Option (Unit⊕Bool)
def AQ (k:Nat)(rec:X2)(s5:Int)(aa:List zH)(ae:EQ)(af:AC)(ab:EQ)(an:List zH)(ar:EQ)(au:AC)(ax:EQ):Option (Unit⊕Bool):=
 bif decide (s5 < (aa.length : Int)) then (bif zC s5 aa.length then (bif zC s5 an.length then (bif !((decide ((aa.getD s5.toNat (0,0,0)).1=(an.getD s5.toNat (0,0,0)).1))&&((decide ((aa.getD s5.toNat (0,0,0)).2.1=(an.getD s5.toNat (0,0,0)).2.1))&&(decide ((aa.getD s5.toNat (0,0,0)).2.2=(an.getD s5.toNat (0,0,0)).2.2)))) then some (.inr false)
    else rec (zA (s5+1)) aa ae af ab an ar au ax)
   else none)
  else none)
 else some (.inl ())
def FQ (k:Nat):Nat→X2
 |0,_,_,_,_,_,_,_,_,_=>none
 |n+1,s5,aa,ae,af,ab,an,ar,au,ax=>AQ k (FQ k n) s5 aa ae af ab an ar au ax
def FP (k:Nat)(aL:List zH)(aY:EQ)(aX:AC)(aT:EQ)(iK:List zH)(rF:EQ)(rG:AC)(rH:EQ):Option Bool:=
 bif !(decide ((aL.length:Int)=(iK.length:Int))) then some false
 else(wa k aY rF).bind fun x0=>
 bif !x0 then some false
 else(wa k aT rH).bind fun x1=>
 bif !x1 then some false
 else(pS k aX rG).bind fun x2=>
 bif !x2 then some false
 else(FQ k k 0 aL aY aX aT iK rF rG rH).bind fun z=>
 match z with
 |.inl z1=>some true
 |.inr z2=>some z2
abbrev X4:Type:=List zB→List zB→Int→Option (Unit⊕Bool)
def Dz (k:Nat)(rec:X4)(s0 s1:List zB)(s5:Int):Option (Unit⊕Bool):=
 bif decide (s5 < (s0.length : Int)) then (bif zC s5 s0.length then (bif zC s5 s1.length then (bif !((decide ((s0.getD s5.toNat (0,0,0,0,0,0,0)).1=(s1.getD s5.toNat (0,0,0,0,0,0,0)).1))&&((decide ((s0.getD s5.toNat (0,0,0,0,0,0,0)).2.1=(s1.getD s5.toNat (0,0,0,0,0,0,0)).2.1))&&((decide ((s0.getD s5.toNat (0,0,0,0,0,0,0)).2.2.1=(s1.getD s5.toNat (0,0,0,0,0,0,0)).2.2.1))&&((decide ((s0.getD s5.toNat (0,0,0,0,0,0,0)).2.2.2.1=(s1.getD s5.toNat (0,0,0,0,0,0,0)).2.2.2.1))&&((decide ((s0.getD s5.toNat (0,0,0,0,0,0,0)).2.2.2.2.1=(s1.getD s5.toNat (0,0,0,0,0,0,0)).2.2.2.2.1))&&((decide ((s0.getD s5.toNat (0,0,0,0,0,0,0)).2.2.2.2.2.1=(s1.getD s5.toNat (0,0,0,0,0,0,0)).2.2.2.2.2.1))&&(decide ((s0.getD s5.toNat (0,0,0,0,0,0,0)).2.2.2.2.2.2=(s1.getD s5.toNat (0,0,0,0,0,0,0)).2.2.2.2.2.2)))))))) then some (.inr false)
    else rec s0 s1 (zA (s5+1)))
   else none)
  else none)
 else some (.inl ())
def HI (k:Nat):Nat→X4
 |0,_,_,_=>none
 |n+1,s0,s1,s5=>Dz k (HI k n) s0 s1 s5
def HH (k:Nat)(a0 a1:List zB):Option Bool:=
 bif !(decide ((a0.length:Int)=(a1.length:Int))) then some false
 else(HI k k a0 a1 0).bind fun z=>
 match z with
 |.inl z1=>some true
 |.inr z2=>some z2
def L3 (k:Nat)(a0 a1:yN):Option Bool:=
 bif decide (a0.1 = a1.1) then (bif decide (a0.2.2.2.2.2.2.2.2.2.1 = a1.2.2.2.2.2.2.2.2.2.1) then (bif gY a0.2.2.2.2.2.2.2.2.2.2 a1.2.2.2.2.2.2.2.2.2.2 then ((FP k a0.2.1 a0.2.2.1 a0.2.2.2.1 a0.2.2.2.2.1 a1.2.1 a1.2.2.1 a1.2.2.2.1 a1.2.2.2.2.1).bind fun x0=>
    bif x0 then ((pS k a0.2.2.2.2.2.1 a1.2.2.2.2.2.1).bind fun x1=>
     bif x1 then ((wa k a0.2.2.2.2.2.2.1 a1.2.2.2.2.2.2.1).bind fun x2=>
      bif x2 then ((HH k a0.2.2.2.2.2.2.2.1 a1.2.2.2.2.2.2.2.1).bind fun x3=>
       bif x3 then ((pS k a0.2.2.2.2.2.2.2.2.1 a1.2.2.2.2.2.2.2.2.1).bind fun x4=>
        some x4)
       else some false)
      else some false)
     else some false)
    else some false)
   else some false)
  else some false)
 else some false
abbrev X6:Type:=List qP→List qP→Int→Option (Unit⊕Bool)
def Cn (k:Nat)(rec:X6)(s0 s1:List qP)(s5:Int):Option (Unit⊕Bool):=
 bif decide (s5 < (s0.length : Int)) then (bif zC s5 s0.length then (bif zC s5 s1.length then (bif !((decide ((s0.getD s5.toNat (0,0,0,0,0,0,0,0)).1=(s1.getD s5.toNat (0,0,0,0,0,0,0,0)).1))&&((decide ((s0.getD s5.toNat (0,0,0,0,0,0,0,0)).2.1=(s1.getD s5.toNat (0,0,0,0,0,0,0,0)).2.1))&&((decide ((s0.getD s5.toNat (0,0,0,0,0,0,0,0)).2.2.1=(s1.getD s5.toNat (0,0,0,0,0,0,0,0)).2.2.1))&&((decide ((s0.getD s5.toNat (0,0,0,0,0,0,0,0)).2.2.2.1=(s1.getD s5.toNat (0,0,0,0,0,0,0,0)).2.2.2.1))&&((decide ((s0.getD s5.toNat (0,0,0,0,0,0,0,0)).2.2.2.2.1=(s1.getD s5.toNat (0,0,0,0,0,0,0,0)).2.2.2.2.1))&&((decide ((s0.getD s5.toNat (0,0,0,0,0,0,0,0)).2.2.2.2.2.1=(s1.getD s5.toNat (0,0,0,0,0,0,0,0)).2.2.2.2.2.1))&&((decide ((s0.getD s5.toNat (0,0,0,0,0,0,0,0)).2.2.2.2.2.2.1=(s1.getD s5.toNat (0,0,0,0,0,0,0,0)).2.2.2.2.2.2.1))&&(decide ((s0.getD s5.toNat (0,0,0,0,0,0,0,0)).2.2.2.2.2.2.2=(s1.getD s5.toNat (0,0,0,0,0,0,0,0)).2.2.2.2.2.2.2))))))))) then some (.inr false)
    else rec s0 s1 (zA (s5+1)))
   else none)
  else none)
 else some (.inl ())
def GS (k:Nat):Nat→X6
 |0,_,_,_=>none
 |n+1,s0,s1,s5=>Cn k (GS k n) s0 s1 s5
def K7 (k:Nat)(a0 a1:List qP):Option Bool:=
 bif !(decide ((a0.length:Int)=(a1.length:Int))) then some false
 else(GS k k a0 a1 0).bind fun z=>
 match z with
 |.inl z1=>some true
 |.inr z2=>some z2
def L9 (k:Nat)(a0:yI)(a1:yN)(a2:qP):Option Bool:=
 (L8 k a0 a1).bind fun x0=>
 bif x0 then some true
 else(L7 k a0).bind fun x1=>
 bif !x1 then some true
 else(L5 k a0 a1).bind fun x2=>
 bif !x2 then some true
 else(Hy k a0 a1 a2).bind fun x3=>
 (Hw k a0 a1 a2).bind fun x4=>
 (L3 k x3.1 x4.1).bind fun x5=>
 bif x5 then ((K7 k x3.2.1 x4.2.1).bind fun x6=>
  bif x6 then (bif decide (x3.2.2 = x4.2.2) then ((L1 k a0 x3.1).bind fun x7=>
    bif x7 then ((R7 k).bind fun x8=>
     some x8)
    else some false)
   else some false)
  else some false)
 else some false
end Go.Ab.Gi
