/- part 5 -/
import Derived.Test.YthpehdcmpldloaaGreatGiXSa
set_option linter.unusedVariables false
set_option maxRecDepth 100000
namespace Go.Ab.Gi
abbrev qSq:Type:=List zC→Int→List zJ→EQ→AC→EQ→AC→Option AC
def sU (k:Nat)(rec:qSq)(s1:List zC)(s6:Int)(af:List zJ)(ai:EQ)(aj:AC)(ah:EQ)(r1:AC):Option AC:=
 bif decide (s6 < (af.length : Int)) then ((Pf k af ai aj ah s1 s6).bind fun x0=>
  bif x0 then (bif zL (r1.length+1) 8 then(rec s1 (zA (s6+1)) af ai aj ah (r1++[s6]))
   else none)
  else rec s1 (zA (s6+1)) af ai aj ah r1)
 else some r1
def uC (k:Nat):Nat→qSq
 |0,_,_,_,_,_,_,_=>none
 |n+1,s1,s6,af,ai,aj,ah,r1=>sU k (uC k n) s1 s6 af ai aj ah r1
def uB (k:Nat)(au:List zJ)(az:EQ)(ay:AC)(ax:EQ)(a1:List zC):Option AC:=
 (uC k k a1 0 au az ay ax []).bind fun z=>
 some z
def Ko (k:Nat)(au:List zJ)(az:EQ)(ay:AC)(ax:EQ)(a1:List zC):Option Bool:=
 (Kh k au az ay ax a1).bind fun x0=>
 bif x0 then ((uB k au az ay ax a1).bind fun x1=>
  some (decide ((x1.length:Int)=0)))
 else some false
def u9 (k:Nat)(au:List zJ)(az:EQ)(ay:AC)(ax:EQ)(a1:List zC):Option ((List zJ)×EQ×AC×EQ×Bool):=
 (Bz k au az ay ax a1).bind fun x0=>
 bif decide (x0.2.2.2.2 = 0) then ((Ko k au az ay ax a1).bind fun x1=>
  some (wA x0 x1))
 else some (wA x0 false)
abbrev qY1:Type:=zC⊕(Bool×Int×Int×Int×Int×Int×Int×Int)
abbrev qTk:Type:=Int→List zJ→EQ→AC→EQ→Int→Int→Int→Int→Int→Int→Int→List zC→Option qY1
def G5 (k:Nat)(rec:qTk)(s9:Int)(af:List zJ)(ai:EQ)(aj:AC)(ah:EQ)(av aB aC aE aG aH aI:Int)(r2:List zC):Option qY1:=
 bif decide (s9 < (r2.length : Int)) then (bif ((decide (0 ≤ s9)) && (decide (s9 ≤ (zA (s9 + 1))))) && (decide ((zA (s9 + 1)) ≤ (r2.length : Int))) then ((u9 k af ai aj ah (qR r2 (0+s9.toNat) ((zA (s9+1)).toNat-s9.toNat))).bind fun x1=>
   bif x1.2.2.2.2 then (bif zB s9 r2.length then some (.inr (true,(r2.getD s9.toNat (0,0,0,0,0,0,0)).1,(r2.getD s9.toNat (0,0,0,0,0,0,0)).2.1,(r2.getD s9.toNat (0,0,0,0,0,0,0)).2.2.1,(r2.getD s9.toNat (0,0,0,0,0,0,0)).2.2.2.1,(r2.getD s9.toNat (0,0,0,0,0,0,0)).2.2.2.2.1,(r2.getD s9.toNat (0,0,0,0,0,0,0)).2.2.2.2.2.1,(r2.getD s9.toNat (0,0,0,0,0,0,0)).2.2.2.2.2.2))
    else none)
   else rec (zA (s9+1)) af ai aj ah av aB aC aE aG aH aI r2)
  else none)
 else some (.inl (av,aB,aC,aE,aG,aH,aI))
def LB (k:Nat):Nat→qTk
 |0,_,_,_,_,_,_,_,_,_,_,_,_,_=>none
 |n+1,s9,af,ai,aj,ah,av,aB,aC,aE,aG,aH,aI,r2=>G5 k (LB k n) s9 af ai aj ah av aB aC aE aG aH aI r2
def Qz (k:Nat)(au:List zJ)(az:EQ)(ay:AC)(ax:EQ)(a1:List zC)(a2:Int):Option (Int×Int×Int×Int×Int×Int×Int×Bool):=
 (KD k a1 a2).bind fun x0=>
 (LB k k 0 au az ay ax 0 0 0 0 0 0 0 x0).bind fun z=>
 match z with
 |.inl z1=>some (0,0,0,0,0,0,0,false)
 |.inr z2=>some (yPm z2 z2.1)
abbrev qJu:Type:=List zC→Int→List zJ→EQ→AC→EQ→List zC→Option qZg
def G6 (k:Nat)(rec:qJu)(s1:List zC)(s2:Int)(af:List zJ)(ai:EQ)(aj:AC)(ah:EQ)(r2:List zC):Option qZg:=
 (Qz k af ai aj ah s1 s2).bind fun x0=>
 bif !x0.2.2.2.2.2.2.2 then some (s1,af,ai,aj,ah,r2)
 else(u9 k af ai aj ah [(vV x0)]).bind fun x1=>
 (oC k s1 x0.1).bind fun x2=>
 bif zL (r2.length + 1) 56 then (let y0:List zC:=(r2++[(vV x0)])
  rec x2.1 s2 x1.1 x1.2.1 x1.2.2.1 x1.2.2.2.1 y0)
 else none
def LC (k:Nat):Nat→qJu
 |0,_,_,_,_,_,_,_=>none
 |n+1,s1,s2,af,ai,aj,ah,r2=>G6 k (LC k n) s1 s2 af ai aj ah r2
def QA (k:Nat)(au:List zJ)(az:EQ)(ay:AC)(ax:EQ)(a1:List zC)(a2:Int):Option tq:=
 (LC k k a1 a2 au az ay ax []).bind fun z=>
 some (iG z (z.1,z.2.2.2.2.2))
abbrev yCu:Type:=(Int×(List zJ)×EQ×AC×EQ×Int×Int×Int×Int×Int×Int×Int×Int×Int×Int×Int×Int×Int×Int×(List zC))⊕(Bool×Int×Int×Int×Int×Int×Int×Int×Int×Int×Int×Int×Int×Int×Int)
abbrev qYp:Type:=Int→Int→List zJ→EQ→AC→EQ→Int→Int→Int→Int→Int→Int→Int→Int→Int→Int→Int→Int→Int→Int→List zC→Option yCu
def G7 (k:Nat)(rec:qYp)(aw aQ:Int)(af:List zJ)(ai:EQ)(aj:AC)(ah:EQ)(av aB aC aE aG aH aI aZ bX bY cU fz fB fD:Int)(r3:List zC):Option yCu:=
 bif decide (aQ < (r3.length : Int)) then (bif zB aw r3.length then (bif zB aQ r3.length then (bif !(decide ((r3.getD aQ.toNat (0,0,0,0,0,0,0)).2.1=(r3.getD aw.toNat (0,0,0,0,0,0,0)).2.2.1)) then(rec aw (zA (aQ+1)) af ai aj ah av aB aC aE aG aH aI aZ bX bY cU fz fB fD r3)
    else bif !(decide ((r3.getD aQ.toNat (0,0,0,0,0,0,0)).2.2.1=(r3.getD aw.toNat (0,0,0,0,0,0,0)).2.1)) then(rec aw (zA (aQ+1)) af ai aj ah av aB aC aE aG aH aI aZ bX bY cU fz fB fD r3)
    else bif decide ((r3.getD aw.toNat (0,0,0,0,0,0,0)).2.1≥(r3.getD aQ.toNat (0,0,0,0,0,0,0)).2.1) then(rec aw (zA (aQ+1)) af ai aj ah av aB aC aE aG aH aI aZ bX bY cU fz fB fD r3)
    else(u9 k af ai aj ah [(r3.getD aw.toNat (0,0,0,0,0,0,0)),(r3.getD aQ.toNat (0,0,0,0,0,0,0))]).bind fun x1=>
    bif x1.2.2.2.2 then some (.inr (true,(gi (r3.getD aw.toNat (0,0,0,0,0,0,0)) ((r3.getD aQ.toNat (0,0,0,0,0,0,0)).1,(r3.getD aQ.toNat (0,0,0,0,0,0,0)).2.1,(r3.getD aQ.toNat (0,0,0,0,0,0,0)).2.2.1,(r3.getD aQ.toNat (0,0,0,0,0,0,0)).2.2.2.1,(r3.getD aQ.toNat (0,0,0,0,0,0,0)).2.2.2.2.1,(r3.getD aQ.toNat (0,0,0,0,0,0,0)).2.2.2.2.2.1,(r3.getD aQ.toNat (0,0,0,0,0,0,0)).2.2.2.2.2.2))))
    else rec aw (zA (aQ+1)) af ai aj ah av aB aC aE aG aH aI aZ bX bY cU fz fB fD r3)
   else none)
  else none)
 else some (.inl (aw,af,ai,aj,ah,av,aB,aC,aE,aG,aH,aI,aZ,bX,bY,cU,fz,fB,fD,r3))
def LF (k:Nat):Nat→qYp
 |0,_,_,_,_,_,_,_,_,_,_,_,_,_,_,_,_,_,_,_,_,_=>none
 |n+1,aw,aQ,af,ai,aj,ah,av,aB,aC,aE,aG,aH,aI,aZ,bX,bY,cU,fz,fB,fD,r3=>G7 k (LF k n) aw aQ af ai aj ah av aB aC aE aG aH aI aZ bX bY cU fz fB fD r3
abbrev qN7:Type:=(Int×Int×Int×Int×Int×Int×Int×Int×Int×Int×Int×Int×Int×Int)⊕(Bool×Int×Int×Int×Int×Int×Int×Int×Int×Int×Int×Int×Int×Int×Int)
abbrev qQh:Type:=Int→List zJ→EQ→AC→EQ→Int→Int→Int→Int→Int→Int→Int→Int→Int→Int→Int→Int→Int→Int→List zC→Option qN7
def G8 (k:Nat)(rec:qQh)(aw:Int)(af:List zJ)(ai:EQ)(aj:AC)(ah:EQ)(av aB aC aE aG aH aI aZ bX bY cU fz fB fD:Int)(r3:List zC):Option qN7:=
 bif decide (aw < (r3.length : Int)) then ((LF k k aw 0 af ai aj ah av aB aC aE aG aH aI aZ bX bY cU fz fB fD r3).bind fun z=>
  match z with
  |.inl z1=>rec (zA (z1.1+1)) z1.2.1 z1.2.2.1 z1.2.2.2.1 z1.2.2.2.2.1 z1.2.2.2.2.2.1 z1.2.2.2.2.2.2.1 z1.2.2.2.2.2.2.2.1 z1.2.2.2.2.2.2.2.2.1 z1.2.2.2.2.2.2.2.2.2.1 z1.2.2.2.2.2.2.2.2.2.2.1 z1.2.2.2.2.2.2.2.2.2.2.2.1 z1.2.2.2.2.2.2.2.2.2.2.2.2.1 z1.2.2.2.2.2.2.2.2.2.2.2.2.2.1 z1.2.2.2.2.2.2.2.2.2.2.2.2.2.2.1 z1.2.2.2.2.2.2.2.2.2.2.2.2.2.2.2.1 z1.2.2.2.2.2.2.2.2.2.2.2.2.2.2.2.2.1 z1.2.2.2.2.2.2.2.2.2.2.2.2.2.2.2.2.2.1 z1.2.2.2.2.2.2.2.2.2.2.2.2.2.2.2.2.2.2.1 z1.2.2.2.2.2.2.2.2.2.2.2.2.2.2.2.2.2.2.2
  |.inr z2=>some (.inr (z2.1,z2.2.1,z2.2.2.1,z2.2.2.2.1,z2.2.2.2.2.1,z2.2.2.2.2.2.1,z2.2.2.2.2.2.2.1,z2.2.2.2.2.2.2.2.1,z2.2.2.2.2.2.2.2.2.1,z2.2.2.2.2.2.2.2.2.2.1,z2.2.2.2.2.2.2.2.2.2.2.1,z2.2.2.2.2.2.2.2.2.2.2.2.1,z2.2.2.2.2.2.2.2.2.2.2.2.2.1,z2.2.2.2.2.2.2.2.2.2.2.2.2.2.1,z2.2.2.2.2.2.2.2.2.2.2.2.2.2.2)))
 else some (.inl (av,aB,aC,aE,aG,aH,aI,aZ,bX,bY,cU,fz,fB,fD))
def LG (k:Nat):Nat→qQh
 |0,_,_,_,_,_,_,_,_,_,_,_,_,_,_,_,_,_,_,_,_=>none
 |n+1,aw,af,ai,aj,ah,av,aB,aC,aE,aG,aH,aI,aZ,bX,bY,cU,fz,fB,fD,r3=>G8 k (LG k n) aw af ai aj ah av aB aC aE aG aH aI aZ bX bY cU fz fB fD r3
def QB (k:Nat)(au:List zJ)(az:EQ)(ay:AC)(ax:EQ)(a1:List zC)(a2:Int):Option (Int×Int×Int×Int×Int×Int×Int×Int×Int×Int×Int×Int×Int×Int×Bool):=
 (KD k a1 a2).bind fun x0=>
 (LG k k 0 au az ay ax 0 0 0 0 0 0 0 0 0 0 0 0 0 0 x0).bind fun z3=>
 match z3 with
 |.inl z4=>some (0,0,0,0,0,0,0,0,0,0,0,0,0,0,false)
 |.inr z5=>some (vRu z5 z5.1)
def G9 (k:Nat)(rec:qJu)(s1:List zC)(s2:Int)(af:List zJ)(ai:EQ)(aj:AC)(ah:EQ)(r2:List zC):Option qZg:=
 (QB k af ai aj ah s1 s2).bind fun x0=>
 bif !x0.2.2.2.2.2.2.2.2.2.2.2.2.2.2 then some (s1,af,ai,aj,ah,r2)
 else(u9 k af ai aj ah [(vV x0),(yCg x0)]).bind fun x1=>
 (oC k s1 x0.1).bind fun x2=>
 (oC k x2.1 x0.2.2.2.2.2.2.2.1).bind fun x3=>
 bif zL (r2.length + 2) 56 then (let y0:List zC:=(r2++[(vV x0),(yCg x0)])
  rec x3.1 s2 x1.1 x1.2.1 x1.2.2.1 x1.2.2.2.1 y0)
 else none
def LH (k:Nat):Nat→qJu
 |0,_,_,_,_,_,_,_=>none
 |n+1,s1,s2,af,ai,aj,ah,r2=>G9 k (LH k n) s1 s2 af ai aj ah r2
def QC (k:Nat)(au:List zJ)(az:EQ)(ay:AC)(ax:EQ)(a1:List zC)(a2:Int):Option tq:=
 (LH k k a1 a2 au az ay ax []).bind fun z=>
 some (iG z (z.1,z.2.2.2.2.2))
def Hi (k:Nat)(rec:qJu)(s1:List zC)(s2:Int)(af:List zJ)(ai:EQ)(aj:AC)(ah:EQ)(r2:List zC):Option qZg:=
 (QA k af ai aj ah s1 s2).bind fun x0=>
 (QC k x0.1 x0.2.1 x0.2.2.1 x0.2.2.2.1 x0.2.2.2.2.1 s2).bind fun x1=>
 bif zL (r2.length + x0.2.2.2.2.2.length) 56 then (bif zL ((r2 ++ x0.2.2.2.2.2).length + x1.2.2.2.2.2.length) 56 then (let y0:List zC:=((r2++x0.2.2.2.2.2)++x1.2.2.2.2.2)
   bif decide ((x1.2.2.2.2.2.length:Int)=0) then some (x1.2.2.2.2.1,(wA x1 y0))
   else rec x1.2.2.2.2.1 s2 x1.1 x1.2.1 x1.2.2.1 x1.2.2.2.1 y0)
  else none)
 else none
def LK (k:Nat):Nat→qJu
 |0,_,_,_,_,_,_,_=>none
 |n+1,s1,s2,af,ai,aj,ah,r2=>Hi k (LK k n) s1 s2 af ai aj ah r2
def LL (k:Nat)(au:List zJ)(az:EQ)(ay:AC)(ax:EQ)(a1:List zC)(a2:Int):Option tq:=
 (LK k k a1 a2 au az ay ax []).bind fun z=>
 some (iG z (z.1,z.2.2.2.2.2))
abbrev qXv:Type:=List zC→AC→Int→List zC→Option qNg
def Hc (k:Nat)(rec:qXv)(s0:List zC)(s1:AC)(s6:Int)(r0:List zC):Option qNg:=
 bif decide (s6 < (s0.length : Int)) then (bif (decide (0 ≤ s6)) && (decide (s6 ≤ (s0.length : Int))) then (bif zB s6 s0.length then ((uE k (List.take s6.toNat s0) (s0.getD s6.toNat (0,0,0,0,0,0,0)).2.1).bind fun x0=>
    bif zB s6 s0.length then (bif decide ((s0.getD s6.toNat (0, 0, 0, 0, 0, 0, 0)).2.1 ≥ 0) then (bif zB s6 s0.length then (bif decide ((s0.getD s6.toNat (0, 0, 0, 0, 0, 0, 0)).2.1 < (s1.length : Int)) then (bif zB s6 s0.length then (bif zB (s0.getD s6.toNat (0, 0, 0, 0, 0, 0, 0)).2.1 s1.length then (bif decide ((x0.length : Int) < (s1.getD (s0.getD s6.toNat (0, 0, 0, 0, 0, 0, 0)).2.1.toNat 0)) then (bif zB s6 s0.length then (bif zL (r0.length + 1) 56 then (let y0:List zC:=(r0++[(s0.getD s6.toNat (0,0,0,0,0,0,0))])
             rec s0 s1 (zA (s6+1)) y0)
            else none)
           else none)
          else rec s0 s1 (zA (s6+1)) r0)
         else none)
        else none)
       else rec s0 s1 (zA (s6+1)) r0)
      else none)
     else rec s0 s1 (zA (s6+1)) r0)
    else none)
   else none)
  else none)
 else some r0
def Hb (k:Nat):Nat→qXv
 |0,_,_,_,_=>none
 |n+1,s0,s1,s6,r0=>Hc k (Hb k n) s0 s1 s6 r0
def Ha (k:Nat)(a0:List zC)(a1:AC):Option (List zC):=
 (Hb k k a0 a1 0 []).bind fun z=>
 some z
abbrev qSp:Type:=(List zJ)×EQ×AC×EQ×(List zC)×AC
abbrev qX4:Type:=Int→List zJ→EQ→AC→EQ→List zC→AC→Option qSp
def Hd (k:Nat)(rec:qX4)(aw:Int)(af:List zJ)(ai:EQ)(aj:AC)(ah:EQ)(r1:List zC)(r2:AC):Option qSp:=
 bif decide (aw < (af.length : Int)) then ((uE k r1 aw).bind fun x1=>
  bif zL (r2.length+1) 8 then(rec (zA (aw+1)) af ai aj ah r1 (r2++[(x1.length:Int)]))
  else none)
 else some (af,ai,aj,ah,r1,r2)
def Ce (k:Nat):Nat→qX4
 |0,_,_,_,_,_,_,_=>none
 |n+1,aw,af,ai,aj,ah,r1,r2=>Hd k (Ce k n) aw af ai aj ah r1 r2
abbrev qVq:Type:=Int×(List zJ)×EQ×AC×EQ×(List zC)×AC
abbrev qM1:Type:=Int→Int→List zJ→EQ→AC→EQ→List zC→AC→AC→Option qVq
def Hf (k:Nat)(rec:qM1)(aQ bB:Int)(af:List zJ)(ai:EQ)(aj:AC)(ah:EQ)(r1:List zC)(r2 r3:AC):Option qVq:=
 bif decide (bB < (r3.length : Int)) then (bif zB bB r3.length then (bif zB (r3.getD bB.toNat 0) r2.length then (bif zB (r3.getD bB.toNat 0) r2.length then (let y0:AC:=(r2.set (r3.getD bB.toNat 0).toNat (zA ((r2.getD (r3.getD bB.toNat 0).toNat 0)-1)))
     rec aQ (zA (bB+1)) af ai aj ah r1 y0 r3)
    else none)
   else none)
  else none)
 else some (aQ,af,ai,aj,ah,r1,r2)
def He (k:Nat):Nat→qM1
 |0,_,_,_,_,_,_,_,_,_=>none
 |n+1,aQ,bB,af,ai,aj,ah,r1,r2,r3=>Hf k (He k n) aQ bB af ai aj ah r1 r2 r3
abbrev qOx:Type:=Int→List zJ→EQ→AC→EQ→List zC→AC→Option (Int×AC)
def Hg (k:Nat)(rec:qOx)(aQ:Int)(af:List zJ)(ai:EQ)(aj:AC)(ah:EQ)(r1:List zC)(r2:AC):Option (Int×AC):=
 (Ha k r1 r2).bind fun x2=>
 (uB k af ai aj ah x2).bind fun x3=>
 bif decide ((x3.length:Int)=0) then some (aQ,r2)
 else(He k k aQ 0 af ai aj ah r1 r2 x3).bind fun z1=>
 rec (zA (z1.1+1)) z1.2.1 z1.2.2.1 z1.2.2.2.1 z1.2.2.2.2.1 z1.2.2.2.2.2.1 z1.2.2.2.2.2.2
def LI (k:Nat):Nat→qOx
 |0,_,_,_,_,_,_,_=>none
 |n+1,aQ,af,ai,aj,ah,r1,r2=>Hg k (LI k n) aQ af ai aj ah r1 r2
def QD (k:Nat)(au:List zJ)(az:EQ)(ay:AC)(ax:EQ)(a1:List zC)(a2:Int):Option (AC×Int):=
 (Fz k a1 a2).bind fun x0=>
 (Ce k k 0 au az ay ax x0 []).bind fun z=>
 (LI k k 1 z.1 z.2.1 z.2.2.1 z.2.2.2.1 z.2.2.2.2.1 z.2.2.2.2.2).bind fun z2=>
 some (z2.2,z2.1)
abbrev qNz:Type:=(List zC)×(List zC)×(List zJ)×EQ×AC×EQ
abbrev qX8:Type:=List zC→Int→List zC→List zJ→EQ→AC→EQ→Option qNz
def Hh (k:Nat)(rec:qX8)(s1:List zC)(bG:Int)(r1:List zC)(aZ:List zJ)(bX:EQ)(bY:AC)(cU:EQ):Option qNz:=
 bif decide (bG < (r1.length : Int)) then (bif zB bG r1.length then ((oC k s1 (r1.getD bG.toNat (0,0,0,0,0,0,0)).1).bind fun x4=>
   rec x4.1 (zA (bG+1)) r1 aZ bX bY cU)
  else none)
 else some (s1,r1,aZ,bX,bY,cU)
def Cf (k:Nat):Nat→qX8
 |0,_,_,_,_,_,_,_=>none
 |n+1,s1,bG,r1,aZ,bX,bY,cU=>Hh k (Cf k n) s1 bG r1 aZ bX bY cU
def LJ (k:Nat)(au:List zJ)(az:EQ)(ay:AC)(ax:EQ)(a1:List zC)(a2:Int):Option tq:=
 (QD k au az ay ax a1 a2).bind fun x0=>
 (Fz k a1 a2).bind fun x1=>
 (Ha k x1 x0.1).bind fun x2=>
 (Bz k au az ay ax x2).bind fun x3=>
 bif !(decide (x3.2.2.2.2=0)) then some (au,az,ay,ax,a1,[])
 else(Cf k k a1 0 x2 x3.1 x3.2.1 x3.2.2.1 x3.2.2.2.1).bind fun z=>
 some (B8 z (z.1,z.2.1))
def QE (k:Nat)(au:List zJ)(az:EQ)(ay:AC)(ax:EQ)(a1:List zC)(a2:Int)(a3:Bool):Option tq:=
 (LL k au az ay ax a1 a2).bind fun x0=>
 bif !a3 then some (x0.1,x0.2.1,x0.2.2.1,x0.2.2.2.1,x0.2.2.2.2.1,x0.2.2.2.2.2)
 else(LJ k x0.1 x0.2.1 x0.2.2.1 x0.2.2.2.1 x0.2.2.2.2.1 a2).bind fun x1=>
 bif decide ((x1.2.2.2.2.2.length:Int)=0) then some (x0.1,x0.2.1,x0.2.2.1,x0.2.2.2.1,x0.2.2.2.2.1,x0.2.2.2.2.2)
 else(LL k x1.1 x1.2.1 x1.2.2.1 x1.2.2.2.1 x1.2.2.2.2.1 a2).bind fun x2=>
 bif zL (x0.2.2.2.2.2.length + x1.2.2.2.2.2.length) 56 then (bif zL ((x0.2.2.2.2.2 ++ x1.2.2.2.2.2).length + x2.2.2.2.2.2.length) 56 then (let y0:List zC:=((x0.2.2.2.2.2++x1.2.2.2.2.2)++x2.2.2.2.2.2)
   some (pL x2 y0))
  else none)
 else none
abbrev qW5:Type:=List zC→Int→List qE→Option qLt
def Gt (k:Nat)(rec:qW5)(s0:List zC)(s4:Int)(r0:List qE):Option qLt:=
 bif decide (s4 < (s0.length : Int)) then (bif zB s4 s0.length then ((fQ k 18 [(s0.getD s4.toNat (0,0,0,0,0,0,0)).1,(s0.getD s4.toNat (0,0,0,0,0,0,0)).2.1,(s0.getD s4.toNat (0,0,0,0,0,0,0)).2.2.1,(s0.getD s4.toNat (0,0,0,0,0,0,0)).2.2.2.1]).bind fun x0=>
   bif zL (r0.length + 2) 64 then (let y0:List qE:=(r0++[((s0.getD s4.toNat (0,0,0,0,0,0,0)).2.1,x0),((s0.getD s4.toNat (0,0,0,0,0,0,0)).2.2.1,x0)])
    rec s0 (zA (s4+1)) y0)
   else none)
  else none)
 else some r0
def K9 (k:Nat):Nat→qW5
 |0,_,_,_=>none
 |n+1,s0,s4,r0=>Gt k (K9 k n) s0 s4 r0
def P2 (k:Nat)(a0:List zC):Option (List qE):=
 (K9 k k a0 0 []).bind fun z=>
 some z
def oD (k:Nat)(mG:Int)(rz:List zJ)(rA:EQ)(rC:AC)(rD:EQ)(rE:AC)(rF:EQ)(mH:List zC)(rG:AC)(rH:Int)(rI a1:Bool):Option Su:=
 (QE k rz rA rC rD mH mG a1).bind fun x0=>
 (P2 k x0.2.2.2.2.2).bind fun x1=>
 some (mG,(wA x0 (rE,rF,x0.2.2.2.2.1,rG,rH,rI,x1)))
abbrev qKh:Type:=yI×yK×(List qE)
abbrev qRq:Type:=List zC→Int→yI→yK→List qE→Option qKh
def Hj (k:Nat)(rec:qRq)(s7:List zC)(s8:Int)(b0:yI)(b1:yK)(r2:List qE):Option qKh:=
 bif decide (s8 < (s7.length : Int)) then (bif zB s8 s7.length then (bif zB s8 s7.length then ((fQ k 22 [(s7.getD s8.toNat (0,0,0,0,0,0,0)).1]).bind fun x1=>
    bif zL (r2.length + 1) 64 then (let y0:List qE:=(r2++[((s7.getD s8.toNat (0,0,0,0,0,0,0)).2.1,x1)])
     rec s7 (zA (s8+1)) b0 b1 y0)
    else none)
   else none)
  else none)
 else some (b0,b1,r2)
def yf (k:Nat):Nat→qRq:=yD (fun _ _ _ _ _=>none) (Hj k)
abbrev qUq:Type:=Int→yI→yK→List qE→Option qKh
def Hk (k:Nat)(rec:qUq)(s9:Int)(b0:yI)(b1:yK)(r2:List qE):Option qKh:=
 bif decide (s9 < (b0.2.1.length : Int)) then (bif zB s9 b0.2.1.length then ((fQ k 23 [(b0.2.1.getD s9.toNat (0,0,0)).1]).bind fun x2=>
   bif zL (r2.length+1) 64 then(rec (zA (s9+1)) b0 b1 (r2++[(s9,x2)]))
   else none)
  else none)
 else some (b0,b1,r2)
def yg (k:Nat):Nat→qUq:=yD (fun _ _ _ _=>none) (Hk k)
abbrev qQ7:Type:=vD×yI×yK×(List qE)
abbrev qTh:Type:=List zC→Int→vD→yI→yK→List qE→Option qQ7
def Hl (k:Nat)(rec:qTh)(s7:List zC)(aw:Int)(b0:vD)(b1:yI)(b2:yK)(r3:List qE):Option qQ7:=
 bif decide (aw < (s7.length : Int)) then (bif zB aw s7.length then ((Zd k (s7.getD aw.toNat (0,0,0,0,0,0,0)).1 (s7.getD aw.toNat (0,0,0,0,0,0,0)).2.1 (s7.getD aw.toNat (0,0,0,0,0,0,0)).2.2.1 (s7.getD aw.toNat (0,0,0,0,0,0,0)).2.2.2.1 (s7.getD aw.toNat (0,0,0,0,0,0,0)).2.2.2.2.1 (s7.getD aw.toNat (0,0,0,0,0,0,0)).2.2.2.2.2.1 (s7.getD aw.toNat (0,0,0,0,0,0,0)).2.2.2.2.2.2 b1.1).bind fun x3=>
   bif x3 then (bif zB aw s7.length then (bif zB aw s7.length then ((fQ k 21 [(s7.getD aw.toNat (0,0,0,0,0,0,0)).1]).bind fun x4=>
      bif zL (r3.length + 1) 64 then (let y1:List qE:=(r3++[((s7.getD aw.toNat (0,0,0,0,0,0,0)).2.1,x4)])
       bif zB aw s7.length then ((oC k b1.2.2.2.2.2.2.2.1 (s7.getD aw.toNat (0,0,0,0,0,0,0)).1).bind fun x5=>
        rec s7 (zA (aw+1)) b0 (ki b1 (x5.1,b1.2.2.2.2.2.2.2.2)) b2 y1)
       else none)
      else none)
     else none)
    else none)
   else rec s7 (zA (aw+1)) b0 b1 b2 r3)
  else none)
 else some (b0,b1,b2,r3)
def vd (k:Nat):Nat→qTh:=yD (fun _ _ _ _ _ _=>none) (Hl k)
def Hm (k:Nat)(a0:vD)(a1:yI):Option (yI×(List qE)):=
 bif a1.2.2.2.2.2.2.2.2.2.2 then some (a1,[])
 else(QG k a0 (zA (a1.1+1))).bind fun x0=>
 bif x0 then ((yf k k a1.2.2.2.2.2.2.2.1 0 ((zA (a1.1+1)),a1.2) (0,0,false) []).bind fun z=>
  (yg k k 0 z.1 z.2.1 z.2.2).bind fun z1=>
  some ((ki z1.1 ([],z1.1.2.2.2.2.2.2.2.2.1,z1.1.2.2.2.2.2.2.2.2.2.1,true)),z1.2.2))
 else(vd k k a1.2.2.2.2.2.2.2.1 0 a0 ((zA (a1.1+1)),a1.2) (0,0,false) []).bind fun z2=>
 (LM k z2.1 z2.2.1.1).bind fun x6=>
 (oD k z2.2.1.1 z2.2.1.2.1 z2.2.1.2.2.1 z2.2.1.2.2.2.1 z2.2.1.2.2.2.2.1 z2.2.1.2.2.2.2.2.1 z2.2.1.2.2.2.2.2.2.1 z2.2.1.2.2.2.2.2.2.2.1 z2.2.1.2.2.2.2.2.2.2.2.1 z2.2.1.2.2.2.2.2.2.2.2.2.1 z2.2.1.2.2.2.2.2.2.2.2.2.2 x6).bind fun x7=>
 bif zL (z2.2.2.2.length + x7.2.2.2.2.2.2.2.2.2.2.2.length) 64 then (let y2:List qE:=(z2.2.2.2++x7.2.2.2.2.2.2.2.2.2.2.2)
  some ((qQ x7),y2))
 else none
def uX (k:Nat)(a0:vn)(a1:Int):Option Int:=
 bif decide (a1<0) then some (-1)
 else bif decide (a1≥a0.1) then some (-1)
 else some a1
def G1 (k:Nat)(a0:vD)(a1 a2:Int):Option Int:=
 bif decide (a1≥a0.2.2.2.1) then some 7
 else bif decide (a2 = 3) then (bif decide (a1≥a0.2.2.1) then some 7
  else some 0)
 else some 0
def Ca (k:Nat)(a0:vD)(a1:Int)(a2:zC):Option Int:=
 bif decide (a2.1<1) then some 1
 else bif decide (a2.2.1<0) then some 1
 else bif decide (a2.2.1≥a0.1) then some 1
 else bif decide (a2.2.2.1<0) then some 1
 else bif decide (a2.2.2.1≥a0.1) then some 1
 else bif decide (a2.2.1=a2.2.2.1) then some 1
 else bif decide (a2.2.2.2.1<1) then some 1
 else bif decide (a2.2.2.2.1>1099511627776) then some 1
 else bif decide (a2.2.2.2.2.1<1) then some 1
 else bif decide (a2.2.2.2.2.1>3) then some 1
 else bif decide (a2.2.2.2.2.2.1<0) then some 1
 else bif decide (a2.2.2.2.2.2.1>a2.2.2.2.2.2.2) then some 1
 else bif decide (a2.2.2.2.2.2.2<a1) then some 1
 else bif decide (a2.2.2.2.2.2.2>1048576) then some 1
 else(G1 k a0 a1 a2.2.2.2.2.1).bind fun x0=>
 some x0
def GR (k:Nat)(rec:qWq)(s0:AC)(s1 s5:Int):Option (Unit⊕Bool):=
 bif decide (s5 < (s0.length : Int)) then (bif zB s5 s0.length then (bif decide ((s0.getD s5.toNat 0)=s1) then some (.inr true)
   else rec s0 s1 (zA (s5+1)))
  else none)
 else some (.inl ())
def GQ (k:Nat):Nat→qWq:=yD (fun _ _ _=>none) (GR k)
def Qp (k:Nat)(a0:AC)(a1:Int):Option Bool:=
 (GQ k k a0 a1 0).bind fun z=>
 match z with
 |.inl z1=>some false
 |.inr z2=>some z2
abbrev qMv:Type:=AC→Int→Int→Option (AC×Int×Int)
def GS (k:Nat)(rec:qMv)(s0:AC)(s1 s6:Int):Option (AC×Int×Int):=
 bif decide (s6 < (s0.length : Int)) then (bif zB s6 s0.length then (bif decide ((s0.getD s6.toNat 0)<s1) then(rec s0 s1 (zA (s6+1)))
   else some (s0,s1,s6))
  else none)
 else some (s0,s1,s6)
def Lu (k:Nat):Nat→qMv:=yD (fun _ _ _=>none) (GS k)
def B5 (k:Nat)(a0:AC)(a1:Int):Option (AC×Int):=
 (Qp k a0 a1).bind fun x0=>
 bif x0 then some (a0,6)
 else bif decide ((a0.length:Int)≥200) then some (a0,3)
 else(Lu k k a0 a1 0).bind fun z=>
 bif (decide (0 ≤ z.2.2)) && (decide (z.2.2 ≤ (z.1.length : Int))) then (bif zL (0 + (List.take z.2.2.toNat z.1).length) 8 then (bif zL ((List.take z.2.2.toNat z.1).length + 1) 8 then (bif (decide (0 ≤ z.2.2)) && (decide (z.2.2 ≤ (z.1.length : Int))) then (bif zL (((List.take z.2.2.toNat z.1) ++ [z.2.1]).length + (List.drop z.2.2.toNat z.1).length) 8 then (let y0:AC:=(((List.take z.2.2.toNat z.1)++[z.2.1])++(List.drop z.2.2.toNat z.1))
      some (y0,0))
     else none)
    else none)
   else none)
  else none)
 else none
def Lm (k:Nat)(cf bg bD ct bQ cc bT ie cw dv eI dw je jg:Int):Option Bool:=
 bif decide (bg<cw) then some true
 else bif decide (bg=cw) then some (decide (bQ≤dw))
 else some false
abbrev qNf:Type:=List zC→Int→Int→Int→Int→Int→Int→Int→Int→Option Int
def GO (k:Nat)(rec:qNf)(s0:List zC)(s5 af ai aj ah aX bp bq:Int):Option Int:=
 bif decide (s5 < (s0.length : Int)) then (bif zB s5 s0.length then ((Lm k (s0.getD s5.toNat (0,0,0,0,0,0,0)).1 (s0.getD s5.toNat (0,0,0,0,0,0,0)).2.1 (s0.getD s5.toNat (0,0,0,0,0,0,0)).2.2.1 (s0.getD s5.toNat (0,0,0,0,0,0,0)).2.2.2.1 (s0.getD s5.toNat (0,0,0,0,0,0,0)).2.2.2.2.1 (s0.getD s5.toNat (0,0,0,0,0,0,0)).2.2.2.2.2.1 (s0.getD s5.toNat (0,0,0,0,0,0,0)).2.2.2.2.2.2 af ai aj ah aX bp bq).bind fun x0=>
   bif x0 then(rec s0 (zA (s5+1)) af ai aj ah aX bp bq)
   else some s5)
  else none)
 else some s5
def GN (k:Nat):Nat→qNf
 |0,_,_,_,_,_,_,_,_,_=>none
 |n+1,s0,s5,af,ai,aj,ah,aX,bp,bq=>GO k (GN k n) s0 s5 af ai aj ah aX bp bq
def GM (k:Nat)(a0:List zC)(ie cw dv eI dw je jg:Int):Option Int:=
 (GN k k a0 0 ie cw dv eI dw je jg).bind fun z=>
 some z
def B3 (k:Nat)(a0:List zC)(a1 adu adv adw adx ady adz adA:Int):Option (List zC):=
 bif (decide (0 ≤ a1)) && (decide (a1 ≤ (a0.length : Int))) then (bif zL (0 + (List.take a1.toNat a0).length) 56 then (bif zL ((List.take a1.toNat a0).length + 1) 56 then (let y0:List zC:=((List.take a1.toNat a0)++[(adu,adv,adw,adx,ady,adz,adA)])
    bif (decide (0 ≤ a1)) && (decide (a1 ≤ (a0.length : Int))) then (bif zL (y0.length+(List.drop a1.toNat a0).length) 56 then some (y0++(List.drop a1.toNat a0))
     else none)
    else none)
   else none)
  else none)
 else none
def B4 (k:Nat)(a0:List zC)(ie cw dv eI dw je jg:Int):Option ((List zC)×Int):=
 (nq k a0 ie).bind fun x0=>
 bif decide (x0≥0) then some (a0,6)
 else bif decide ((a0.length:Int)≥40) then some (a0,3)
 else(GM k a0 ie cw dv eI dw je jg).bind fun x1=>
 (B3 k a0 x1 ie cw dv eI dw je jg).bind fun x2=>
 some (x2,0)
def Qv (k:Nat)(a0:rJ)(a1:MW):Option (Int×vn):=
 (uX k (yE a0 ([],a0.2.2.2.2.2.2.2.2.2.2.2.2.2.2.2.2.2)) a1.2.1).bind fun x0=>
 bif decide (a1.2.2.2.1 ≥ 1) then (bif decide (a1.2.2.2.1 ≤ 3) then ((Ca k (yR a0) a0.2.2.2.2.2.1 (a1.1,a0.2.2.2.2.2.2.2.2.2.2.2.2.2.2.2.2.1,x0,a1.2.2)).bind fun x1=>
   bif !(decide (x1=0)) then some (x1,(yE a0 ([],a0.2.2.2.2.2.2.2.2.2.2.2.2.2.2.2.2.2)))
   else(B5 k a0.2.2.2.2.2.2.2.2.2.2.2.2.2.1 a1.1).bind fun x2=>
   bif !(decide (x2.2=0)) then some (x2.2,(yE a0 ([],a0.2.2.2.2.2.2.2.2.2.2.2.2.2.2.2.2.2)))
   else(B4 k a0.2.2.2.2.2.2.2.2.2.2.2.2.1 a1.1 a0.2.2.2.2.2.2.2.2.2.2.2.2.2.2.2.2.1 x0 a1.2.2.1 a1.2.2.2.1 a1.2.2.2.2.1 a1.2.2.2.2.2).bind fun x3=>
   bif !(decide (x3.2=0)) then some (x3.2,(yE a0 ([],a0.2.2.2.2.2.2.2.2.2.2.2.2.2.2.2.2.2)))
   else some (0,(kp a0 (x3.1,x2.1,a0.2.2.2.2.2.2.2.2.2.2.2.2.2.2.1,a0.2.2.2.2.2.2.2.2.2.2.2.2.2.2.2.1,a0.2.2.2.2.2.2.2.2.2.2.2.2.2.2.2.2.1,[],a1.1))))
  else(Ca k (yR a0) a0.2.2.2.2.2.1 (a1.1,a0.2.2.2.2.2.2.2.2.2.2.2.2.2.2.2.2.1,x0,a1.2.2.1,0,a1.2.2.2.2)).bind fun x4=>
  bif !(decide (x4=0)) then some (x4,(yE a0 ([],a0.2.2.2.2.2.2.2.2.2.2.2.2.2.2.2.2.2)))
  else(B5 k a0.2.2.2.2.2.2.2.2.2.2.2.2.2.1 a1.1).bind fun x5=>
  bif !(decide (x5.2=0)) then some (x5.2,(yE a0 ([],a0.2.2.2.2.2.2.2.2.2.2.2.2.2.2.2.2.2)))
  else(B4 k a0.2.2.2.2.2.2.2.2.2.2.2.2.1 a1.1 a0.2.2.2.2.2.2.2.2.2.2.2.2.2.2.2.2.1 x0 a1.2.2.1 0 a1.2.2.2.2.1 a1.2.2.2.2.2).bind fun x6=>
  bif !(decide (x6.2=0)) then some (x6.2,(yE a0 ([],a0.2.2.2.2.2.2.2.2.2.2.2.2.2.2.2.2.2)))
  else some (0,(kp a0 (x6.1,x5.1,a0.2.2.2.2.2.2.2.2.2.2.2.2.2.2.1,a0.2.2.2.2.2.2.2.2.2.2.2.2.2.2.2.1,a0.2.2.2.2.2.2.2.2.2.2.2.2.2.2.2.2.1,[],a1.1))))
 else(Ca k (yR a0) a0.2.2.2.2.2.1 (a1.1,a0.2.2.2.2.2.2.2.2.2.2.2.2.2.2.2.2.1,x0,a1.2.2.1,0,a1.2.2.2.2)).bind fun x7=>
 bif !(decide (x7=0)) then some (x7,(yE a0 ([],a0.2.2.2.2.2.2.2.2.2.2.2.2.2.2.2.2.2)))
 else(B5 k a0.2.2.2.2.2.2.2.2.2.2.2.2.2.1 a1.1).bind fun x8=>
 bif !(decide (x8.2=0)) then some (x8.2,(yE a0 ([],a0.2.2.2.2.2.2.2.2.2.2.2.2.2.2.2.2.2)))
 else(B4 k a0.2.2.2.2.2.2.2.2.2.2.2.2.1 a1.1 a0.2.2.2.2.2.2.2.2.2.2.2.2.2.2.2.2.1 x0 a1.2.2.1 0 a1.2.2.2.2.1 a1.2.2.2.2.2).bind fun x9=>
 bif !(decide (x9.2=0)) then some (x9.2,(yE a0 ([],a0.2.2.2.2.2.2.2.2.2.2.2.2.2.2.2.2.2)))
 else some (0,(kp a0 (x9.1,x8.1,a0.2.2.2.2.2.2.2.2.2.2.2.2.2.2.1,a0.2.2.2.2.2.2.2.2.2.2.2.2.2.2.2.1,a0.2.2.2.2.2.2.2.2.2.2.2.2.2.2.2.2.1,[],a1.1)))
def yEl (k:Nat)(a0:vn)(a1:Int):Option (zC×Bool):=
 (nq k a0.2.2.2.2.2.2.2.2.2.2.2.2.1 a1).bind fun x0=>
 bif decide (x0<0) then some ((0,0,0,0,0,0,0),false)
 else bif zB x0 a0.2.2.2.2.2.2.2.2.2.2.2.2.1.length then (bif !(decide ((a0.2.2.2.2.2.2.2.2.2.2.2.2.1.getD x0.toNat (0,0,0,0,0,0,0)).2.1=a0.2.2.2.2.2.2.2.2.2.2.2.2.2.2.2.2.1)) then some ((0,0,0,0,0,0,0),false)
  else bif zB x0 a0.2.2.2.2.2.2.2.2.2.2.2.2.1.length then some ((a0.2.2.2.2.2.2.2.2.2.2.2.2.1.getD x0.toNat (0,0,0,0,0,0,0)),true)
  else none)
 else none
def GP (k:Nat)(rec:qQb)(s6:List zC)(s9:Int)(b0:zC):Option qY4:=
 bif decide (s9 < (s6.length : Int)) then (bif zB s9 s6.length then ((Lm k b0.1 b0.2.1 b0.2.2.1 b0.2.2.2.1 b0.2.2.2.2.1 b0.2.2.2.2.2.1 b0.2.2.2.2.2.2 (s6.getD s9.toNat (0,0,0,0,0,0,0)).1 (s6.getD s9.toNat (0,0,0,0,0,0,0)).2.1 (s6.getD s9.toNat (0,0,0,0,0,0,0)).2.2.1 (s6.getD s9.toNat (0,0,0,0,0,0,0)).2.2.2.1 (s6.getD s9.toNat (0,0,0,0,0,0,0)).2.2.2.2.1 (s6.getD s9.toNat (0,0,0,0,0,0,0)).2.2.2.2.2.1 (s6.getD s9.toNat (0,0,0,0,0,0,0)).2.2.2.2.2.2).bind fun x1=>
   bif !x1 then(rec s6 (zA (s9+1)) b0)
   else some (s6,s9,b0))
  else none)
 else some (s6,s9,b0)
def Lt (k:Nat):Nat→qQb:=yD (fun _ _ _=>none) (GP k)
def Ls (k:Nat)(a0:List zC)(a1:Int):Option ((List zC)×Int):=
 (oC k a0 a1).bind fun x0=>
 bif !(decide (x0.2.2.2.2.2.2.2.2=0)) then some (a0,x0.2.2.2.2.2.2.2.2)
 else(Lt k k x0.1 0 (Rr x0)).bind fun z=>
 (B3 k z.1 z.2.1 z.2.2.1 z.2.2.2.1 z.2.2.2.2.1 z.2.2.2.2.2.1 z.2.2.2.2.2.2.1 z.2.2.2.2.2.2.2.1 z.2.2.2.2.2.2.2.2).bind fun x2=>
 some (x2,0)
def Lr (k:Nat)(a0:List zC)(a1:Int):Option ((List zC)×Int):=
 (oC k a0 a1).bind fun x0=>
 bif !(decide (x0.2.2.2.2.2.2.2.2=0)) then some (a0,x0.2.2.2.2.2.2.2.2)
 else(GM k x0.1 x0.2.1 x0.2.2.1 x0.2.2.2.1 x0.2.2.2.2.1 x0.2.2.2.2.2.1 x0.2.2.2.2.2.2.1 x0.2.2.2.2.2.2.2.1).bind fun x1=>
 (B3 k x0.1 x1 x0.2.1 x0.2.2.1 x0.2.2.2.1 x0.2.2.2.2.1 x0.2.2.2.2.2.1 x0.2.2.2.2.2.2.1 x0.2.2.2.2.2.2.2.1).bind fun x2=>
 some (x2,0)
def Lq (k:Nat)(a0:List zC)(a1 a2:Int):Option ((List zC)×Int):=
 (oC k a0 a1).bind fun x0=>
 bif !(decide (x0.2.2.2.2.2.2.2.2=0)) then some (a0,x0.2.2.2.2.2.2.2.2)
 else(GM k x0.1 x0.2.1 x0.2.2.1 x0.2.2.2.1 x0.2.2.2.2.1 a2 x0.2.2.2.2.2.2.1 x0.2.2.2.2.2.2.2.1).bind fun x1=>
 (B3 k x0.1 x1 x0.2.1 x0.2.2.1 x0.2.2.2.1 x0.2.2.2.2.1 a2 x0.2.2.2.2.2.2.1 x0.2.2.2.2.2.2.2.1).bind fun x2=>
 some (x2,0)
def Cc (k:Nat)(a0:rJ)(a1:Int)(a2:MW):Option (Int×vn):=
 (yEl k (yE a0 ([],a0.2.2.2.2.2.2.2.2.2.2.2.2.2.2.2.2.2)) a2.1).bind fun x0=>
 bif !x0.2 then some (4,(yE a0 ([],a0.2.2.2.2.2.2.2.2.2.2.2.2.2.2.2.2.2)))
 else bif decide (a1 = 2) then ((oC k a0.2.2.2.2.2.2.2.2.2.2.2.2.1 a2.1).bind fun x1=>
  (fQ k 20 [a2.1]).bind fun x2=>
  some (0,(kp a0 (x1.1,(Sv a0 ([(a0.2.2.2.2.2.2.2.2.2.2.2.2.2.2.2.2.1,x2)],a0.2.2.2.2.2.2.2.2.2.2.2.2.2.2.2.2.2))))))
 else bif decide (a1 = 3) then (bif decide (a2.2.1 = 0) then ((Ls k a0.2.2.2.2.2.2.2.2.2.2.2.2.1 a2.1).bind fun x3=>
   some (0,(kp a0 (x3.1,(Sv a0 ([],a0.2.2.2.2.2.2.2.2.2.2.2.2.2.2.2.2.2))))))
  else bif decide (a2.2.1 = 1) then ((Lr k a0.2.2.2.2.2.2.2.2.2.2.2.2.1 a2.1).bind fun x4=>
   some (0,(kp a0 (x4.1,(Sv a0 ([],a0.2.2.2.2.2.2.2.2.2.2.2.2.2.2.2.2.2))))))
  else some (1,(yE a0 ([],a0.2.2.2.2.2.2.2.2.2.2.2.2.2.2.2.2.2))))
 else bif decide (a2.2.1<1) then some (1,(yE a0 ([],a0.2.2.2.2.2.2.2.2.2.2.2.2.2.2.2.2.2)))
 else bif decide (a2.2.1>3) then some (1,(yE a0 ([],a0.2.2.2.2.2.2.2.2.2.2.2.2.2.2.2.2.2)))
 else(G1 k (yR a0) a0.2.2.2.2.2.1 a2.2.1).bind fun x5=>
 bif !(decide (x5=0)) then some (x5,(yE a0 ([],a0.2.2.2.2.2.2.2.2.2.2.2.2.2.2.2.2.2)))
 else(Lq k a0.2.2.2.2.2.2.2.2.2.2.2.2.1 a2.1 a2.2.1).bind fun x6=>
 some (0,(kp a0 (x6.1,(Sv a0 ([],a0.2.2.2.2.2.2.2.2.2.2.2.2.2.2.2.2.2)))))
def Cd (k:Nat)(a0:rJ)(a1:Int)(a2:MW):Option (Int×vn):=
 (pt k a0.2.2.2.2.2.2.1 a0.2.2.2.2.2.2.2.1 a0.2.2.2.2.2.2.2.2.1 a0.2.2.2.2.2.2.2.2.2.1).bind fun x0=>
 bif decide (a1 = 5) then ((uX k (yE a0 ([],a0.2.2.2.2.2.2.2.2.2.2.2.2.2.2.2.2.2)) a2.1).bind fun x1=>
  bif decide (x1<0) then some (1,(yE a0 ([],a0.2.2.2.2.2.2.2.2.2.2.2.2.2.2.2.2.2)))
  else bif decide (x1=a0.2.2.2.2.2.2.2.2.2.2.2.2.2.2.2.2.1) then some (1,(yE a0 ([],a0.2.2.2.2.2.2.2.2.2.2.2.2.2.2.2.2.2)))
  else bif decide (a2.2.1<(-1)) then some (1,(yE a0 ([],a0.2.2.2.2.2.2.2.2.2.2.2.2.2.2.2.2.2)))
  else bif decide (a2.2.1>1152921504606846976) then some (1,(yE a0 ([],a0.2.2.2.2.2.2.2.2.2.2.2.2.2.2.2.2.2)))
  else bif zB a0.2.2.2.2.2.2.2.2.2.2.2.2.2.2.2.2.1 x0.2.1.length then (bif zB x1 (x0.2.1.getD a0.2.2.2.2.2.2.2.2.2.2.2.2.2.2.2.2.1.toNat []).length then (let y0:EQ:=(x0.2.1.set a0.2.2.2.2.2.2.2.2.2.2.2.2.2.2.2.2.1.toNat ((x0.2.1.getD a0.2.2.2.2.2.2.2.2.2.2.2.2.2.2.2.2.1.toNat []).set x1.toNat a2.2.1))
    some (0,(jK a0 (x0.1,y0,x0.2.2.1,x0.2.2.2,(qUh a0 ([],a0.2.2.2.2.2.2.2.2.2.2.2.2.2.2.2.2.2))))))
   else none)
  else none)
 else bif decide (a1 = 6) then (bif decide (a2.1<(-1)) then some (1,(yE a0 ([],a0.2.2.2.2.2.2.2.2.2.2.2.2.2.2.2.2.2)))
  else bif decide (a2.1>1152921504606846976) then some (1,(yE a0 ([],a0.2.2.2.2.2.2.2.2.2.2.2.2.2.2.2.2.2)))
  else bif zB a0.2.2.2.2.2.2.2.2.2.2.2.2.2.2.2.2.1 x0.2.2.1.length then (let y1:AC:=(x0.2.2.1.set a0.2.2.2.2.2.2.2.2.2.2.2.2.2.2.2.2.1.toNat a2.1)
   some (0,(jK a0 (x0.1,x0.2.1,y1,x0.2.2.2,(qUh a0 ([],a0.2.2.2.2.2.2.2.2.2.2.2.2.2.2.2.2.2))))))
  else none)
 else bif decide (a2.1<0) then some (1,(yE a0 ([],a0.2.2.2.2.2.2.2.2.2.2.2.2.2.2.2.2.2)))
 else bif decide (a2.1>1152921504606846976) then some (1,(yE a0 ([],a0.2.2.2.2.2.2.2.2.2.2.2.2.2.2.2.2.2)))
 else bif zB a0.2.2.2.2.2.2.2.2.2.2.2.2.2.2.2.2.1 x0.1.length then (let y2:List zJ:=(x0.1.set a0.2.2.2.2.2.2.2.2.2.2.2.2.2.2.2.2.1.toNat ((x0.1.getD a0.2.2.2.2.2.2.2.2.2.2.2.2.2.2.2.2.1.toNat (0,0,0)).1,(x0.1.getD a0.2.2.2.2.2.2.2.2.2.2.2.2.2.2.2.2.1.toNat (0,0,0)).2.1,a2.1))
  some (0,(jK a0 (y2,x0.2.1,x0.2.2.1,x0.2.2.2,(qUh a0 ([],a0.2.2.2.2.2.2.2.2.2.2.2.2.2.2.2.2.2))))))
 else none
def uY (k:Nat)(a0:AC)(a1 a2:Int):Option AC:=
 bif zL (0 + a0.length) 8 then (bif decide (a1 ≥ 0) then (bif decide (a1 < (a0.length : Int)) then (bif zB a1 a0.length then some (a0.set a1.toNat a2)
    else none)
   else some a0)
  else some a0)
 else none
def Qh (k:Nat)(a0:Int):Option AC:=
 some [(yN .i64 a0 65535),(yN .i64 (shr .i64 a0 16) 65535),(yN .i64 (shr .i64 a0 32) 65535),(yN .i64 (shr .i64 a0 48) 65535)]
def vDg (k:Nat)(rec:Int→AC→Option AC)(s3:Int)(r0:AC):Option AC:=
 bif decide ((zA (s3 + 1)) < (r0.length : Int)) then (bif zB (zA (s3 + 1)) r0.length then (bif zB s3 r0.length then (bif zB (zA (s3 + 1)) r0.length then (let y0:AC:=(r0.set (zA (s3+1)).toNat (zA ((r0.getD (zA (s3+1)).toNat 0)+(shr .i64 (r0.getD s3.toNat 0) 16))))
     bif zB s3 y0.length then (bif zB s3 y0.length then(rec (zA (s3+1)) (y0.set s3.toNat (yN .i64 (y0.getD s3.toNat 0) 65535)))
      else none)
     else none)
    else none)
   else none)
  else none)
 else some r0
def qM2 (k:Nat):Nat→Int→AC→Option AC:=yD (fun _ _=>none) (vDg k)
def GG (k:Nat)(a0:AC):Option AC:=
 (qM2 k k 0 a0).bind fun z=>
 some z
abbrev qQ0:Type:=Int×Int×AC×AC
abbrev qWv:Type:=Int→Int→Int→AC→AC→Option qQ0
def yMz (k:Nat)(rec:qWv)(s1 s7 s8:Int)(r0 r1:AC):Option qQ0:=
 bif decide (s8 < 4) then (bif !(decide ((IntKind.wrap .u64 ((zA (16 * s8)))) < 0)) then (bif zB (zA (s7 + s8)) r1.length then (bif zB s7 r0.length then (bif zB (zA (s7 + s8)) r1.length then (let y0:AC:=(r1.set (zA (s7+s8)).toNat (zA ((r1.getD (zA (s7+s8)).toNat 0)+(zA ((r0.getD s7.toNat 0)*(yN .i64 (shr .i64 s1 (IntKind.wrap .u64 ((zA (16*s8))))) 65535))))))
      rec s1 s7 (zA (s8+1)) r0 y0)
     else none)
    else none)
   else none)
  else none)
 else some (s1,s7,r0,r1)
def qW3 (k:Nat):Nat→qWv:=yD (fun _ _ _ _ _=>none) (yMz k)
abbrev qPy:Type:=Int→Int→AC→AC→Option AC
def yNp (k:Nat)(rec:qPy)(s1 s7:Int)(r0 r1:AC):Option AC:=
 bif decide (s7 < 4) then ((qW3 k k s1 s7 0 r0 r1).bind fun z=>
  rec z.1 (zA (z.2.1+1)) z.2.2.1 z.2.2.2)
 else some r1
def Qf (k:Nat):Nat→qPy:=yD (fun _ _ _ _=>none) (yNp k)
def Qg (k:Nat)(a0 a1:Int):Option AC:=
 (Qh k a0).bind fun x0=>
 (Qf k k a1 0 x0 [0,0,0,0,0,0,0,0,0]).bind fun z1=>
 (GG k z1).bind fun x1=>
 some x1
def yXn (k:Nat)(rec:Int→Int→AC→Option AC)(s1 s5:Int)(r0:AC):Option AC:=
 bif decide (s5 < (r0.length : Int)) then (bif zB s5 r0.length then (bif zB s5 r0.length then(rec s1 (zA (s5+1)) (r0.set s5.toNat (zA ((r0.getD s5.toNat 0)*s1))))
   else none)
  else none)
 else some r0
def Qd (k:Nat):Nat→Int→Int→AC→Option AC:=yD (fun _ _ _=>none) (yXn k)
def Qc (k:Nat)(a0:AC)(a1:Int):Option AC:=
 (Qd k k a1 0 a0).bind fun z=>
 (GG k z).bind fun x0=>
 some x0
def yX7 (k:Nat)(rec:qSk)(s1 s6 s7:Int)(r0:AC):Option AC:=
 bif decide (s7 ≥ 0) then (bif zB s7 r0.length then (bif !(decide (s1 = 0)) then (bif zB s7 r0.length then (let y0:AC:=(r0.set s7.toNat (zA (Int.tdiv (zA ((shl .i64 s6 16)+(r0.getD s7.toNat 0))) s1)))
     bif !(decide (s1=0)) then(rec s1 (Int.tmod (zA ((shl .i64 s6 16)+(r0.getD s7.toNat 0))) s1) (zA (s7-1)) y0)
     else none)
    else none)
   else none)
  else none)
 else some r0
def Lh (k:Nat):Nat→qSk:=yD (fun _ _ _ _=>none) (yX7 k)
abbrev yA5:Type:=Int→AC→Option (AC⊕fy)
def yZi (k:Nat)(rec:yA5)(s9:Int)(r0:AC):Option (AC⊕fy):=
 bif decide (s9 < (r0.length : Int)) then (bif zB s9 r0.length then (bif !(decide ((r0.getD s9.toNat 0)=0)) then some (.inr (0,false))
   else rec (zA (s9+1)) r0)
  else none)
 else some (.inl r0)
def GH (k:Nat):Nat→yA5:=yD (fun _ _=>none) (yZi k)
def Qe (k:Nat)(a0:AC)(a1:Int):Option fy:=
 (Lh k k a1 0 (zA ((a0.length:Int)-1)) a0).bind fun z=>
 (GH k k 4 z).bind fun z1=>
 match z1 with
 | .inl z2 => bif zB 3 z2.length then (bif decide ((z2.getD 3 0)≥32768) then some (0,false)
   else bif zB 3 z2.length then (bif zB 2 z2.length then (bif zB 1 z2.length then (bif zB 0 z2.length then some ((wM .i64 (wM .i64 (wM .i64 (shl .i64 (z2.getD 3 0) 48) (shl .i64 (z2.getD 2 0) 32)) (shl .i64 (z2.getD 1 0) 16)) (z2.getD 0 0)),true)
      else none)
     else none)
    else none)
   else none)
  else none
 |.inr z3=>some (z3.1,z3.2)
def Qn (k:Nat)(a0 a1 a2:Int):Option fy:=
 bif decide (a0<0) then some (0,false)
 else bif decide (a1<0) then some (0,false)
 else bif decide (a2<0) then some (0,false)
 else bif decide (a2>10000) then some (0,false)
 else(Qg k a0 a1).bind fun x0=>
 (Qc k x0 (zA (10000-a2))).bind fun x1=>
 (Qe k x1 10000).bind fun x2=>
 some (x2.1,x2.2)
def GJ (k:Nat)(a0 a1:Int):Option fy:=
 bif decide (a1 > 0) then (bif decide (a0>(zA (9223372036854775807-a1))) then some (0,false)
  else bif decide (a1 < 0) then (bif decide (a0<(zA ((-9223372036854775808)-a1))) then some (0,false)
   else some ((zA (a0+a1)),true))
  else some ((zA (a0+a1)),true))
 else bif decide (a1 < 0) then (bif decide (a0<(zA ((-9223372036854775808)-a1))) then some (0,false)
  else some ((zA (a0+a1)),true))
 else some ((zA (a0+a1)),true)
abbrev yAs:Type:=List wC→AC→AC→Int→Int→Option (Int⊕fy)
def GK (k:Nat)(rec:yAs)(s0:List wC)(s1 s2:AC)(s8 s9:Int):Option (Int⊕fy):=
 bif decide (s9 < (s0.length : Int)) then (bif zB s9 s1.length then (bif zB s9 s2.length then (bif zB s9 s0.length then ((Qn k (s1.getD s9.toNat 0) (s2.getD s9.toNat 0) (s0.getD s9.toNat (0,0)).2).bind fun x0=>
     (GJ k s8 x0.1).bind fun x1=>
     bif !x0.2 then some (.inr (0,false))
     else bif !x1.2 then some (.inr (0,false))
     else rec s0 s1 s2 x1.1 (zA (s9+1)))
    else none)
   else none)
  else none)
 else some (.inl s8)
def Ln (k:Nat):Nat→yAs:=yD (fun _ _ _ _ _=>none) (GK k)
def B2 (k:Nat)(a0:List wC)(a1 a2:AC):Option fy:=
 bif !(decide ((a1.length:Int)=(a0.length:Int))) then some (0,false)
 else bif !(decide ((a2.length:Int)=(a0.length:Int))) then some (0,false)
 else(Ln k k a0 a1 a2 0 0).bind fun z=>
 match z with
 |.inl z1=>some (z1,true)
 |.inr z2=>some (z2.1,z2.2)
def Qw (k:Nat)(a0:rJ)(a1 a2:Int):Option (Int×vn):=
 bif decide (a1<0) then some (1,(yE a0 ([],a0.2.2.2.2.2.2.2.2.2.2.2.2.2.2.2.2.2)))
 else bif decide (a1≥(a0.2.1.length:Int)) then some (1,(yE a0 ([],a0.2.2.2.2.2.2.2.2.2.2.2.2.2.2.2.2.2)))
 else bif decide (a2<0) then some (1,(yE a0 ([],a0.2.2.2.2.2.2.2.2.2.2.2.2.2.2.2.2.2)))
 else bif decide (a2>1099511627776) then some (1,(yE a0 ([],a0.2.2.2.2.2.2.2.2.2.2.2.2.2.2.2.2.2)))
 else bif zB a0.2.2.2.2.2.2.2.2.2.2.2.2.2.2.2.2.1 a0.2.2.2.2.2.2.2.2.2.2.2.1.length then ((uY k (a0.2.2.2.2.2.2.2.2.2.2.2.1.getD a0.2.2.2.2.2.2.2.2.2.2.2.2.2.2.2.2.1.toNat []) a1 a2).bind fun x0=>
  (B2 k a0.2.1 a0.2.2.2.2.2.2.2.2.2.2.1 x0).bind fun x1=>
  bif !x1.2 then some (8,(yE a0 ([],a0.2.2.2.2.2.2.2.2.2.2.2.2.2.2.2.2.2)))
  else bif decide (x1.1>1152921504606846976) then some (8,(yE a0 ([],a0.2.2.2.2.2.2.2.2.2.2.2.2.2.2.2.2.2)))
  else(pt k a0.2.2.2.2.2.2.1 a0.2.2.2.2.2.2.2.1 a0.2.2.2.2.2.2.2.2.1 a0.2.2.2.2.2.2.2.2.2.1).bind fun x2=>
  bif zB a0.2.2.2.2.2.2.2.2.2.2.2.2.2.2.2.2.1 x2.1.length then (bif decide (x1.1 < (x2.1.getD a0.2.2.2.2.2.2.2.2.2.2.2.2.2.2.2.2.1.toNat (0, 0, 0)).2.1) then (bif decide ((zA ((x2.1.getD a0.2.2.2.2.2.2.2.2.2.2.2.2.2.2.2.2.1.toNat (0,0,0)).1+x1.1))<0) then some (9,(yE a0 ([],a0.2.2.2.2.2.2.2.2.2.2.2.2.2.2.2.2.2)))
    else bif zB a0.2.2.2.2.2.2.2.2.2.2.2.2.2.2.2.2.1 x2.1.length then (let y0:List zJ:=(x2.1.set a0.2.2.2.2.2.2.2.2.2.2.2.2.2.2.2.2.1.toNat ((x2.1.getD a0.2.2.2.2.2.2.2.2.2.2.2.2.2.2.2.2.1.toNat (0,0,0)).1,x1.1,(x2.1.getD a0.2.2.2.2.2.2.2.2.2.2.2.2.2.2.2.2.1.toNat (0,0,0)).2.2))
     bif zL (0 + a0.2.2.2.2.2.2.2.2.2.2.2.1.length) 24 then (bif zB a0.2.2.2.2.2.2.2.2.2.2.2.2.2.2.2.2.1 a0.2.2.2.2.2.2.2.2.2.2.2.1.length then (let y1:EQ:=(a0.2.2.2.2.2.2.2.2.2.2.2.1.set a0.2.2.2.2.2.2.2.2.2.2.2.2.2.2.2.2.1.toNat x0)
       some (0,(jK a0 (y0,x2.2.1,x2.2.2.1,x2.2.2.2,a0.2.2.2.2.2.2.2.2.2.2.1,y1,(yC7 a0 ([],a0.2.2.2.2.2.2.2.2.2.2.2.2.2.2.2.2.2))))))
      else none)
     else none)
    else none)
   else bif zB a0.2.2.2.2.2.2.2.2.2.2.2.2.2.2.2.2.1 x2.1.length then (let y2:List zJ:=(x2.1.set a0.2.2.2.2.2.2.2.2.2.2.2.2.2.2.2.2.1.toNat ((x2.1.getD a0.2.2.2.2.2.2.2.2.2.2.2.2.2.2.2.2.1.toNat (0,0,0)).1,x1.1,(x2.1.getD a0.2.2.2.2.2.2.2.2.2.2.2.2.2.2.2.2.1.toNat (0,0,0)).2.2))
    bif zL (0 + a0.2.2.2.2.2.2.2.2.2.2.2.1.length) 24 then (bif zB a0.2.2.2.2.2.2.2.2.2.2.2.2.2.2.2.2.1 a0.2.2.2.2.2.2.2.2.2.2.2.1.length then (let y3:EQ:=(a0.2.2.2.2.2.2.2.2.2.2.2.1.set a0.2.2.2.2.2.2.2.2.2.2.2.2.2.2.2.2.1.toNat x0)
      some (0,(jK a0 (y2,x2.2.1,x2.2.2.1,x2.2.2.2,a0.2.2.2.2.2.2.2.2.2.2.1,y3,(yC7 a0 ([],a0.2.2.2.2.2.2.2.2.2.2.2.2.2.2.2.2.2))))))
     else none)
    else none)
   else none)
  else none)
 else none
def G2 (k:Nat)(a0:zJ)(a1:Int):Option (zJ×Int):=
 (GJ k a0.1 a1).bind fun x0=>
 bif !x0.2 then some (a0,8)
 else(JT k x0.1 a0.2.1 a0.2.2).bind fun x1=>
 bif !x1 then some (a0,8)
 else some ((x0.1,a0.2),0)
def G3 (k:Nat)(a0:rJ)(a1:Bool)(a2 a3:Int):Option (Int×vn):=
 (uX k (yE a0 ([],a0.2.2.2.2.2.2.2.2.2.2.2.2.2.2.2.2.2)) a2).bind fun x0=>
 bif decide (x0<0) then some (1,(yE a0 ([],a0.2.2.2.2.2.2.2.2.2.2.2.2.2.2.2.2.2)))
 else bif decide (a3<1) then some (1,(yE a0 ([],a0.2.2.2.2.2.2.2.2.2.2.2.2.2.2.2.2.2)))
 else bif decide (a3>1099511627776) then some (1,(yE a0 ([],a0.2.2.2.2.2.2.2.2.2.2.2.2.2.2.2.2.2)))
 else(pt k a0.2.2.2.2.2.2.1 a0.2.2.2.2.2.2.2.1 a0.2.2.2.2.2.2.2.2.1 a0.2.2.2.2.2.2.2.2.2.1).bind fun x1=>
 bif a1 then (bif zB x0 x1.1.length then ((G2 k (x1.1.getD x0.toNat (0,0,0)) a3).bind fun x2=>
   bif decide ((zA (a0.2.2.2.2.2.2.2.2.2.2.2.2.2.2.1+a3))>1152921504606846976) then some (8,(yE a0 ([],a0.2.2.2.2.2.2.2.2.2.2.2.2.2.2.2.2.2)))
   else bif !(decide (x2.2=0)) then some (8,(yE a0 ([],a0.2.2.2.2.2.2.2.2.2.2.2.2.2.2.2.2.2)))
   else bif zB x0 x1.1.length then some (0,(jK a0 ((x1.1.set x0.toNat x2.1),x1.2.1,x1.2.2.1,x1.2.2.2,(Ij a0 ((zA (a0.2.2.2.2.2.2.2.2.2.2.2.2.2.2.1+a3)),a0.2.2.2.2.2.2.2.2.2.2.2.2.2.2.2.1,a0.2.2.2.2.2.2.2.2.2.2.2.2.2.2.2.2.1,[],a0.2.2.2.2.2.2.2.2.2.2.2.2.2.2.2.2.2)))))
   else none)
  else none)
 else bif zB x0 x1.1.length then (bif decide ((zA ((zA ((x1.1.getD x0.toNat (0,0,0)).1+(x1.1.getD x0.toNat (0,0,0)).2.1))-(x1.1.getD x0.toNat (0,0,0)).2.2))<a3) then some (9,(yE a0 ([],a0.2.2.2.2.2.2.2.2.2.2.2.2.2.2.2.2.2)))
  else bif decide (a0.2.2.2.2.2.2.2.2.2.2.2.2.2.2.1<a3) then some (9,(yE a0 ([],a0.2.2.2.2.2.2.2.2.2.2.2.2.2.2.2.2.2)))
  else bif zB x0 x1.1.length then (let y0:List zJ:=(x1.1.set x0.toNat ((zA ((x1.1.getD x0.toNat (0,0,0)).1-a3)),(x1.1.getD x0.toNat (0,0,0)).2))
   some (0,(jK a0 (y0,x1.2.1,x1.2.2.1,x1.2.2.2,(Ij a0 ((zA (a0.2.2.2.2.2.2.2.2.2.2.2.2.2.2.1-a3)),a0.2.2.2.2.2.2.2.2.2.2.2.2.2.2.2.1,a0.2.2.2.2.2.2.2.2.2.2.2.2.2.2.2.2.1,[],a0.2.2.2.2.2.2.2.2.2.2.2.2.2.2.2.2.2))))))
  else none)
 else none
abbrev qN6:Type:=(rJ×AC×(List zJ)×EQ×AC×EQ)⊕(Int×rJ)
abbrev qNn:Type:=Int→rJ→AC→List zJ→EQ→AC→EQ→Option qN6
def G4 (k:Nat)(rec:qNn)(s9:Int)(b0:rJ)(r1:AC)(r3:List zJ)(m4:EQ)(r5:AC)(m6:EQ):Option qN6:=
 bif decide (s9 < (r3.length : Int)) then (bif zB s9 b0.2.2.2.2.2.2.2.2.2.2.2.1.length then ((B2 k b0.2.1 r1 (b0.2.2.2.2.2.2.2.2.2.2.2.1.getD s9.toNat [])).bind fun x2=>
   bif !x2.2 then some (.inr (8,b0))
   else bif decide (x2.1>1152921504606846976) then some (.inr (8,b0))
   else bif zB s9 r3.length then (let y0:List zJ:=(r3.set s9.toNat ((r3.getD s9.toNat (0,0,0)).1,x2.1,(r3.getD s9.toNat (0,0,0)).2.2))
    rec (zA (s9+1)) b0 r1 y0 m4 r5 m6)
   else none)
  else none)
 else some (.inl (b0,r1,r3,m4,r5,m6))
def uZ (k:Nat):Nat→qNn:=yD (fun _ _ _ _ _ _ _=>none) (G4 k)
def Qx (k:Nat)(a0:rJ)(a1 a2:Int):Option (Int×vn):=
 bif decide (a1<0) then some (1,(yE a0 ([],a0.2.2.2.2.2.2.2.2.2.2.2.2.2.2.2.2.2)))
 else bif decide (a1≥(a0.2.1.length:Int)) then some (1,(yE a0 ([],a0.2.2.2.2.2.2.2.2.2.2.2.2.2.2.2.2.2)))
 else bif decide (a2<0) then some (1,(yE a0 ([],a0.2.2.2.2.2.2.2.2.2.2.2.2.2.2.2.2.2)))
 else bif decide (a2>1048576) then some (1,(yE a0 ([],a0.2.2.2.2.2.2.2.2.2.2.2.2.2.2.2.2.2)))
 else(uY k a0.2.2.2.2.2.2.2.2.2.2.1 a1 a2).bind fun x0=>
 (pt k a0.2.2.2.2.2.2.1 a0.2.2.2.2.2.2.2.1 a0.2.2.2.2.2.2.2.2.1 a0.2.2.2.2.2.2.2.2.2.1).bind fun x1=>
 (uZ k k 0 a0 x0 x1.1 x1.2.1 x1.2.2.1 x1.2.2.2).bind fun z=>
 match z with
 |.inl z1=>some (0,(jK z1.1 (B8 z1 (z1.2.1,(yO2 z1.1 ([],z1.1.2.2.2.2.2.2.2.2.2.2.2.2.2.2.2.2.2))))))
 |.inr z2=>some (yXs z2 ([],z2.2.2.2.2.2.2.2.2.2.2.2.2.2.2.2.2.2.2))
def yh (k:Nat)(a0:rJ)(a1:zC):Option (Int×vn):=
 bif decide (a1.1 = 1) then ((Qv k a0 a1.2).bind fun x0=>
  some (x0.1,x0.2))
 else bif decide (a1.1 = 2) then ((Cc k a0 a1.1 a1.2).bind fun x1=>
  some (x1.1,x1.2))
 else bif decide (a1.1 = 3) then ((Cc k a0 a1.1 a1.2).bind fun x2=>
  some (x2.1,x2.2))
 else bif decide (a1.1 = 4) then ((Cc k a0 a1.1 a1.2).bind fun x3=>
  some (x3.1,x3.2))
 else bif decide (a1.1 = 5) then ((Cd k a0 a1.1 a1.2).bind fun x4=>
  some (x4.1,x4.2))
 else bif decide (a1.1 = 6) then ((Cd k a0 a1.1 a1.2).bind fun x5=>
  some (x5.1,x5.2))
 else bif decide (a1.1 = 7) then ((Cd k a0 a1.1 a1.2).bind fun x6=>
  some (x6.1,x6.2))
 else bif decide (a1.1 = 8) then ((Qw k a0 a1.2.1 a1.2.2.1).bind fun x7=>
  some (x7.1,x7.2))
 else bif decide (a1.1 = 10) then ((G3 k a0 (decide (a1.1=10)) a1.2.1 a1.2.2.1).bind fun x8=>
  some (x8.1,x8.2))
 else bif decide (a1.1 = 11) then ((G3 k a0 (decide (a1.1=10)) a1.2.1 a1.2.2.1).bind fun x9=>
  some (x9.1,x9.2))
 else bif decide (a1.1 = 12) then ((Qx k a0 a1.2.1 a1.2.2.1).bind fun bW=>
  some (bW.1,bW.2))
 else some (0,(yE a0 ([],a0.2.2.2.2.2.2.2.2.2.2.2.2.2.2.2.2.2)))
def LO (k:Nat)(a0:vD)(a1:yI)(a2:qE):Option (yI×(List qE)×Int):=
 (Ch k a0 a2).bind fun x0=>
 bif !x0 then some (a1,[],5)
 else bif a1.2.2.2.2.2.2.2.2.2.2 then (bif !(decide (a2.2.1=9)) then some (a1,[],7)
  else bif decide (a2.2.1 = 9) then (bif zB a2.1 a1.2.1.length then ((uE k a1.2.2.2.2.2.2.2.1 a2.1).bind fun x1=>
    (fQ k 17 [(a1.2.1.getD a2.1.toNat (0,0,0)).1,(a1.2.1.getD a2.1.toNat (0,0,0)).2.1,(a1.2.1.getD a2.1.toNat (0,0,0)).2.2,(x1.length:Int),a1.1]).bind fun x2=>
    some (a1,[(a2.1,x2)],0))
   else none)
  else bif decide (a2.2.1 = 14) then ((Hm k a0 a1).bind fun x3=>
   some (x3.1,x3.2,0))
  else(yh k (jI a0 (vY a1 (a2.1,0))) a2.2).bind fun x4=>
  bif !(decide (x4.1=0)) then some (a1,[],x4.1)
  else bif !(decide (a2.1 = (-1))) then ((fQ k 15 []).bind fun x5=>
   (oD k x4.2.2.2.2.2.2.1 x4.2.2.2.2.2.2.2.1 x4.2.2.2.2.2.2.2.2.1 x4.2.2.2.2.2.2.2.2.2.1 x4.2.2.2.2.2.2.2.2.2.2.1 x4.2.2.2.2.2.2.2.2.2.2.2.1 x4.2.2.2.2.2.2.2.2.2.2.2.2.1 x4.2.2.2.2.2.2.2.2.2.2.2.2.2.1 x4.2.2.2.2.2.2.2.2.2.2.2.2.2.2.1 x4.2.2.2.2.2.2.2.2.2.2.2.2.2.2.2.1 x4.2.2.2.2.2.2.2.2.2.2.2.2.2.2.2.2.1 (decide (a2.2.1=13))).bind fun x6=>
   bif zL (1 + x4.2.2.2.2.2.2.2.2.2.2.2.2.2.2.2.2.2.2.1.length) 64 then (let y0:List qE:=([(a2.1,x5)]++x4.2.2.2.2.2.2.2.2.2.2.2.2.2.2.2.2.2.2.1)
    bif zL (y0.length + x6.2.2.2.2.2.2.2.2.2.2.2.length) 64 then (bif decide (x4.2.2.2.2.2.2.2.2.2.2.2.2.2.2.2.2.2.2.2 > 0) then ((nq k x6.2.2.2.2.2.2.2.1 x4.2.2.2.2.2.2.2.2.2.2.2.2.2.2.2.2.2.2.2).bind fun x7=>
      bif decide (x7 ≥ 0) then ((fQ k 19 [x4.2.2.2.2.2.2.2.2.2.2.2.2.2.2.2.2.2.2.2]).bind fun x8=>
       bif zL ((y0 ++ x6.2.2.2.2.2.2.2.2.2.2.2).length + 1) 64 then (let y1:List qE:=((y0++x6.2.2.2.2.2.2.2.2.2.2.2)++[(a2.1,x8)])
        some ((qQ x6),y1,0))
       else none)
      else some ((qQ x6),(y0++x6.2.2.2.2.2.2.2.2.2.2.2),0))
     else some ((qQ x6),(y0++x6.2.2.2.2.2.2.2.2.2.2.2),0))
    else none)
   else none)
  else(oD k x4.2.2.2.2.2.2.1 x4.2.2.2.2.2.2.2.1 x4.2.2.2.2.2.2.2.2.1 x4.2.2.2.2.2.2.2.2.2.1 x4.2.2.2.2.2.2.2.2.2.2.1 x4.2.2.2.2.2.2.2.2.2.2.2.1 x4.2.2.2.2.2.2.2.2.2.2.2.2.1 x4.2.2.2.2.2.2.2.2.2.2.2.2.2.1 x4.2.2.2.2.2.2.2.2.2.2.2.2.2.2.1 x4.2.2.2.2.2.2.2.2.2.2.2.2.2.2.2.1 x4.2.2.2.2.2.2.2.2.2.2.2.2.2.2.2.2.1 (decide (a2.2.1=13))).bind fun x9=>
  bif zL x4.2.2.2.2.2.2.2.2.2.2.2.2.2.2.2.2.2.2.1.length 64 then (let y2:List qE:=x4.2.2.2.2.2.2.2.2.2.2.2.2.2.2.2.2.2.2.1
   bif zL (y2.length + x9.2.2.2.2.2.2.2.2.2.2.2.length) 64 then (bif decide (x4.2.2.2.2.2.2.2.2.2.2.2.2.2.2.2.2.2.2.2 > 0) then ((nq k x9.2.2.2.2.2.2.2.1 x4.2.2.2.2.2.2.2.2.2.2.2.2.2.2.2.2.2.2.2).bind fun bW=>
     bif decide (bW ≥ 0) then ((fQ k 19 [x4.2.2.2.2.2.2.2.2.2.2.2.2.2.2.2.2.2.2.2]).bind fun dq=>
      bif zL ((y2 ++ x9.2.2.2.2.2.2.2.2.2.2.2).length + 1) 64 then (let y3:List qE:=((y2++x9.2.2.2.2.2.2.2.2.2.2.2)++[(a2.1,dq)])
       some ((qQ x9),y3,0))
      else none)
     else some ((qQ x9),(y2++x9.2.2.2.2.2.2.2.2.2.2.2),0))
    else some ((qQ x9),(y2++x9.2.2.2.2.2.2.2.2.2.2.2),0))
   else none)
  else none)
 else bif decide (a2.2.1 = 9) then (bif zB a2.1 a1.2.1.length then ((uE k a1.2.2.2.2.2.2.2.1 a2.1).bind fun dP=>
   (fQ k 17 [(a1.2.1.getD a2.1.toNat (0,0,0)).1,(a1.2.1.getD a2.1.toNat (0,0,0)).2.1,(a1.2.1.getD a2.1.toNat (0,0,0)).2.2,(dP.length:Int),a1.1]).bind fun mz=>
   some (a1,[(a2.1,mz)],0))
  else none)
 else bif decide (a2.2.1 = 14) then ((Hm k a0 a1).bind fun oE=>
  some (oE.1,oE.2,0))
 else(yh k (jI a0 (vY a1 (a2.1,0))) a2.2).bind fun bM=>
 bif !(decide (bM.1=0)) then some (a1,[],bM.1)
 else bif !(decide (a2.1 = (-1))) then ((fQ k 15 []).bind fun gL=>
  (oD k bM.2.2.2.2.2.2.1 bM.2.2.2.2.2.2.2.1 bM.2.2.2.2.2.2.2.2.1 bM.2.2.2.2.2.2.2.2.2.1 bM.2.2.2.2.2.2.2.2.2.2.1 bM.2.2.2.2.2.2.2.2.2.2.2.1 bM.2.2.2.2.2.2.2.2.2.2.2.2.1 bM.2.2.2.2.2.2.2.2.2.2.2.2.2.1 bM.2.2.2.2.2.2.2.2.2.2.2.2.2.2.1 bM.2.2.2.2.2.2.2.2.2.2.2.2.2.2.2.1 bM.2.2.2.2.2.2.2.2.2.2.2.2.2.2.2.2.1 (decide (a2.2.1=13))).bind fun eE=>
  bif zL (1 + bM.2.2.2.2.2.2.2.2.2.2.2.2.2.2.2.2.2.2.1.length) 64 then (let y4:List qE:=([(a2.1,gL)]++bM.2.2.2.2.2.2.2.2.2.2.2.2.2.2.2.2.2.2.1)
   bif zL (y4.length + eE.2.2.2.2.2.2.2.2.2.2.2.length) 64 then (bif decide (bM.2.2.2.2.2.2.2.2.2.2.2.2.2.2.2.2.2.2.2 > 0) then ((nq k eE.2.2.2.2.2.2.2.1 bM.2.2.2.2.2.2.2.2.2.2.2.2.2.2.2.2.2.2.2).bind fun mA=>
     bif decide (mA ≥ 0) then ((fQ k 19 [bM.2.2.2.2.2.2.2.2.2.2.2.2.2.2.2.2.2.2.2]).bind fun ja=>
      bif zL ((y4 ++ eE.2.2.2.2.2.2.2.2.2.2.2).length + 1) 64 then (let y5:List qE:=((y4++eE.2.2.2.2.2.2.2.2.2.2.2)++[(a2.1,ja)])
       some ((qQ eE),y5,0))
      else none)
     else some ((qQ eE),(y4++eE.2.2.2.2.2.2.2.2.2.2.2),0))
    else some ((qQ eE),(y4++eE.2.2.2.2.2.2.2.2.2.2.2),0))
   else none)
  else none)
 else(oD k bM.2.2.2.2.2.2.1 bM.2.2.2.2.2.2.2.1 bM.2.2.2.2.2.2.2.2.1 bM.2.2.2.2.2.2.2.2.2.1 bM.2.2.2.2.2.2.2.2.2.2.1 bM.2.2.2.2.2.2.2.2.2.2.2.1 bM.2.2.2.2.2.2.2.2.2.2.2.2.1 bM.2.2.2.2.2.2.2.2.2.2.2.2.2.1 bM.2.2.2.2.2.2.2.2.2.2.2.2.2.2.1 bM.2.2.2.2.2.2.2.2.2.2.2.2.2.2.2.1 bM.2.2.2.2.2.2.2.2.2.2.2.2.2.2.2.2.1 (decide (a2.2.1=13))).bind fun eF=>
 bif zL bM.2.2.2.2.2.2.2.2.2.2.2.2.2.2.2.2.2.2.1.length 64 then (let y6:List qE:=bM.2.2.2.2.2.2.2.2.2.2.2.2.2.2.2.2.2.2.1
  bif zL (y6.length + eF.2.2.2.2.2.2.2.2.2.2.2.length) 64 then (bif decide (bM.2.2.2.2.2.2.2.2.2.2.2.2.2.2.2.2.2.2.2 > 0) then ((nq k eF.2.2.2.2.2.2.2.1 bM.2.2.2.2.2.2.2.2.2.2.2.2.2.2.2.2.2.2.2).bind fun lH=>
    bif decide (lH ≥ 0) then ((fQ k 19 [bM.2.2.2.2.2.2.2.2.2.2.2.2.2.2.2.2.2.2.2]).bind fun mB=>
     bif zL ((y6 ++ eF.2.2.2.2.2.2.2.2.2.2.2).length + 1) 64 then (let y7:List qE:=((y6++eF.2.2.2.2.2.2.2.2.2.2.2)++[(a2.1,mB)])
      some ((qQ eF),y7,0))
     else none)
    else some ((qQ eF),(y6++eF.2.2.2.2.2.2.2.2.2.2.2),0))
   else some ((qQ eF),(y6++eF.2.2.2.2.2.2.2.2.2.2.2),0))
  else none)
 else none
def vO (k:Nat)(bj:nH)(dy:fS)(mI:vX):Option (yI×nH×fS×vX):=
 some ((rq bj),bj,dy,mI)
abbrev qY9:Type:=AC→AC→Int→Option (Unit⊕Bool)
def EV (k:Nat)(rec:qY9)(s0 s1:AC)(s5:Int):Option (Unit⊕Bool):=
 bif decide (s5 < (s0.length : Int)) then (bif zB s5 s0.length then (bif zB s5 s1.length then (bif !(decide ((s0.getD s5.toNat 0)=(s1.getD s5.toNat 0))) then some (.inr false)
    else rec s0 s1 (zA (s5+1)))
   else none)
  else none)
 else some (.inl ())
def Kc (k:Nat):Nat→qY9
 |0,_,_,_=>none
 |n+1,s0,s1,s5=>EV k (Kc k n) s0 s1 s5
def og (k:Nat)(a0 a1:AC):Option Bool:=
 bif !(decide ((a0.length:Int)=(a1.length:Int))) then some false
 else(Kc k k a0 a1 0).bind fun z=>
 match z with
 |.inl z1=>some true
 |.inr z2=>some z2
abbrev qYo:Type:=EQ→EQ→Int→Option (Unit⊕Bool)
def EW (k:Nat)(rec:qYo)(s0 s1:EQ)(s5:Int):Option (Unit⊕Bool):=
 bif decide (s5 < (s0.length : Int)) then (bif zB s5 s0.length then (bif zB s5 s1.length then ((og k (s0.getD s5.toNat []) (s1.getD s5.toNat [])).bind fun x0=>
    bif !x0 then some (.inr false)
    else rec s0 s1 (zA (s5+1)))
   else none)
  else none)
 else some (.inl ())
def Ke (k:Nat):Nat→qYo
 |0,_,_,_=>none
 |n+1,s0,s1,s5=>EW k (Ke k n) s0 s1 s5
def ux (k:Nat)(a0 a1:EQ):Option Bool:=
 bif !(decide ((a0.length:Int)=(a1.length:Int))) then some false
 else(Ke k k a0 a1 0).bind fun z=>
 match z with
 |.inl z1=>some true
 |.inr z2=>some z2
abbrev qRl:Type:=Int→List zJ→EQ→AC→EQ→List zJ→EQ→AC→EQ→Option (Unit⊕Bool)
def EY (k:Nat)(rec:qRl)(s5:Int)(af:List zJ)(ai:EQ)(aj:AC)(ah:EQ)(av:List zJ)(aB:EQ)(aC:AC)(aE:EQ):Option (Unit⊕Bool):=
 bif decide (s5 < (af.length : Int)) then (bif zB s5 af.length then (bif zB s5 av.length then (bif !((decide ((af.getD s5.toNat (0,0,0)).1=(av.getD s5.toNat (0,0,0)).1))&&((decide ((af.getD s5.toNat (0,0,0)).2.1=(av.getD s5.toNat (0,0,0)).2.1))&&(decide ((af.getD s5.toNat (0,0,0)).2.2=(av.getD s5.toNat (0,0,0)).2.2)))) then some (.inr false)
    else rec (zA (s5+1)) af ai aj ah av aB aC aE)
   else none)
  else none)
 else some (.inl ())
def Kf (k:Nat):Nat→qRl
 |0,_,_,_,_,_,_,_,_,_=>none
 |n+1,s5,af,ai,aj,ah,av,aB,aC,aE=>EY k (Kf k n) s5 af ai aj ah av aB aC aE
def EX (k:Nat)(au:List zJ)(az:EQ)(ay:AC)(ax:EQ)(cV:List zJ)(jh:EQ)(jk:AC)(jl:EQ):Option Bool:=
 bif !(decide ((au.length:Int)=(cV.length:Int))) then some false
 else(ux k az jh).bind fun x0=>
 bif !x0 then some false
 else(ux k ax jl).bind fun x1=>
 bif !x1 then some false
 else(og k ay jk).bind fun x2=>
 bif !x2 then some false
 else(Kf k k 0 au az ay ax cV jh jk jl).bind fun z=>
 match z with
 |.inl z1=>some true
 |.inr z2=>some z2
abbrev qVn:Type:=List zC→List zC→Int→Option (Unit⊕Bool)
def HD (k:Nat)(rec:qVn)(s0 s1:List zC)(s5:Int):Option (Unit⊕Bool):=
 bif decide (s5 < (s0.length : Int)) then (bif zB s5 s0.length then (bif zB s5 s1.length then (bif !((decide ((s0.getD s5.toNat (0,0,0,0,0,0,0)).1=(s1.getD s5.toNat (0,0,0,0,0,0,0)).1))&&((decide ((s0.getD s5.toNat (0,0,0,0,0,0,0)).2.1=(s1.getD s5.toNat (0,0,0,0,0,0,0)).2.1))&&((decide ((s0.getD s5.toNat (0,0,0,0,0,0,0)).2.2.1=(s1.getD s5.toNat (0,0,0,0,0,0,0)).2.2.1))&&((decide ((s0.getD s5.toNat (0,0,0,0,0,0,0)).2.2.2.1=(s1.getD s5.toNat (0,0,0,0,0,0,0)).2.2.2.1))&&((decide ((s0.getD s5.toNat (0,0,0,0,0,0,0)).2.2.2.2.1=(s1.getD s5.toNat (0,0,0,0,0,0,0)).2.2.2.2.1))&&((decide ((s0.getD s5.toNat (0,0,0,0,0,0,0)).2.2.2.2.2.1=(s1.getD s5.toNat (0,0,0,0,0,0,0)).2.2.2.2.2.1))&&(decide ((s0.getD s5.toNat (0,0,0,0,0,0,0)).2.2.2.2.2.2=(s1.getD s5.toNat (0,0,0,0,0,0,0)).2.2.2.2.2.2)))))))) then some (.inr false)
    else rec s0 s1 (zA (s5+1)))
   else none)
  else none)
 else some (.inl ())
def L5 (k:Nat):Nat→qVn
 |0,_,_,_=>none
 |n+1,s0,s1,s5=>HD k (L5 k n) s0 s1 s5
def Cu (k:Nat)(a0 a1:List zC):Option Bool:=
 bif !(decide ((a0.length:Int)=(a1.length:Int))) then some false
 else(L5 k k a0 a1 0).bind fun z=>
 match z with
 |.inl z1=>some true
 |.inr z2=>some z2
def jP (k:Nat)(a0 a1:yI):Option Bool:=
 bif decide (a0.1 = a1.1) then (bif decide (a0.2.2.2.2.2.2.2.2.2.1 = a1.2.2.2.2.2.2.2.2.2.1) then (bif mO a0.2.2.2.2.2.2.2.2.2.2 a1.2.2.2.2.2.2.2.2.2.2 then ((EX k a0.2.1 a0.2.2.1 a0.2.2.2.1 a0.2.2.2.2.1 a1.2.1 a1.2.2.1 a1.2.2.2.1 a1.2.2.2.2.1).bind fun x0=>
    bif x0 then ((og k a0.2.2.2.2.2.1 a1.2.2.2.2.2.1).bind fun x1=>
     bif x1 then ((ux k a0.2.2.2.2.2.2.1 a1.2.2.2.2.2.2.1).bind fun x2=>
      bif x2 then ((Cu k a0.2.2.2.2.2.2.2.1 a1.2.2.2.2.2.2.2.1).bind fun x3=>
       bif x3 then ((og k a0.2.2.2.2.2.2.2.2.1 a1.2.2.2.2.2.2.2.2.1).bind fun x4=>
        some x4)
       else some false)
      else some false)
     else some false)
    else some false)
   else some false)
  else some false)
 else some false
def nE (k:Nat)(a0:vX):Option vX:=
 bif (decide (0 ≤ a0.2.2.1)) && (decide (a0.2.2.1 ≤ (a0.2.1.length : Int))) then (bif (decide (0≤a0.2.2.2.2.1))&&(decide (a0.2.2.2.2.1≤(a0.2.2.2.1.length:Int))) then some (a0.1,(List.take (a0.2.2.1.toNat-0) a0.2.1),a0.2.2.1,(List.take (a0.2.2.2.2.1.toNat-0) a0.2.2.2.1),a0.2.2.2.2.1,a0.2.2.2.2.2.1,a0.2.2.2.2.2.2.1,false,false,0)
  else none)
 else none
abbrev yAo:Type:=AC→Int→Int→AC→Option qKz
def Q3 (k:Nat)(rec:yAo)(s0:AC)(s4 s5:Int)(r0:AC):Option qKz:=
 bif decide (s5 ≥ 0) then (bif zB s4 s0.length then (bif !(decide ((IntKind.wrap .u64 (s5)) < 0)) then (bif zL (r0.length+1) 1 then(rec s0 s4 (zA (s5-8)) (r0++[(IntKind.wrap .u8 ((shr .u64 (IntKind.wrap .u64 ((s0.getD s4.toNat 0))) (IntKind.wrap .u64 (s5)))))]))
    else none)
   else none)
  else none)
 else some (s0,s4,r0)
def Mk (k:Nat):Nat→yAo:=yD (fun _ _ _ _=>none) (Q3 k)
def HK (k:Nat)(rec:qXm)(s0:AC)(s4:Int)(r0:AC):Option AC:=
 bif decide (s4 < (s0.length : Int)) then ((Mk k k s0 s4 56 r0).bind fun z=>
  rec z.1 (zA (z.2.1+1)) z.2.2)
 else some r0
def CC (k:Nat):Nat→qXm:=yD (fun _ _ _=>none) (HK k)
def HJ (k:Nat)(a0:AC):Option AC:=
 (CC k k a0 0 []).bind fun z1=>
 some z1
def kj (k:Nat)(a0:AC):Option AC:=
 (HJ k [(a0.length:Int)]).bind fun x0=>
 (HJ k a0).bind fun x1=>
 bif zL (x0.length+x1.length) 1 then some (x0++x1)
 else none
abbrev qQ9:Type:=EQ→Int→AC→Option AC
def HM (k:Nat)(rec:qQ9)(s0:EQ)(s4:Int)(r0:AC):Option AC:=
 bif decide (s4 < (s0.length : Int)) then (bif zB s4 s0.length then ((kj k (s0.getD s4.toNat [])).bind fun x0=>
   bif zL (r0.length+x0.length) 1 then(rec s0 (zA (s4+1)) (r0++x0))
   else none)
  else none)
 else some r0
def HL (k:Nat):Nat→qQ9:=yD (fun _ _ _=>none) (HM k)
def pG (k:Nat)(a0:EQ):Option AC:=
 (HL k k a0 0 []).bind fun z=>
 some z
abbrev qM3:Type:=yI×zh×AC
abbrev yCt:Type:=Int→yI→zh→AC→Option qM3
def HN (k:Nat)(rec:yCt)(s6:Int)(b0:yI)(b1:zh)(r2:AC):Option qM3:=
 bif decide (s6 < (b1.1.length : Int)) then (bif zB s6 b1.1.length then (bif zB s6 b1.1.length then (bif zB s6 b1.1.length then ((kj k [(b1.1.getD s6.toNat (0,0,0)).1,(b1.1.getD s6.toNat (0,0,0)).2.1,(b1.1.getD s6.toNat (0,0,0)).2.2]).bind fun x1=>
     bif zL (r2.length+x1.length) 1 then(rec (zA (s6+1)) b0 b1 (r2++x1))
     else none)
    else none)
   else none)
  else none)
 else some (b0,b1,r2)
def vi (k:Nat):Nat→yCt:=yD (fun _ _ _ _=>none) (HN k)
abbrev qQn:Type:=yI×AC
abbrev qM4:Type:=Int→yI→AC→Option qQn
def HO (k:Nat)(rec:qM4)(s7:Int)(b0:yI)(r1:AC):Option qQn:=
 bif decide (s7 < (b0.2.2.2.2.2.2.2.1.length : Int)) then (bif zB s7 b0.2.2.2.2.2.2.2.1.length then ((kj k [(b0.2.2.2.2.2.2.2.1.getD s7.toNat (0,0,0,0,0,0,0)).1,(b0.2.2.2.2.2.2.2.1.getD s7.toNat (0,0,0,0,0,0,0)).2.1,(b0.2.2.2.2.2.2.2.1.getD s7.toNat (0,0,0,0,0,0,0)).2.2.1,(b0.2.2.2.2.2.2.2.1.getD s7.toNat (0,0,0,0,0,0,0)).2.2.2.1,(b0.2.2.2.2.2.2.2.1.getD s7.toNat (0,0,0,0,0,0,0)).2.2.2.2.1,(b0.2.2.2.2.2.2.2.1.getD s7.toNat (0,0,0,0,0,0,0)).2.2.2.2.2.1,(b0.2.2.2.2.2.2.2.1.getD s7.toNat (0,0,0,0,0,0,0)).2.2.2.2.2.2]).bind fun x7=>
   bif zL (r1.length+x7.length) 1 then(rec (zA (s7+1)) b0 (r1++x7))
   else none)
  else none)
 else some (b0,r1)
def vj (k:Nat):Nat→qM4:=yD (fun _ _ _=>none) (HO k)
def HP (k:Nat)(a0:yI):Option AC:=
 bif a0.2.2.2.2.2.2.2.2.2.2 then ((kj k [a0.1,a0.2.2.2.2.2.2.2.2.2.1,1,(a0.2.1.length:Int),(a0.2.2.1.length:Int),(a0.2.2.2.1.length:Int),(a0.2.2.2.2.1.length:Int),(a0.2.2.2.2.2.2.1.length:Int),(a0.2.2.2.2.2.2.2.1.length:Int)]).bind fun x0=>
  (vi k k 0 a0 (Ie a0) x0).bind fun z=>
  (pG k z.2.1.2.1).bind fun x2=>
  bif zL (z.2.2.length + x2.length) 1 then ((kj k z.2.1.2.2.1).bind fun x3=>
   bif zL ((z.2.2 ++ x2).length + x3.length) 1 then ((pG k z.2.1.2.2.2).bind fun x4=>
    bif zL (((z.2.2 ++ x2) ++ x3).length + x4.length) 1 then ((kj k z.1.2.2.2.2.2.1).bind fun x5=>
     bif zL ((((z.2.2 ++ x2) ++ x3) ++ x4).length + x5.length) 1 then ((pG k z.1.2.2.2.2.2.2.1).bind fun x6=>
      bif zL (((((z.2.2 ++ x2) ++ x3) ++ x4) ++ x5).length + x6.length) 1 then ((vj k k 0 z.1 (((((z.2.2++x2)++x3)++x4)++x5)++x6)).bind fun z1=>
       (kj k z1.1.2.2.2.2.2.2.2.2.1).bind fun x8=>
       bif zL (z1.2.length+x8.length) 1 then some (z1.2++x8)
       else none)
      else none)
     else none)
    else none)
   else none)
  else none)
 else(kj k [a0.1,a0.2.2.2.2.2.2.2.2.2.1,0,(a0.2.1.length:Int),(a0.2.2.1.length:Int),(a0.2.2.2.1.length:Int),(a0.2.2.2.2.1.length:Int),(a0.2.2.2.2.2.2.1.length:Int),(a0.2.2.2.2.2.2.2.1.length:Int)]).bind fun x9=>
 (vi k k 0 a0 (Ie a0) x9).bind fun z2=>
 (pG k z2.2.1.2.1).bind fun bW=>
 bif zL (z2.2.2.length + bW.length) 1 then ((kj k z2.2.1.2.2.1).bind fun dq=>
  bif zL ((z2.2.2 ++ bW).length + dq.length) 1 then ((pG k z2.2.1.2.2.2).bind fun dP=>
   bif zL (((z2.2.2 ++ bW) ++ dq).length + dP.length) 1 then ((kj k z2.1.2.2.2.2.2.1).bind fun mz=>
    bif zL ((((z2.2.2 ++ bW) ++ dq) ++ dP).length + mz.length) 1 then ((pG k z2.1.2.2.2.2.2.2.1).bind fun oE=>
     bif zL (((((z2.2.2 ++ bW) ++ dq) ++ dP) ++ mz).length + oE.length) 1 then ((vj k k 0 z2.1 (((((z2.2.2++bW)++dq)++dP)++mz)++oE)).bind fun z3=>
      (kj k z3.1.2.2.2.2.2.2.2.2.1).bind fun bM=>
      bif zL (z3.2.length+bM.length) 1 then some (z3.2++bM)
      else none)
     else none)
    else none)
   else none)
  else none)
 else none
def Q4 (k:Nat)(a0:AC):Option (AC×AC×Bool):=
 bif decide ((a0.length:Int)<8) then some ([],[],false)
 else bif decide (8 ≤ (a0.length : Int)) then ((JK k (List.take 8 a0)).bind fun x0=>
  bif decide (x0<0) then some ([],[],false)
  else bif decide (x0>(zA (Int.tdiv (zA ((a0.length:Int)-8)) 8))) then some ([],[],false)
  else bif (decide (8 ≤ (zA (8 + (zA (8 * x0)))))) && (decide ((zA (8 + (zA (8 * x0)))) ≤ (a0.length : Int))) then ((JM k (qR a0 8 ((zA (8+(zA (8*x0)))).toNat-8))).bind fun x1=>
   bif (decide (0≤(zA (8+(zA (8*x0))))))&&(decide ((zA (8+(zA (8*x0))))≤(a0.length:Int))) then some (x1.1,(List.drop (zA (8+(zA (8*x0)))).toNat a0),true)
   else none)
  else none)
 else none
def yq (k:Nat)(a0:jF):Option (AC×jF):=
 (Q4 k a0.1).bind fun x0=>
 bif a0.2 then some (x0.1,x0.2)
 else some (x0.1,x0.2.1,false)
def HQ (k:Nat)(a0:jF)(a1:Int):Option (AC×jF):=
 (yq k a0).bind fun x0=>
 bif !(decide ((x0.1.length : Int) = a1)) then (bif qb a1 a1 8 then some ((List.replicate a1.toNat (0:Int)),x0.2.1,false)
  else none)
 else some (x0.1,x0.2)
abbrev yCn:Type:=Int→Int→jF→EQ→Option qLk
def HS (k:Nat)(rec:yCn)(s1 s6:Int)(b0:jF)(r1:EQ):Option qLk:=
 bif decide (s6 < s1) then (bif b0.2 then ((yq k b0).bind fun x0=>
   bif zL (r1.length+1) 24 then(rec s1 (zA (s6+1)) x0.2 (r1++[x0.1]))
   else none)
  else some (b0,r1))
 else some (b0,r1)
def CE (k:Nat):Nat→yCn:=yD (fun _ _ _ _=>none) (HS k)
def HR (k:Nat)(a0:jF)(a1:Int):Option (EQ×jF):=
 (CE k k a1 0 a0 []).bind fun z=>
 some (z.2,z.1)
def HT (k:Nat)(rec:qUp)(s0:AC)(s7:Int)(b0:yK)(b1:jF)(r2:AC)(b3:yK)(r4:List zJ):Option yBn:=
 bif zB 3 r2.length then (bif decide (s7 < (r2.getD 3 0)) then (bif b1.2 then ((HQ k b1 3).bind fun x1=>
    bif zB 0 x1.1.length then (bif zB 1 x1.1.length then (bif zB 2 x1.1.length then (bif zL (r4.length + 1) 24 then (let y0:List zJ:=(r4++[((x1.1.getD 0 0),(x1.1.getD 1 0),(x1.1.getD 2 0))])
        rec s0 (zA (s7+1)) b0 x1.2 r2 b3 y0)
       else none)
      else none)
     else none)
    else none)
   else some (s0,b0,b1,r2,b3,r4))
  else some (s0,b0,b1,r2,b3,r4))
 else none
def CF (k:Nat):Nat→qUp:=yD (fun _ _ _ _ _ _ _=>none) (HT k)
abbrev qOj:Type:=AC→Int→yK→jF→AC→yK→List zJ→EQ→AC→EQ→AC→EQ→List zC→Option qVu
def HU (k:Nat)(rec:qOj)(s0:AC)(s9:Int)(b0:yK)(b1:jF)(r2:AC)(b3:yK)(r4:List zJ)(r5:EQ)(r6:AC)(r7:EQ)(r8:AC)(r9:EQ)(Sw:List zC):Option qVu:=
 bif zB 8 r2.length then (bif decide (s9 < (r2.getD 8 0)) then (bif b1.2 then ((HQ k b1 7).bind fun x7=>
    bif zB 0 x7.1.length then (bif zB 1 x7.1.length then (bif zB 2 x7.1.length then (bif zB 3 x7.1.length then (bif zB 4 x7.1.length then (bif zB 5 x7.1.length then (bif zB 6 x7.1.length then (bif zL (Sw.length + 1) 56 then (let y1:List zC:=(Sw++[((x7.1.getD 0 0),(x7.1.getD 1 0),(x7.1.getD 2 0),(x7.1.getD 3 0),(x7.1.getD 4 0),(x7.1.getD 5 0),(x7.1.getD 6 0))])
            rec s0 (zA (s9+1)) b0 x7.2 r2 b3 r4 r5 r6 r7 r8 r9 y1)
           else none)
          else none)
         else none)
        else none)
       else none)
      else none)
     else none)
    else none)
   else some (s0,b0,b1,b3,r4,r5,r6,r7,r8,r9,Sw))
  else some (s0,b0,b1,b3,r4,r5,r6,r7,r8,r9,Sw))
 else none
def CG (k:Nat):Nat→qOj:=yD (fun _ _ _ _ _ _ _ _ _ _ _ _ _=>none) (HU k)
def Mo (k:Nat)(a0:AC):Option (yI×Bool):=
 (HQ k (a0,true) 9).bind fun x0=>
 bif zB 0 x0.1.length then (bif zB 1 x0.1.length then (bif zB 2 x0.1.length then ((CF k k a0 0 (0,0,false) x0.2 x0.1 ((x0.1.getD 0 0),(x0.1.getD 1 0),(decide ((x0.1.getD 2 0)=1))) []).bind fun z=>
    bif zB 4 z.2.2.2.1.length then ((HR k z.2.2.1 (z.2.2.2.1.getD 4 0)).bind fun x2=>
     (yq k x2.2).bind fun x3=>
     bif zB 6 z.2.2.2.1.length then ((HR k x3.2 (z.2.2.2.1.getD 6 0)).bind fun x4=>
      (yq k x4.2).bind fun x5=>
      bif zB 7 z.2.2.2.1.length then ((HR k x5.2 (z.2.2.2.1.getD 7 0)).bind fun x6=>
       (CG k k z.1 0 z.2.1 x6.2 z.2.2.2.1 z.2.2.2.2.1 z.2.2.2.2.2 x2.1 x3.1 x4.1 x5.1 x6.1 []).bind fun z1=>
       (yq k z1.2.2.1).bind fun x8=>
       bif !x8.2.2 then some ((0,[],[],[],[],[],[],[],[],0,false),false)
       else bif decide ((x8.2.1.length:Int)>0) then some ((0,[],[],[],[],[],[],[],[],0,false),false)
       else(HP k (z1.2.2.2.1.1,(MF z1 (x8.1,z1.2.2.2.1.2)))).bind fun x9=>
       bif !(rR x9 z1.1) then some ((0,[],[],[],[],[],[],[],[],0,false),false)
       else some ((z1.2.2.2.1.1,(MF z1 (x8.1,z1.2.2.2.1.2))),true))
      else none)
     else none)
    else none)
   else none)
  else none)
 else none
def iZ (k:Nat)(a0:yI):Option yI:=
 (HP k a0).bind fun x0=>
 (Mo k x0).bind fun x1=>
 some x1.1
def MS (k:Nat)(a0 a1:Int)(a2:AC):Option qE:=
 (fQ k a1 a2).bind fun x0=>
 some (a0,x0)
def yL6 (k:Nat)(a0:zC):Option AC:=
 (Cg k a0).bind fun x0=>
 bif !x0 then some []
 else(Bp k a0.1).bind fun x1=>
 bif (decide (0 ≤ x1)) && (decide (x1 ≤ 6)) then ((HJ k (qR [a0.2.1,a0.2.2.1,a0.2.2.2.1,a0.2.2.2.2.1,a0.2.2.2.2.2.1,a0.2.2.2.2.2.2] 0 (x1.toNat-0))).bind fun x2=>
  bif zL (1+x2.length) 1 then some ([(IntKind.wrap .u8 (a0.1))]++x2)
  else none)
 else none
def MU (k:Nat)(a0:qE):Option oI:=
 (yL6 k a0.2).bind fun x0=>
 some (1,a0.1,x0,0,0)
def yF7 (k:Nat)(a0:qE):Option Bool:=
 some (decide (a0.2.1=16))
abbrev yAq:Type:=List qE→Int→Int→Option (Unit⊕Int)
def yGz (k:Nat)(rec:yAq)(s0:List qE)(s7 s8:Int):Option (Unit⊕Int):=
 bif decide (s8 < s7) then (bif zB s8 s0.length then ((yF7 k (s0.getD s8.toNat (0,0,0,0,0,0,0,0))).bind fun x0=>
   bif x0 then some (.inr s8)
   else rec s0 s7 (zA (s8+1)))
  else none)
 else some (.inl ())
def qRo (k:Nat):Nat→yAq:=yD (fun _ _ _=>none) (yGz k)
def yHn (k:Nat)(a0:List qE):Option Int:=
 (qRo k k a0 (a0.length:Int) 0).bind fun z=>
 match z with
 |.inl z1=>some (-1)
 |.inr z2=>some z2
def vF5 (k:Nat)(a0:List qE):Option Bool:=
 (yHn k a0).bind fun x0=>
 some (decide (x0≥0))
def qTu (k:Nat)(a0:List qE):Option Bool:=
 (vF5 k a0).bind fun x0=>
 some x0
def MV (k:Nat):Option Bool:=
 some true
def yNz (k:Nat)(a1:Int)(a2:AC):Option (List qE):=
 (MV k).bind fun x0=>
 bif x0 then some []
 else(uv k a2).bind fun x1=>
 bif !(decide (x1.2 = 0)) then ((MJ k a1 x1.2).bind fun x2=>
  some x2)
 else none
def qYh (k:Nat):Option yI:=
 some (0,[],[],[],[],[],[],[],[],0,false)
abbrev Sr:Type:=(pM×pM×(List (List qE))×(List qE))⊕(pM×nH×fS×tt×AC×AC×pM×(List (List qE))×(List qE))
abbrev qMu:Type:=(Int×(List oI)×Int×Int×vD×pM×tt×AC×AC×nH×fS×pM×(List (List qE))×(List qE))⊕(Int×(List oI)×Int×Int×vD×pM×tt×AC×AC×pM×(List (List qE))×(List qE))→Option Sr
def yZy (k:Nat)(rec:qMu)(z:(Int×(List oI)×Int×Int×vD×pM×tt×AC×AC×nH×fS×pM×(List (List qE))×(List qE))⊕(Int×(List oI)×Int×Int×vD×pM×tt×AC×AC×pM×(List (List qE))×(List qE))):Option Sr:=match z with
 | .inl z => bif decide (z.2.2.2.1 < z.2.2.1) then (bif zB z.2.2.2.1 z.2.1.length then (bif decide ((z.2.1.getD z.2.2.2.1.toNat (0, 0, [], 0, 0)).1 = 1) then ((Mj k z.2.2.2.2.2.2.2.2.2.1 z.2.2.2.2.2.2.2.2.2.2.1 (z.2.2.2.2.2.2.1.1,z.2.2.2.2.2.2.2.1,z.2.2.2.2.2.2.1.2.1,z.2.2.2.2.2.2.2.2.1,z.2.2.2.2.2.2.1.2.2) (z.2.1.getD z.2.2.2.1.toNat (0,0,[],0,0)).2.1 (z.2.1.getD z.2.2.2.1.toNat (0,0,[],0,0)).2.2.1).bind fun x3=>
     (uv k (z.2.1.getD z.2.2.2.1.toNat (0,0,[],0,0)).2.2.1).bind fun x4=>
     bif decide (x4.2 = 0) then ((qTu k x3.1).bind fun x5=>
      bif !x5 then (bif decide ((x3.1.length : Int) > 0) then (bif zL (z.2.2.2.2.2.2.2.2.2.2.2.2.2.length + 1) 64 then (let y0:List qE:=(z.2.2.2.2.2.2.2.2.2.2.2.2.2++[((z.2.1.getD z.2.2.2.1.toNat (0,0,[],0,0)).2.1,x4.1)])
         bif zL (z.2.2.2.2.2.2.2.2.2.2.2.2.1.length + 1) 24 then (let y1:List (List qE):=(z.2.2.2.2.2.2.2.2.2.2.2.2.1++[x3.1])
          rec (.inl (z.1,z.2.1,z.2.2.1,(zA (z.2.2.2.1+1)),z.2.2.2.2.1,z.2.2.2.2.2.1,(x3.2.2.2.1,x3.2.2.2.2.2.1,x3.2.2.2.2.2.2.2),x3.2.2.2.2.1,x3.2.2.2.2.2.2.1,x3.2.1,x3.2.2.1,z.2.2.2.2.2.2.2.2.2.2.2.1,y1,y0)))
         else none)
        else none)
       else(lg k x3.2.1 x3.2.2.1 x3.2.2.2).bind fun x6=>
       bif !x6.1 then (bif zL (z.2.2.2.2.2.2.2.2.2.2.2.2.2.length + 1) 64 then (let y2:List qE:=(z.2.2.2.2.2.2.2.2.2.2.2.2.2++[((z.2.1.getD z.2.2.2.1.toNat (0,0,[],0,0)).2.1,x4.1)])
         bif zL (z.2.2.2.2.2.2.2.2.2.2.2.2.1.length + 1) 24 then (let y3:List (List qE):=(z.2.2.2.2.2.2.2.2.2.2.2.2.1++[x3.1])
          rec (.inl (z.1,z.2.1,z.2.2.1,(zA (z.2.2.2.1+1)),z.2.2.2.2.1,z.2.2.2.2.2.1,(x6.2.2.2.1,x6.2.2.2.2.2.1,x6.2.2.2.2.2.2.2),x6.2.2.2.2.1,x6.2.2.2.2.2.2.1,x6.2.1,x6.2.2.1,z.2.2.2.2.2.2.2.2.2.2.2.1,y3,y2)))
         else none)
        else none)
       else bif zL (z.2.2.2.2.2.2.2.2.2.2.2.2.1.length + 1) 24 then (let y4:List (List qE):=(z.2.2.2.2.2.2.2.2.2.2.2.2.1++[x3.1])
        rec (.inl (z.1,z.2.1,z.2.2.1,(zA (z.2.2.2.1+1)),z.2.2.2.2.1,z.2.2.2.2.2.1,(x6.2.2.2.1,x6.2.2.2.2.2.1,x6.2.2.2.2.2.2.2),x6.2.2.2.2.1,x6.2.2.2.2.2.2.1,x6.2.1,x6.2.2.1,z.2.2.2.2.2.2.2.2.2.2.2.1,y4,z.2.2.2.2.2.2.2.2.2.2.2.2.2)))
       else none)
      else bif zL (z.2.2.2.2.2.2.2.2.2.2.2.2.1.length + 1) 24 then (let y5:List (List qE):=(z.2.2.2.2.2.2.2.2.2.2.2.2.1++[x3.1])
       rec (.inl (z.1,z.2.1,z.2.2.1,(zA (z.2.2.2.1+1)),z.2.2.2.2.1,z.2.2.2.2.2.1,(x3.2.2.2.1,x3.2.2.2.2.2.1,x3.2.2.2.2.2.2.2),x3.2.2.2.2.1,x3.2.2.2.2.2.2.1,x3.2.1,x3.2.2.1,z.2.2.2.2.2.2.2.2.2.2.2.1,y5,z.2.2.2.2.2.2.2.2.2.2.2.2.2)))
      else none)
     else bif zL (z.2.2.2.2.2.2.2.2.2.2.2.2.1.length + 1) 24 then (let y6:List (List qE):=(z.2.2.2.2.2.2.2.2.2.2.2.2.1++[x3.1])
      rec (.inl (z.1,z.2.1,z.2.2.1,(zA (z.2.2.2.1+1)),z.2.2.2.2.1,z.2.2.2.2.2.1,(x3.2.2.2.1,x3.2.2.2.2.2.1,x3.2.2.2.2.2.2.2),x3.2.2.2.2.1,x3.2.2.2.2.2.2.1,x3.2.1,x3.2.2.1,z.2.2.2.2.2.2.2.2.2.2.2.1,y6,z.2.2.2.2.2.2.2.2.2.2.2.2.2)))
     else none)
    else bif decide ((z.2.1.getD z.2.2.2.1.toNat (0, 0, [], 0, 0)).1 = 2) then ((RW k (z.2.2.2.2.2.2.1.1,z.2.2.2.2.2.2.2.1,z.2.2.2.2.2.2.1.2.1,z.2.2.2.2.2.2.2.2.1,z.2.2.2.2.2.2.1.2.2) (z.2.1.getD z.2.2.2.1.toNat (0,0,[],0,0)).2.2.2).bind fun x7=>
     bif zL (z.2.2.2.2.2.2.2.2.2.2.2.2.1.length + 1) 24 then (let y7:List (List qE):=(z.2.2.2.2.2.2.2.2.2.2.2.2.1++[[]])
      rec (.inl (z.1,z.2.1,z.2.2.1,(zA (z.2.2.2.1+1)),z.2.2.2.2.1,z.2.2.2.2.2.1,(x7.1,x7.2.2.1,x7.2.2.2.2),x7.2.1,x7.2.2.2.1,z.2.2.2.2.2.2.2.2.2.1,z.2.2.2.2.2.2.2.2.2.2.1,z.2.2.2.2.2.2.2.2.2.2.2.1,y7,z.2.2.2.2.2.2.2.2.2.2.2.2.2)))
     else none)
    else bif decide ((z.2.1.getD z.2.2.2.1.toNat (0, 0, [], 0, 0)).1 = 3) then ((nE k (z.2.2.2.2.2.2.1.1,z.2.2.2.2.2.2.2.1,z.2.2.2.2.2.2.1.2.1,z.2.2.2.2.2.2.2.2.1,z.2.2.2.2.2.2.1.2.2)).bind fun x8=>
     (fx k z.2.2.2.2.1 x8 z.1).bind fun x9=>
     match x9 with
     | .inl bW => bif zL (z.2.2.2.2.2.2.2.2.2.2.2.2.1.length + 1) 24 then (let y8:List (List qE):=(z.2.2.2.2.2.2.2.2.2.2.2.2.1++[[]])
       rec (.inl (z.1,z.2.1,z.2.2.1,(zA (z.2.2.2.1+1)),z.2.2.2.2.1,z.2.2.2.2.2.1,(bW.2.1.1,bW.2.1.2.2.1,bW.2.1.2.2.2.2),bW.2.1.2.1,bW.2.1.2.2.2.1,bW.2.2.1,bW.2.2.2,z.2.2.2.2.2.2.2.2.2.2.2.1,y8,z.2.2.2.2.2.2.2.2.2.2.2.2.2)))
      else none
     | .inr dq => bif zL (z.2.2.2.2.2.2.2.2.2.2.2.2.1.length + 1) 24 then (let y9:List (List qE):=(z.2.2.2.2.2.2.2.2.2.2.2.2.1++[[]])
       rec (.inr (z.1,z.2.1,z.2.2.1,(zA (z.2.2.2.1+1)),z.2.2.2.2.1,z.2.2.2.2.2.1,(dq.2.1,dq.2.2.2.1,dq.2.2.2.2.2),dq.2.2.1,dq.2.2.2.2.1,z.2.2.2.2.2.2.2.2.2.2.2.1,y9,z.2.2.2.2.2.2.2.2.2.2.2.2.2)))
      else none)
    else bif zL (z.2.2.2.2.2.2.2.2.2.2.2.2.1.length + 1) 24 then (let y10:List (List qE):=(z.2.2.2.2.2.2.2.2.2.2.2.2.1++[[]])
     rec (.inl (z.1,z.2.1,z.2.2.1,(zA (z.2.2.2.1+1)),(adB z (y10,z.2.2.2.2.2.2.2.2.2.2.2.2.2)))))
    else none)
   else none)
  else some (.inr (z.2.2.2.2.2.1,z.2.2.2.2.2.2.2.2.2.1,z.2.2.2.2.2.2.2.2.2.2.1,z.2.2.2.2.2.2.1,z.2.2.2.2.2.2.2.1,z.2.2.2.2.2.2.2.2.1,z.2.2.2.2.2.2.2.2.2.2.2.1,z.2.2.2.2.2.2.2.2.2.2.2.2.1,z.2.2.2.2.2.2.2.2.2.2.2.2.2))
 | .inr z1 => bif decide (z1.2.2.2.1 < z1.2.2.1) then (bif zB z1.2.2.2.1 z1.2.1.length then (bif decide ((z1.2.1.getD z1.2.2.2.1.toNat (0, 0, [], 0, 0)).1 = 1) then ((yNz k (z1.2.1.getD z1.2.2.2.1.toNat (0,0,[],0,0)).2.1 (z1.2.1.getD z1.2.2.2.1.toNat (0,0,[],0,0)).2.2.1).bind fun dP=>
     (uv k (z1.2.1.getD z1.2.2.2.1.toNat (0,0,[],0,0)).2.2.1).bind fun mz=>
     bif decide (mz.2 = 0) then ((qTu k dP).bind fun oE=>
      bif !oE then (bif decide ((dP.length : Int) > 0) then (bif zL (z1.2.2.2.2.2.2.2.2.2.2.2.length + 1) 64 then (let y11:List qE:=(z1.2.2.2.2.2.2.2.2.2.2.2++[((z1.2.1.getD z1.2.2.2.1.toNat (0,0,[],0,0)).2.1,mz.1)])
         bif zL (z1.2.2.2.2.2.2.2.2.2.2.1.length + 1) 24 then (let y12:List (List qE):=(z1.2.2.2.2.2.2.2.2.2.2.1++[dP])
          rec (.inr (z1.1,z1.2.1,z1.2.2.1,(zA (z1.2.2.2.1+1)),(Ik z1 (y12,y11)))))
         else none)
        else none)
       else(MV k).bind fun bM=>
       bif !bM then (bif zL (z1.2.2.2.2.2.2.2.2.2.2.2.length + 1) 64 then (let y13:List qE:=(z1.2.2.2.2.2.2.2.2.2.2.2++[((z1.2.1.getD z1.2.2.2.1.toNat (0,0,[],0,0)).2.1,mz.1)])
         bif zL (z1.2.2.2.2.2.2.2.2.2.2.1.length + 1) 24 then (let y14:List (List qE):=(z1.2.2.2.2.2.2.2.2.2.2.1++[dP])
          rec (.inr (z1.1,z1.2.1,z1.2.2.1,(zA (z1.2.2.2.1+1)),(Ik z1 (y14,y13)))))
         else none)
        else none)
       else bif zL (z1.2.2.2.2.2.2.2.2.2.2.1.length + 1) 24 then (let y15:List (List qE):=(z1.2.2.2.2.2.2.2.2.2.2.1++[dP])
        rec (.inr (z1.1,z1.2.1,z1.2.2.1,(zA (z1.2.2.2.1+1)),(Ik z1 (y15,z1.2.2.2.2.2.2.2.2.2.2.2)))))
       else none)
      else bif zL (z1.2.2.2.2.2.2.2.2.2.2.1.length + 1) 24 then (let y16:List (List qE):=(z1.2.2.2.2.2.2.2.2.2.2.1++[dP])
       rec (.inr (z1.1,z1.2.1,z1.2.2.1,(zA (z1.2.2.2.1+1)),(Ik z1 (y16,z1.2.2.2.2.2.2.2.2.2.2.2)))))
      else none)
     else bif zL (z1.2.2.2.2.2.2.2.2.2.2.1.length + 1) 24 then (let y17:List (List qE):=(z1.2.2.2.2.2.2.2.2.2.2.1++[dP])
      rec (.inr (z1.1,z1.2.1,z1.2.2.1,(zA (z1.2.2.2.1+1)),(Ik z1 (y17,z1.2.2.2.2.2.2.2.2.2.2.2)))))
     else none)
    else bif decide ((z1.2.1.getD z1.2.2.2.1.toNat (0, 0, [], 0, 0)).1 = 2) then ((RW k (z1.2.2.2.2.2.2.1.1,z1.2.2.2.2.2.2.2.1,z1.2.2.2.2.2.2.1.2.1,z1.2.2.2.2.2.2.2.2.1,z1.2.2.2.2.2.2.1.2.2) (z1.2.1.getD z1.2.2.2.1.toNat (0,0,[],0,0)).2.2.2).bind fun gL=>
     bif zL (z1.2.2.2.2.2.2.2.2.2.2.1.length + 1) 24 then (let y18:List (List qE):=(z1.2.2.2.2.2.2.2.2.2.2.1++[[]])
      rec (.inr (z1.1,z1.2.1,z1.2.2.1,(zA (z1.2.2.2.1+1)),z1.2.2.2.2.1,z1.2.2.2.2.2.1,(gL.1,gL.2.2.1,gL.2.2.2.2),gL.2.1,gL.2.2.2.1,z1.2.2.2.2.2.2.2.2.2.1,y18,z1.2.2.2.2.2.2.2.2.2.2.2)))
     else none)
    else bif decide ((z1.2.1.getD z1.2.2.2.1.toNat (0, 0, [], 0, 0)).1 = 3) then ((nE k (z1.2.2.2.2.2.2.1.1,z1.2.2.2.2.2.2.2.1,z1.2.2.2.2.2.2.1.2.1,z1.2.2.2.2.2.2.2.2.1,z1.2.2.2.2.2.2.1.2.2)).bind fun eE=>
     (fx k z1.2.2.2.2.1 eE z1.1).bind fun mA=>
     match mA with
     | .inl ja => bif zL (z1.2.2.2.2.2.2.2.2.2.2.1.length + 1) 24 then (let y19:List (List qE):=(z1.2.2.2.2.2.2.2.2.2.2.1++[[]])
       rec (.inl (z1.1,z1.2.1,z1.2.2.1,(zA (z1.2.2.2.1+1)),z1.2.2.2.2.1,z1.2.2.2.2.2.1,(ja.2.1.1,ja.2.1.2.2.1,ja.2.1.2.2.2.2),ja.2.1.2.1,ja.2.1.2.2.2.1,ja.2.2.1,ja.2.2.2,z1.2.2.2.2.2.2.2.2.2.1,y19,z1.2.2.2.2.2.2.2.2.2.2.2)))
      else none
     | .inr eF => bif zL (z1.2.2.2.2.2.2.2.2.2.2.1.length + 1) 24 then (let y20:List (List qE):=(z1.2.2.2.2.2.2.2.2.2.2.1++[[]])
       rec (.inr (z1.1,z1.2.1,z1.2.2.1,(zA (z1.2.2.2.1+1)),z1.2.2.2.2.1,z1.2.2.2.2.2.1,(eF.2.1,eF.2.2.2.1,eF.2.2.2.2.2),eF.2.2.1,eF.2.2.2.2.1,z1.2.2.2.2.2.2.2.2.2.1,y20,z1.2.2.2.2.2.2.2.2.2.2.2)))
      else none)
    else bif zL (z1.2.2.2.2.2.2.2.2.2.2.1.length + 1) 24 then (let y21:List (List qE):=(z1.2.2.2.2.2.2.2.2.2.2.1++[[]])
     rec (.inr (z1.1,z1.2.1,z1.2.2.1,(zA (z1.2.2.2.1+1)),(Ik z1 (y21,z1.2.2.2.2.2.2.2.2.2.2.2)))))
    else none)
   else none)
  else some (.inl (z1.2.2.2.2.2.1,z1.2.2.2.2.2.2.2.2.2.1,z1.2.2.2.2.2.2.2.2.2.2.1,z1.2.2.2.2.2.2.2.2.2.2.2))
def Ss (k:Nat):Nat→qMu:=yD (fun _=>none) (yZy k)
def vDz (k:Nat)(a0:vD)(a1 a2:Int)(a3:List oI):Option ((List (List qE))×(List qE)×Int×(List zJ)×EQ×AC×EQ×AC×EQ×(List zC)×AC×Int×Bool×Bool):=
 (Q2 k a1).bind fun x0=>
 (fx k a0 x0 a2).bind fun x1=>
 match x1 with
 |.inl x2=>bif !(decide (x2.1=0)) then some ([],[],0,[],[],[],[],[],[],[],[],0,false,false)
  else(Ss k k (.inl (a2,a3,(a3.length:Int),0,a0,(0,0,false,false),(x2.2.1.1,x2.2.1.2.2.1,x2.2.1.2.2.2.2),x2.2.1.2.1,x2.2.1.2.2.2.1,x2.2.2.1,x2.2.2.2,(0,0,false,false),[],[]))).bind fun z2=>
  match z2 with
  |.inl z3=>(qYh k).bind fun lH=>
   (MV k).bind fun mB=>
   some (z3.2.2.1,z3.2.2.2,(vY lH (!mB)))
  |.inr z4=>(vO k z4.2.1 z4.2.2.1 (z4.2.2.2.1.1,z4.2.2.2.2.1,z4.2.2.2.1.2.1,z4.2.2.2.2.2.1,z4.2.2.2.1.2.2)).bind fun mC=>
   (lg k mC.2.1 mC.2.2.1 mC.2.2.2).bind fun Ms=>
   some (z4.2.2.2.2.2.2.2.1,z4.2.2.2.2.2.2.2.2,(vY mC.1 (!Ms.1)))
 |.inr lI=>bif !(decide (lI.1=0)) then some ([],[],0,[],[],[],[],[],[],[],[],0,false,false)
  else(Ss k k (.inr (a2,a3,(a3.length:Int),0,a0,(0,0,false,false),(lI.2.1,lI.2.2.2.1,lI.2.2.2.2.2),lI.2.2.1,lI.2.2.2.2.1,(0,0,false,false),[],[]))).bind fun z5=>
  match z5 with
  |.inl z6=>(qYh k).bind fun CT=>
   (MV k).bind fun tu=>
   some (z6.2.2.1,z6.2.2.2,(vY CT (!tu)))
  |.inr z7=>(vO k z7.2.1 z7.2.2.1 (z7.2.2.2.1.1,z7.2.2.2.2.1,z7.2.2.2.1.2.1,z7.2.2.2.2.2.1,z7.2.2.2.1.2.2)).bind fun Il=>
   (lg k Il.2.1 Il.2.2.1 Il.2.2.2).bind fun x29=>
   some (z7.2.2.2.2.2.2.2.1,z7.2.2.2.2.2.2.2.2,(vY Il.1 (!x29.1)))
def qTz (k:Nat):Option Bool:=
 (Mq k 0).bind fun x0=>
 (MS k 0 1 [1,1,5,3,0,19]).bind fun x1=>
 (MU k x1).bind fun x2=>
 (MS k 1 1 [2,2,5,3,0,19]).bind fun x3=>
 (MU k x3).bind fun x4=>
 (MS k 2 1 [3,0,5,3,0,19]).bind fun x5=>
 (MU k x5).bind fun x6=>
 (MS k (-1) 13 []).bind fun x7=>
 (MU k x7).bind fun x8=>
 (vDz k x0 50000 10 [x2,x4,x6,x8]).bind fun x9=>
 bif x9.2.2.2.2.2.2.2.2.2.2.2.2.2 then (bif decide ((x9.1.length : Int) = 4) then (bif zB 3 x9.1.length then (bif decide (((x9.1.getD 3 []).length:Int)=6) then some (decide ((x9.2.2.2.2.2.2.2.2.2.1.length:Int)=0))
    else some false)
   else none)
  else some false)
 else some false
abbrev HY:Type:=Int→List oI→Int→(Int×Int×Int×Int)→List wC→tt→AC→AC→nH→fS→yI→Option (Unit⊕Bool)
def HZ (k:Nat)(rec:HY)(s1:Int)(s2:List oI)(bA:Int)(b0:(Int×Int×Int×Int))(r1:List wC)(b2:tt)(r3 r4:AC)(b5:nH)(b6:fS)(b7:yI):Option (Unit⊕Bool):=
 bif decide (bA < (s2.length : Int)) then (bif zB bA s2.length then (bif decide ((s2.getD bA.toNat (0, 0, [], 0, 0)).1 = 2) then ((RW k (b2.1,r3,b2.2.1,r4,b2.2.2) (s2.getD bA.toNat (0,0,[],0,0)).2.2.2).bind fun x6=>
    rec s1 s2 (zA (bA+1)) b0 r1 (x6.1,x6.2.2.1,x6.2.2.2.2) x6.2.1 x6.2.2.2.1 b5 b6 b7)
   else bif decide ((s2.getD bA.toNat (0, 0, [], 0, 0)).1 = 1) then ((Mj k b5 b6 (b2.1,r3,b2.2.1,r4,b2.2.2) (s2.getD bA.toNat (0,0,[],0,0)).2.1 (s2.getD bA.toNat (0,0,[],0,0)).2.2.1).bind fun x7=>
    (JN k (s2.getD bA.toNat (0,0,[],0,0)).2.2.1).bind fun x8=>
    bif decide (x8.2 = 0) then ((LO k (b0.1,r1,b0.2) b7 ((s2.getD bA.toNat (0,0,[],0,0)).2.1,x8.1)).bind fun x9=>
     bif decide ((x7.1.length : Int) > 0) then ((lg k x7.2.1 x7.2.2.1 x7.2.2.2).bind fun bW=>
      bif !bW.1 then ((vO k bW.2.1 bW.2.2.1 bW.2.2.2).bind fun dq=>
       (jP k dq.1 x9.1).bind fun dP=>
       bif !dP then some (.inr false)
       else rec s1 s2 (zA (bA+1)) b0 r1 (dq.2.2.2.1,dq.2.2.2.2.2.1,dq.2.2.2.2.2.2.2) dq.2.2.2.2.1 dq.2.2.2.2.2.2.1 dq.2.1 dq.2.2.1 x9.1)
      else(nE k bW.2.2.2).bind fun mz=>
      (fx k (b0.1,r1,b0.2) mz s1).bind fun oE=>
      match oE with
      |.inl bM=>bif !(decide (bM.1=0)) then some (.inr false)
       else(vO k bM.2.2.1 bM.2.2.2 bM.2.1).bind fun gL=>
       (jP k gL.1 x9.1).bind fun eE=>
       bif !eE then ((vO k gL.2.1 gL.2.2.1 gL.2.2.2).bind fun mA=>
        (jP k mA.1 x9.1).bind fun ja=>
        bif !ja then some (.inr false)
        else(vO k mA.2.1 mA.2.2.1 mA.2.2.2).bind fun eF=>
        (iZ k eF.1).bind fun lH=>
        rec s1 s2 (zA (bA+1)) b0 r1 (eF.2.2.2.1,eF.2.2.2.2.2.1,eF.2.2.2.2.2.2.2) eF.2.2.2.2.1 eF.2.2.2.2.2.2.1 eF.2.1 eF.2.2.1 lH)
       else(vO k gL.2.1 gL.2.2.1 gL.2.2.2).bind fun mB=>
       (iZ k mB.1).bind fun mC=>
       rec s1 s2 (zA (bA+1)) b0 r1 (mB.2.2.2.1,mB.2.2.2.2.2.1,mB.2.2.2.2.2.2.2) mB.2.2.2.2.1 mB.2.2.2.2.2.2.1 mB.2.1 mB.2.2.1 mC
      |.inr Ms=>bif !(decide (Ms.1=0)) then some (.inr false)
       else some (.inr false))
     else(lg k x7.2.1 x7.2.2.1 x7.2.2.2).bind fun lI=>
     bif !lI.1 then ((lg k lI.2.1 lI.2.2.1 lI.2.2.2).bind fun CT=>
      bif !CT.1 then ((vO k CT.2.1 CT.2.2.1 CT.2.2.2).bind fun tu=>
       (jP k tu.1 x9.1).bind fun Il=>
       bif !Il then some (.inr false)
       else rec s1 s2 (zA (bA+1)) b0 r1 (tu.2.2.2.1,tu.2.2.2.2.2.1,tu.2.2.2.2.2.2.2) tu.2.2.2.2.1 tu.2.2.2.2.2.2.1 tu.2.1 tu.2.2.1 x9.1)
      else(nE k CT.2.2.2).bind fun x29=>
      (fx k (b0.1,r1,b0.2) x29 s1).bind fun x30=>
      match x30 with
      |.inl Sx=>bif !(decide (Sx.1=0)) then some (.inr false)
       else(vO k Sx.2.2.1 Sx.2.2.2 Sx.2.1).bind fun CU=>
       (jP k CU.1 x9.1).bind fun x33=>
       bif !x33 then ((vO k CU.2.1 CU.2.2.1 CU.2.2.2).bind fun Sy=>
        (jP k Sy.1 x9.1).bind fun x35=>
        bif !x35 then some (.inr false)
        else(vO k Sy.2.1 Sy.2.2.1 Sy.2.2.2).bind fun zi=>
        (iZ k zi.1).bind fun x37=>
        rec s1 s2 (zA (bA+1)) b0 r1 (zi.2.2.2.1,zi.2.2.2.2.2.1,zi.2.2.2.2.2.2.2) zi.2.2.2.2.1 zi.2.2.2.2.2.2.1 zi.2.1 zi.2.2.1 x37)
       else(vO k CU.2.1 CU.2.2.1 CU.2.2.2).bind fun zj=>
       (iZ k zj.1).bind fun x39=>
       rec s1 s2 (zA (bA+1)) b0 r1 (zj.2.2.2.1,zj.2.2.2.2.2.1,zj.2.2.2.2.2.2.2) zj.2.2.2.2.1 zj.2.2.2.2.2.2.1 zj.2.1 zj.2.2.1 x39
      |.inr x40=>bif !(decide (x40.1=0)) then some (.inr false)
       else some (.inr false))
     else(lg k lI.2.1 lI.2.2.1 lI.2.2.2).bind fun MX=>
     bif !MX.1 then ((vO k MX.2.1 MX.2.2.1 MX.2.2.2).bind fun zk=>
      (jP k zk.1 b7).bind fun x43=>
      bif !x43 then some (.inr false)
      else rec s1 s2 (zA (bA+1)) b0 r1 (zk.2.2.2.1,zk.2.2.2.2.2.1,zk.2.2.2.2.2.2.2) zk.2.2.2.2.1 zk.2.2.2.2.2.2.1 zk.2.1 zk.2.2.1 b7)
     else(nE k MX.2.2.2).bind fun x44=>
     (fx k (b0.1,r1,b0.2) x44 s1).bind fun x45=>
     match x45 with
     |.inl Sz=>bif !(decide (Sz.1=0)) then some (.inr false)
      else(vO k Sz.2.2.1 Sz.2.2.2 Sz.2.1).bind fun CV=>
      (jP k CV.1 b7).bind fun x48=>
      bif !x48 then ((vO k CV.2.1 CV.2.2.1 CV.2.2.2).bind fun SA=>
       (jP k SA.1 x9.1).bind fun x50=>
       bif !x50 then some (.inr false)
       else(vO k SA.2.1 SA.2.2.1 SA.2.2.2).bind fun zl=>
       (iZ k zl.1).bind fun x52=>
       rec s1 s2 (zA (bA+1)) b0 r1 (zl.2.2.2.1,zl.2.2.2.2.2.1,zl.2.2.2.2.2.2.2) zl.2.2.2.2.1 zl.2.2.2.2.2.2.1 zl.2.1 zl.2.2.1 x52)
      else(vO k CV.2.1 CV.2.2.1 CV.2.2.2).bind fun zm=>
      (iZ k zm.1).bind fun x54=>
      rec s1 s2 (zA (bA+1)) b0 r1 (zm.2.2.2.1,zm.2.2.2.2.2.1,zm.2.2.2.2.2.2.2) zm.2.2.2.2.1 zm.2.2.2.2.2.2.1 zm.2.1 zm.2.2.1 x54
     |.inr x55=>bif !(decide (x55.1=0)) then some (.inr false)
      else some (.inr false))
    else bif decide ((x7.1.length : Int) > 0) then ((lg k x7.2.1 x7.2.2.1 x7.2.2.2).bind fun MY=>
     bif !MY.1 then ((vO k MY.2.1 MY.2.2.1 MY.2.2.2).bind fun zn=>
      (jP k zn.1 b7).bind fun x58=>
      bif !x58 then some (.inr false)
      else rec s1 s2 (zA (bA+1)) b0 r1 (zn.2.2.2.1,zn.2.2.2.2.2.1,zn.2.2.2.2.2.2.2) zn.2.2.2.2.1 zn.2.2.2.2.2.2.1 zn.2.1 zn.2.2.1 b7)
     else(nE k MY.2.2.2).bind fun x59=>
     (fx k (b0.1,r1,b0.2) x59 s1).bind fun x60=>
     match x60 with
     |.inl SB=>bif !(decide (SB.1=0)) then some (.inr false)
      else(vO k SB.2.2.1 SB.2.2.2 SB.2.1).bind fun CW=>
      (jP k CW.1 b7).bind fun x63=>
      bif !x63 then ((vO k CW.2.1 CW.2.2.1 CW.2.2.2).bind fun SC=>
       (jP k SC.1 b7).bind fun x65=>
       bif !x65 then some (.inr false)
       else(vO k SC.2.1 SC.2.2.1 SC.2.2.2).bind fun zo=>
       (iZ k zo.1).bind fun x67=>
       rec s1 s2 (zA (bA+1)) b0 r1 (zo.2.2.2.1,zo.2.2.2.2.2.1,zo.2.2.2.2.2.2.2) zo.2.2.2.2.1 zo.2.2.2.2.2.2.1 zo.2.1 zo.2.2.1 x67)
      else(vO k CW.2.1 CW.2.2.1 CW.2.2.2).bind fun zp=>
      (iZ k zp.1).bind fun x69=>
      rec s1 s2 (zA (bA+1)) b0 r1 (zp.2.2.2.1,zp.2.2.2.2.2.1,zp.2.2.2.2.2.2.2) zp.2.2.2.2.1 zp.2.2.2.2.2.2.1 zp.2.1 zp.2.2.1 x69
     |.inr x70=>bif !(decide (x70.1=0)) then some (.inr false)
      else some (.inr false))
    else(lg k x7.2.1 x7.2.2.1 x7.2.2.2).bind fun CX=>
    bif !CX.1 then ((lg k CX.2.1 CX.2.2.1 CX.2.2.2).bind fun MZ=>
     bif !MZ.1 then ((vO k MZ.2.1 MZ.2.2.1 MZ.2.2.2).bind fun zq=>
      (jP k zq.1 b7).bind fun x74=>
      bif !x74 then some (.inr false)
      else rec s1 s2 (zA (bA+1)) b0 r1 (zq.2.2.2.1,zq.2.2.2.2.2.1,zq.2.2.2.2.2.2.2) zq.2.2.2.2.1 zq.2.2.2.2.2.2.1 zq.2.1 zq.2.2.1 b7)
     else(nE k MZ.2.2.2).bind fun x75=>
     (fx k (b0.1,r1,b0.2) x75 s1).bind fun x76=>
     match x76 with
     |.inl SD=>bif !(decide (SD.1=0)) then some (.inr false)
      else(vO k SD.2.2.1 SD.2.2.2 SD.2.1).bind fun CY=>
      (jP k CY.1 b7).bind fun x79=>
      bif !x79 then ((vO k CY.2.1 CY.2.2.1 CY.2.2.2).bind fun SE=>
       (jP k SE.1 b7).bind fun x81=>
       bif !x81 then some (.inr false)
       else(vO k SE.2.1 SE.2.2.1 SE.2.2.2).bind fun zr=>
       (iZ k zr.1).bind fun x83=>
       rec s1 s2 (zA (bA+1)) b0 r1 (zr.2.2.2.1,zr.2.2.2.2.2.1,zr.2.2.2.2.2.2.2) zr.2.2.2.2.1 zr.2.2.2.2.2.2.1 zr.2.1 zr.2.2.1 x83)
      else(vO k CY.2.1 CY.2.2.1 CY.2.2.2).bind fun zt=>
      (iZ k zt.1).bind fun x85=>
      rec s1 s2 (zA (bA+1)) b0 r1 (zt.2.2.2.1,zt.2.2.2.2.2.1,zt.2.2.2.2.2.2.2) zt.2.2.2.2.1 zt.2.2.2.2.2.2.1 zt.2.1 zt.2.2.1 x85
     |.inr x86=>bif !(decide (x86.1=0)) then some (.inr false)
      else some (.inr false))
    else(lg k CX.2.1 CX.2.2.1 CX.2.2.2).bind fun M3=>
    bif !M3.1 then ((vO k M3.2.1 M3.2.2.1 M3.2.2.2).bind fun zu=>
     (jP k zu.1 b7).bind fun x89=>
     bif !x89 then some (.inr false)
     else rec s1 s2 (zA (bA+1)) b0 r1 (zu.2.2.2.1,zu.2.2.2.2.2.1,zu.2.2.2.2.2.2.2) zu.2.2.2.2.1 zu.2.2.2.2.2.2.1 zu.2.1 zu.2.2.1 b7)
    else(nE k M3.2.2.2).bind fun x90=>
    (fx k (b0.1,r1,b0.2) x90 s1).bind fun x91=>
    match x91 with
    |.inl SF=>bif !(decide (SF.1=0)) then some (.inr false)
     else(vO k SF.2.2.1 SF.2.2.2 SF.2.1).bind fun CZ=>
     (jP k CZ.1 b7).bind fun x94=>
     bif !x94 then ((vO k CZ.2.1 CZ.2.2.1 CZ.2.2.2).bind fun SG=>
      (jP k SG.1 b7).bind fun x96=>
      bif !x96 then some (.inr false)
      else(vO k SG.2.1 SG.2.2.1 SG.2.2.2).bind fun zv=>
      (iZ k zv.1).bind fun x98=>
      rec s1 s2 (zA (bA+1)) b0 r1 (zv.2.2.2.1,zv.2.2.2.2.2.1,zv.2.2.2.2.2.2.2) zv.2.2.2.2.1 zv.2.2.2.2.2.2.1 zv.2.1 zv.2.2.1 x98)
     else(vO k CZ.2.1 CZ.2.2.1 CZ.2.2.2).bind fun zw=>
     (iZ k zw.1).bind fun adC=>
     rec s1 s2 (zA (bA+1)) b0 r1 (zw.2.2.2.1,zw.2.2.2.2.2.1,zw.2.2.2.2.2.2.2) zw.2.2.2.2.1 zw.2.2.2.2.2.2.1 zw.2.1 zw.2.2.1 adC
    |.inr adD=>bif !(decide (adD.1=0)) then some (.inr false)
     else some (.inr false))
   else(lg k b5 b6 (b2.1,r3,b2.2.1,r4,b2.2.2)).bind fun rK=>
   bif !rK.1 then ((vO k rK.2.1 rK.2.2.1 rK.2.2.2).bind fun lj=>
    (jP k lj.1 b7).bind fun adE=>
    bif !adE then some (.inr false)
    else rec s1 s2 (zA (bA+1)) b0 r1 (lj.2.2.2.1,lj.2.2.2.2.2.1,lj.2.2.2.2.2.2.2) lj.2.2.2.2.1 lj.2.2.2.2.2.2.1 lj.2.1 lj.2.2.1 b7)
   else(nE k rK.2.2.2).bind fun adF=>
   (fx k (b0.1,r1,b0.2) adF s1).bind fun adG=>
   match adG with
   |.inl vp=>bif !(decide (vp.1=0)) then some (.inr false)
    else(vO k vp.2.2.1 vp.2.2.2 vp.2.1).bind fun mJ=>
    (jP k mJ.1 b7).bind fun adH=>
    bif !adH then ((vO k mJ.2.1 mJ.2.2.1 mJ.2.2.2).bind fun vq=>
     (jP k vq.1 b7).bind fun adI=>
     bif !adI then some (.inr false)
     else(vO k vq.2.1 vq.2.2.1 vq.2.2.2).bind fun lk=>
     (iZ k lk.1).bind fun adJ=>
     rec s1 s2 (zA (bA+1)) b0 r1 (lk.2.2.2.1,lk.2.2.2.2.2.1,lk.2.2.2.2.2.2.2) lk.2.2.2.2.1 lk.2.2.2.2.2.2.1 lk.2.1 lk.2.2.1 adJ)
    else(vO k mJ.2.1 mJ.2.2.1 mJ.2.2.2).bind fun ll=>
    (iZ k ll.1).bind fun adK=>
    rec s1 s2 (zA (bA+1)) b0 r1 (ll.2.2.2.1,ll.2.2.2.2.2.1,ll.2.2.2.2.2.2.2) ll.2.2.2.2.1 ll.2.2.2.2.2.2.1 ll.2.1 ll.2.2.1 adK
   |.inr adL=>bif !(decide (adL.1=0)) then some (.inr false)
    else some (.inr false))
  else none)
 else some (.inl ())
def H0 (k:Nat):Nat→HY:=yD (fun _ _ _ _ _ _ _ _ _ _ _=>none) (HZ k)
def Q6 (k:Nat)(a0 a1:Int)(a2:List oI):Option Bool:=
 (Q5 k a2).bind fun x0=>
 bif x0 then some true
 else bif decide ((a2.length:Int)>50) then some true
 else bif decide (a1<1) then some true
 else bif decide (a1>50) then some true
 else(Mq k a0).bind fun x1=>
 (Q2 k 200000).bind fun x2=>
 (fx k x1 x2 a1).bind fun x3=>
 match x3 with
 |.inl x4=>bif !(decide (x4.1=0)) then some false
  else(Z9 k x1).bind fun x5=>
  (H0 k k a1 a2 0 (x1.1,x1.2.2) x1.2.1 (x4.2.1.1,x4.2.1.2.2.1,x4.2.1.2.2.2.2) x4.2.1.2.1 x4.2.1.2.2.2.1 x4.2.2.1 x4.2.2.2 x5).bind fun z=>
  match z with
  |.inl z1=>(qTz k).bind fun adM=>
   some adM
  |.inr z2=>some z2
 |.inr adN=>bif !(decide (adN.1=0)) then some false
  else some false
end Go.Ab.Gi
