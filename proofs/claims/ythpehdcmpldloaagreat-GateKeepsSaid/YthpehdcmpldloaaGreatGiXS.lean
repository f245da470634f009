/- part 5 -/
import Derived.Test.YthpehdcmpldloaaGreatGiXSa
set_option linter.unusedVariables false
set_option maxRecDepth 100000
namespace Go.Ab.Gi
abbrev qVr:Type:=List zC→Int→List zI→EQ→AC→EQ→List zC→Option qJd
def Gz (k:Nat)(rec:qVr)(s1:List zC)(s2:Int)(af:List zI)(ai:EQ)(aj:AC)(ah:EQ)(r2:List zC):Option qJd:=
 (PG k af ai aj ah s1 s2).bind fun x0=>
 bif !x0.2.2.2.2.2.2.2 then some (s1,af,ai,aj,ah,r2)
 else(uW k af ai aj ah [(wG x0)]).bind fun x1=>
 (nW k s1 x0.1).bind fun x2=>
 bif zQ (r2.length + 1) 56 then (let y0:List zC:=(r2++[(wG x0)])
  rec x2.1 s2 x1.1 x1.2.1 x1.2.2.1 x1.2.2.2.1 y0)
 else none
def KT (k:Nat):Nat→qVr
 |0,_,_,_,_,_,_,_=>none
 |n+1,s1,s2,af,ai,aj,ah,r2=>Gz k (KT k n) s1 s2 af ai aj ah r2
def PH (k:Nat)(av:List zI)(aA:EQ)(az:AC)(ay:EQ)(a1:List zC)(a2:Int):Option tn:=
 (KT k k a1 a2 av aA az ay []).bind fun z=>
 some (iw z (z.1,z.2.2.2.2.2))
abbrev qIp:Type:=(Int×(List zI)×EQ×AC×EQ×Int×Int×Int×Int×Int×Int×Int×Int×Int×Int×Int×Int×Int×Int×(List zC))⊕(Bool×Int×Int×Int×Int×Int×Int×Int×Int×Int×Int×Int×Int×Int×Int)
abbrev qO2:Type:=Int→Int→List zI→EQ→AC→EQ→Int→Int→Int→Int→Int→Int→Int→Int→Int→Int→Int→Int→Int→Int→List zC→Option qIp
def GA (k:Nat)(rec:qO2)(ax aR:Int)(af:List zI)(ai:EQ)(aj:AC)(ah:EQ)(aw aC aD aF aH aI aJ aZ bU bV cU fb fc fe:Int)(r3:List zC):Option qIp:=
 bif decide (aR < (r3.length : Int)) then (bif zB ax r3.length then (bif zB aR r3.length then (bif !(decide ((r3.getD aR.toNat (0,0,0,0,0,0,0)).2.1=(r3.getD ax.toNat (0,0,0,0,0,0,0)).2.2.1)) then(rec ax (zA (aR+1)) af ai aj ah aw aC aD aF aH aI aJ aZ bU bV cU fb fc fe r3)
    else bif !(decide ((r3.getD aR.toNat (0,0,0,0,0,0,0)).2.2.1=(r3.getD ax.toNat (0,0,0,0,0,0,0)).2.1)) then(rec ax (zA (aR+1)) af ai aj ah aw aC aD aF aH aI aJ aZ bU bV cU fb fc fe r3)
    else bif decide ((r3.getD ax.toNat (0,0,0,0,0,0,0)).2.1≥(r3.getD aR.toNat (0,0,0,0,0,0,0)).2.1) then(rec ax (zA (aR+1)) af ai aj ah aw aC aD aF aH aI aJ aZ bU bV cU fb fc fe r3)
    else(uW k af ai aj ah [(r3.getD ax.toNat (0,0,0,0,0,0,0)),(r3.getD aR.toNat (0,0,0,0,0,0,0))]).bind fun x1=>
    bif x1.2.2.2.2 then some (.inr (true,(ir (r3.getD ax.toNat (0,0,0,0,0,0,0)) ((r3.getD aR.toNat (0,0,0,0,0,0,0)).1,(r3.getD aR.toNat (0,0,0,0,0,0,0)).2.1,(r3.getD aR.toNat (0,0,0,0,0,0,0)).2.2.1,(r3.getD aR.toNat (0,0,0,0,0,0,0)).2.2.2.1,(r3.getD aR.toNat (0,0,0,0,0,0,0)).2.2.2.2.1,(r3.getD aR.toNat (0,0,0,0,0,0,0)).2.2.2.2.2.1,(r3.getD aR.toNat (0,0,0,0,0,0,0)).2.2.2.2.2.2))))
    else rec ax (zA (aR+1)) af ai aj ah aw aC aD aF aH aI aJ aZ bU bV cU fb fc fe r3)
   else none)
  else none)
 else some (.inl (ax,af,ai,aj,ah,aw,aC,aD,aF,aH,aI,aJ,aZ,bU,bV,cU,fb,fc,fe,r3))
def KV (k:Nat):Nat→qO2
 |0,_,_,_,_,_,_,_,_,_,_,_,_,_,_,_,_,_,_,_,_,_=>none
 |n+1,ax,aR,af,ai,aj,ah,aw,aC,aD,aF,aH,aI,aJ,aZ,bU,bV,cU,fb,fc,fe,r3=>GA k (KV k n) ax aR af ai aj ah aw aC aD aF aH aI aJ aZ bU bV cU fb fc fe r3
abbrev qWp:Type:=(Int×Int×Int×Int×Int×Int×Int×Int×Int×Int×Int×Int×Int×Int)⊕(Bool×Int×Int×Int×Int×Int×Int×Int×Int×Int×Int×Int×Int×Int×Int)
abbrev qW4:Type:=Int→List zI→EQ→AC→EQ→Int→Int→Int→Int→Int→Int→Int→Int→Int→Int→Int→Int→Int→Int→List zC→Option qWp
def GB (k:Nat)(rec:qW4)(ax:Int)(af:List zI)(ai:EQ)(aj:AC)(ah:EQ)(aw aC aD aF aH aI aJ aZ bU bV cU fb fc fe:Int)(r3:List zC):Option qWp:=
 bif decide (ax < (r3.length : Int)) then ((KV k k ax 0 af ai aj ah aw aC aD aF aH aI aJ aZ bU bV cU fb fc fe r3).bind fun z=>
  match z with
  |.inl z1=>rec (zA (z1.1+1)) z1.2.1 z1.2.2.1 z1.2.2.2.1 z1.2.2.2.2.1 z1.2.2.2.2.2.1 z1.2.2.2.2.2.2.1 z1.2.2.2.2.2.2.2.1 z1.2.2.2.2.2.2.2.2.1 z1.2.2.2.2.2.2.2.2.2.1 z1.2.2.2.2.2.2.2.2.2.2.1 z1.2.2.2.2.2.2.2.2.2.2.2.1 z1.2.2.2.2.2.2.2.2.2.2.2.2.1 z1.2.2.2.2.2.2.2.2.2.2.2.2.2.1 z1.2.2.2.2.2.2.2.2.2.2.2.2.2.2.1 z1.2.2.2.2.2.2.2.2.2.2.2.2.2.2.2.1 z1.2.2.2.2.2.2.2.2.2.2.2.2.2.2.2.2.1 z1.2.2.2.2.2.2.2.2.2.2.2.2.2.2.2.2.2.1 z1.2.2.2.2.2.2.2.2.2.2.2.2.2.2.2.2.2.2.1 z1.2.2.2.2.2.2.2.2.2.2.2.2.2.2.2.2.2.2.2
  |.inr z2=>some (.inr (z2.1,z2.2.1,z2.2.2.1,z2.2.2.2.1,z2.2.2.2.2.1,z2.2.2.2.2.2.1,z2.2.2.2.2.2.2.1,z2.2.2.2.2.2.2.2.1,z2.2.2.2.2.2.2.2.2.1,z2.2.2.2.2.2.2.2.2.2.1,z2.2.2.2.2.2.2.2.2.2.2.1,z2.2.2.2.2.2.2.2.2.2.2.2.1,z2.2.2.2.2.2.2.2.2.2.2.2.2.1,z2.2.2.2.2.2.2.2.2.2.2.2.2.2.1,z2.2.2.2.2.2.2.2.2.2.2.2.2.2.2)))
 else some (.inl (aw,aC,aD,aF,aH,aI,aJ,aZ,bU,bV,cU,fb,fc,fe))
def KW (k:Nat):Nat→qW4
 |0,_,_,_,_,_,_,_,_,_,_,_,_,_,_,_,_,_,_,_,_=>none
 |n+1,ax,af,ai,aj,ah,aw,aC,aD,aF,aH,aI,aJ,aZ,bU,bV,cU,fb,fc,fe,r3=>GB k (KW k n) ax af ai aj ah aw aC aD aF aH aI aJ aZ bU bV cU fb fc fe r3
def PI (k:Nat)(av:List zI)(aA:EQ)(az:AC)(ay:EQ)(a1:List zC)(a2:Int):Option (Int×Int×Int×Int×Int×Int×Int×Int×Int×Int×Int×Int×Int×Int×Bool):=
 (JQ k a1 a2).bind fun x0=>
 (KW k k 0 av aA az ay 0 0 0 0 0 0 0 0 0 0 0 0 0 0 x0).bind fun z3=>
 match z3 with
 |.inl z4=>some (0,0,0,0,0,0,0,0,0,0,0,0,0,0,false)
 |.inr z5=>some (vI1 z5 z5.1)
def GC (k:Nat)(rec:qVr)(s1:List zC)(s2:Int)(af:List zI)(ai:EQ)(aj:AC)(ah:EQ)(r2:List zC):Option qJd:=
 (PI k af ai aj ah s1 s2).bind fun x0=>
 bif !x0.2.2.2.2.2.2.2.2.2.2.2.2.2.2 then some (s1,af,ai,aj,ah,r2)
 else(uW k af ai aj ah [(wG x0),(qKu x0)]).bind fun x1=>
 (nW k s1 x0.1).bind fun x2=>
 (nW k x2.1 x0.2.2.2.2.2.2.2.1).bind fun x3=>
 bif zQ (r2.length + 2) 56 then (let y0:List zC:=(r2++[(wG x0),(qKu x0)])
  rec x3.1 s2 x1.1 x1.2.1 x1.2.2.1 x1.2.2.2.1 y0)
 else none
def KX (k:Nat):Nat→qVr
 |0,_,_,_,_,_,_,_=>none
 |n+1,s1,s2,af,ai,aj,ah,r2=>GC k (KX k n) s1 s2 af ai aj ah r2
def PJ (k:Nat)(av:List zI)(aA:EQ)(az:AC)(ay:EQ)(a1:List zC)(a2:Int):Option tn:=
 (KX k k a1 a2 av aA az ay []).bind fun z=>
 some (iw z (z.1,z.2.2.2.2.2))
def GN (k:Nat)(rec:qVr)(s1:List zC)(s2:Int)(af:List zI)(ai:EQ)(aj:AC)(ah:EQ)(r2:List zC):Option qJd:=
 (PH k af ai aj ah s1 s2).bind fun x0=>
 (PJ k x0.1 x0.2.1 x0.2.2.1 x0.2.2.2.1 x0.2.2.2.2.1 s2).bind fun x1=>
 bif zQ (r2.length + x0.2.2.2.2.2.length) 56 then (bif zQ ((r2 ++ x0.2.2.2.2.2).length + x1.2.2.2.2.2.length) 56 then (let y0:List zC:=((r2++x0.2.2.2.2.2)++x1.2.2.2.2.2)
   bif decide ((x1.2.2.2.2.2.length:Int)=0) then some (x1.2.2.2.2.1,(vL x1 y0))
   else rec x1.2.2.2.2.1 s2 x1.1 x1.2.1 x1.2.2.1 x1.2.2.2.1 y0)
  else none)
 else none
def K0 (k:Nat):Nat→qVr
 |0,_,_,_,_,_,_,_=>none
 |n+1,s1,s2,af,ai,aj,ah,r2=>GN k (K0 k n) s1 s2 af ai aj ah r2
def K1 (k:Nat)(av:List zI)(aA:EQ)(az:AC)(ay:EQ)(a1:List zC)(a2:Int):Option tn:=
 (K0 k k a1 a2 av aA az ay []).bind fun z=>
 some (iw z (z.1,z.2.2.2.2.2))
abbrev qM6:Type:=List zC→AC→Int→List zC→Option Y4
def GH (k:Nat)(rec:qM6)(s0:List zC)(s1:AC)(s6:Int)(r0:List zC):Option Y4:=
 bif decide (s6 < (s0.length : Int)) then (bif (decide (0 ≤ s6)) && (decide (s6 ≤ (s0.length : Int))) then (bif zB s6 s0.length then ((uA k (List.take s6.toNat s0) (s0.getD s6.toNat (0,0,0,0,0,0,0)).2.1).bind fun x0=>
    bif zB s6 s0.length then (bif decide ((s0.getD s6.toNat (0, 0, 0, 0, 0, 0, 0)).2.1 ≥ 0) then (bif zB s6 s0.length then (bif decide ((s0.getD s6.toNat (0, 0, 0, 0, 0, 0, 0)).2.1 < (s1.length : Int)) then (bif zB s6 s0.length then (bif zB (s0.getD s6.toNat (0, 0, 0, 0, 0, 0, 0)).2.1 s1.length then (bif decide ((x0.length : Int) < (s1.getD (s0.getD s6.toNat (0, 0, 0, 0, 0, 0, 0)).2.1.toNat 0)) then (bif zB s6 s0.length then (bif zQ (r0.length + 1) 56 then (let y0:List zC:=(r0++[(s0.getD s6.toNat (0,0,0,0,0,0,0))])
             rec s0 s1 (zA (s6+1)) y0)
            else none)
           else none)
          else rec s0 s1 (zA (s6+1)) r0)
         else none)
        else none)
       else rec s0 s1 (zA (s6+1)) r0)
      else none)
     else rec s0 s1 (zA (s6+1)) r0)
    else none)
   else none)
  else none)
 else some r0
def GG (k:Nat):Nat→qM6
 |0,_,_,_,_=>none
 |n+1,s0,s1,s6,r0=>GH k (GG k n) s0 s1 s6 r0
def GD (k:Nat)(a0:List zC)(a1:AC):Option (List zC):=
 (GG k k a0 a1 0 []).bind fun z=>
 some z
abbrev qUn:Type:=(List zI)×EQ×AC×EQ×(List zC)×AC
abbrev qOw:Type:=Int→List zI→EQ→AC→EQ→List zC→AC→Option qUn
def GI (k:Nat)(rec:qOw)(ax:Int)(af:List zI)(ai:EQ)(aj:AC)(ah:EQ)(r1:List zC)(r2:AC):Option qUn:=
 bif decide (ax < (af.length : Int)) then ((uA k r1 ax).bind fun x1=>
  bif zQ (r2.length+1) 8 then(rec (zA (ax+1)) af ai aj ah r1 (r2++[(x1.length:Int)]))
  else none)
 else some (af,ai,aj,ah,r1,r2)
def BU (k:Nat):Nat→qOw
 |0,_,_,_,_,_,_,_=>none
 |n+1,ax,af,ai,aj,ah,r1,r2=>GI k (BU k n) ax af ai aj ah r1 r2
abbrev qUh:Type:=Int×(List zI)×EQ×AC×EQ×(List zC)×AC
abbrev qMj:Type:=Int→Int→List zI→EQ→AC→EQ→List zC→AC→AC→Option qUh
def GK (k:Nat)(rec:qMj)(aR bA:Int)(af:List zI)(ai:EQ)(aj:AC)(ah:EQ)(r1:List zC)(r2 r3:AC):Option qUh:=
 bif decide (bA < (r3.length : Int)) then (bif zB bA r3.length then (bif zB (r3.getD bA.toNat 0) r2.length then (bif zB (r3.getD bA.toNat 0) r2.length then (let y0:AC:=(r2.set (r3.getD bA.toNat 0).toNat (zA ((r2.getD (r3.getD bA.toNat 0).toNat 0)-1)))
     rec aR (zA (bA+1)) af ai aj ah r1 y0 r3)
    else none)
   else none)
  else none)
 else some (aR,af,ai,aj,ah,r1,r2)
def GJ (k:Nat):Nat→qMj
 |0,_,_,_,_,_,_,_,_,_=>none
 |n+1,aR,bA,af,ai,aj,ah,r1,r2,r3=>GK k (GJ k n) aR bA af ai aj ah r1 r2 r3
abbrev qJe:Type:=Int→List zI→EQ→AC→EQ→List zC→AC→Option (Int×AC)
def GL (k:Nat)(rec:qJe)(aR:Int)(af:List zI)(ai:EQ)(aj:AC)(ah:EQ)(r1:List zC)(r2:AC):Option (Int×AC):=
 (GD k r1 r2).bind fun x2=>
 (ux k af ai aj ah x2).bind fun x3=>
 bif decide ((x3.length:Int)=0) then some (aR,r2)
 else(GJ k k aR 0 af ai aj ah r1 r2 x3).bind fun z1=>
 rec (zA (z1.1+1)) z1.2.1 z1.2.2.1 z1.2.2.2.1 z1.2.2.2.2.1 z1.2.2.2.2.2.1 z1.2.2.2.2.2.2
def KY (k:Nat):Nat→qJe
 |0,_,_,_,_,_,_,_=>none
 |n+1,aR,af,ai,aj,ah,r1,r2=>GL k (KY k n) aR af ai aj ah r1 r2
def PK (k:Nat)(av:List zI)(aA:EQ)(az:AC)(ay:EQ)(a1:List zC)(a2:Int):Option (AC×Int):=
 (EV k a1 a2).bind fun x0=>
 (BU k k 0 av aA az ay x0 []).bind fun z=>
 (KY k k 1 z.1 z.2.1 z.2.2.1 z.2.2.2.1 z.2.2.2.2.1 z.2.2.2.2.2).bind fun z2=>
 some (z2.2,z2.1)
abbrev qNf:Type:=(List zC)×(List zC)×(List zI)×EQ×AC×EQ
abbrev qVf:Type:=List zC→Int→List zC→List zI→EQ→AC→EQ→Option qNf
def GM (k:Nat)(rec:qVf)(s1:List zC)(bE:Int)(r1:List zC)(aZ:List zI)(bU:EQ)(bV:AC)(cU:EQ):Option qNf:=
 bif decide (bE < (r1.length : Int)) then (bif zB bE r1.length then ((nW k s1 (r1.getD bE.toNat (0,0,0,0,0,0,0)).1).bind fun x4=>
   rec x4.1 (zA (bE+1)) r1 aZ bU bV cU)
  else none)
 else some (s1,r1,aZ,bU,bV,cU)
def BV (k:Nat):Nat→qVf
 |0,_,_,_,_,_,_,_=>none
 |n+1,s1,bE,r1,aZ,bU,bV,cU=>GM k (BV k n) s1 bE r1 aZ bU bV cU
def KZ (k:Nat)(av:List zI)(aA:EQ)(az:AC)(ay:EQ)(a1:List zC)(a2:Int):Option tn:=
 (PK k av aA az ay a1 a2).bind fun x0=>
 (EV k a1 a2).bind fun x1=>
 (GD k x1 x0.1).bind fun x2=>
 (Bf k av aA az ay x2).bind fun x3=>
 bif !(decide (x3.2.2.2.2=0)) then some (av,aA,az,ay,a1,[])
 else(BV k k a1 0 x2 x3.1 x3.2.1 x3.2.2.1 x3.2.2.2.1).bind fun z=>
 some (BN z (z.1,z.2.1))
def PM (k:Nat)(av:List zI)(aA:EQ)(az:AC)(ay:EQ)(a1:List zC)(a2:Int)(a3:Bool):Option tn:=
 (K1 k av aA az ay a1 a2).bind fun x0=>
 bif !a3 then some (x0.1,x0.2.1,x0.2.2.1,x0.2.2.2.1,x0.2.2.2.2.1,x0.2.2.2.2.2)
 else(KZ k x0.1 x0.2.1 x0.2.2.1 x0.2.2.2.1 x0.2.2.2.2.1 a2).bind fun x1=>
 bif decide ((x1.2.2.2.2.2.length:Int)=0) then some (x0.1,x0.2.1,x0.2.2.1,x0.2.2.2.1,x0.2.2.2.2.1,x0.2.2.2.2.2)
 else(K1 k x1.1 x1.2.1 x1.2.2.1 x1.2.2.2.1 x1.2.2.2.2.1 a2).bind fun x2=>
 bif zQ (x0.2.2.2.2.2.length + x1.2.2.2.2.2.length) 56 then (bif zQ ((x0.2.2.2.2.2 ++ x1.2.2.2.2.2).length + x2.2.2.2.2.2.length) 56 then (let y0:List zC:=((x0.2.2.2.2.2++x1.2.2.2.2.2)++x2.2.2.2.2.2)
   some (tl x2 y0))
  else none)
 else none
abbrev qIt:Type:=List zC→Int→List qP→Option qMa
def FP (k:Nat)(rec:qIt)(s0:List zC)(s4:Int)(r0:List qP):Option qMa:=
 bif decide (s4 < (s0.length : Int)) then (bif zB s4 s0.length then ((wU k 18 [(s0.getD s4.toNat (0,0,0,0,0,0,0)).1,(s0.getD s4.toNat (0,0,0,0,0,0,0)).2.1,(s0.getD s4.toNat (0,0,0,0,0,0,0)).2.2.1,(s0.getD s4.toNat (0,0,0,0,0,0,0)).2.2.2.1]).bind fun x0=>
   bif zQ (r0.length + 2) 64 then (let y0:List qP:=(r0++[((s0.getD s4.toNat (0,0,0,0,0,0,0)).2.1,x0),((s0.getD s4.toNat (0,0,0,0,0,0,0)).2.2.1,x0)])
    rec s0 (zA (s4+1)) y0)
   else none)
  else none)
 else some r0
def Kn (k:Nat):Nat→qIt
 |0,_,_,_=>none
 |n+1,s0,s4,r0=>FP k (Kn k n) s0 s4 r0
def OZ (k:Nat)(a0:List zC):Option (List qP):=
 (Kn k k a0 0 []).bind fun z=>
 some z
def nX (k:Nat)(mo:Int)(qx:List zI)(qy:EQ)(qz:AC)(re:EQ)(rf:AC)(rj:EQ)(mq:List zC)(rp:AC)(rq:Int)(rr a1:Bool):Option Ro:=
 (PM k qx qy qz re mq mo a1).bind fun x0=>
 (OZ k x0.2.2.2.2.2).bind fun x1=>
 some (mo,(vL x0 (rf,rj,x0.2.2.2.2.1,rp,rq,rr,x1)))
abbrev qKk:Type:=vH×vM×(List qP)
abbrev qMu:Type:=List zC→Int→vH→vM→List qP→Option qKk
def GP (k:Nat)(rec:qMu)(s7:List zC)(s8:Int)(b0:vH)(b1:vM)(r2:List qP):Option qKk:=
 bif decide (s8 < (s7.length : Int)) then (bif zB s8 s7.length then (bif zB s8 s7.length then ((wU k 22 [(s7.getD s8.toNat (0,0,0,0,0,0,0)).1]).bind fun x1=>
    bif zQ (r2.length + 1) 64 then (let y0:List qP:=(r2++[((s7.getD s8.toNat (0,0,0,0,0,0,0)).2.1,x1)])
     rec s7 (zA (s8+1)) b0 b1 y0)
    else none)
   else none)
  else none)
 else some (b0,b1,r2)
def yd (k:Nat):Nat→qMu:=yR (fun _ _ _ _ _=>none) (GP k)
abbrev qWi:Type:=Int→vH→vM→List qP→Option qKk
def GQ (k:Nat)(rec:qWi)(s9:Int)(b0:vH)(b1:vM)(r2:List qP):Option qKk:=
 bif decide (s9 < (b0.2.1.length : Int)) then (bif zB s9 b0.2.1.length then ((wU k 23 [(b0.2.1.getD s9.toNat (0,0,0)).1]).bind fun x2=>
   bif zQ (r2.length+1) 64 then(rec (zA (s9+1)) b0 b1 (r2++[(s9,x2)]))
   else none)
  else none)
 else some (b0,b1,r2)
def ye (k:Nat):Nat→qWi:=yR (fun _ _ _ _=>none) (GQ k)
abbrev qSi:Type:=vQ×vH×vM×(List qP)
abbrev qR3:Type:=List zC→Int→vQ→vH→vM→List qP→Option qSi
def GR (k:Nat)(rec:qR3)(s7:List zC)(ax:Int)(b0:vQ)(b1:vH)(b2:vM)(r3:List qP):Option qSi:=
 bif decide (ax < (s7.length : Int)) then (bif zB ax s7.length then ((W8 k (s7.getD ax.toNat (0,0,0,0,0,0,0)).1 (s7.getD ax.toNat (0,0,0,0,0,0,0)).2.1 (s7.getD ax.toNat (0,0,0,0,0,0,0)).2.2.1 (s7.getD ax.toNat (0,0,0,0,0,0,0)).2.2.2.1 (s7.getD ax.toNat (0,0,0,0,0,0,0)).2.2.2.2.1 (s7.getD ax.toNat (0,0,0,0,0,0,0)).2.2.2.2.2.1 (s7.getD ax.toNat (0,0,0,0,0,0,0)).2.2.2.2.2.2 b1.1).bind fun x3=>
   bif x3 then (bif zB ax s7.length then (bif zB ax s7.length then ((wU k 21 [(s7.getD ax.toNat (0,0,0,0,0,0,0)).1]).bind fun x4=>
      bif zQ (r3.length + 1) 64 then (let y1:List qP:=(r3++[((s7.getD ax.toNat (0,0,0,0,0,0,0)).2.1,x4)])
       bif zB ax s7.length then ((nW k b1.2.2.2.2.2.2.2.1 (s7.getD ax.toNat (0,0,0,0,0,0,0)).1).bind fun x5=>
        rec s7 (zA (ax+1)) b0 (ke b1 (x5.1,b1.2.2.2.2.2.2.2.2)) b2 y1)
       else none)
      else none)
     else none)
    else none)
   else rec s7 (zA (ax+1)) b0 b1 b2 r3)
  else none)
 else some (b0,b1,b2,r3)
def uX (k:Nat):Nat→qR3:=yR (fun _ _ _ _ _ _=>none) (GR k)
def GS (k:Nat)(a0:vQ)(a1:vH):Option (vH×(List qP)):=
 bif a1.2.2.2.2.2.2.2.2.2.2 then some (a1,[])
 else(PN k a0 (zA (a1.1+1))).bind fun x0=>
 bif x0 then ((yd k k a1.2.2.2.2.2.2.2.1 0 ((zA (a1.1+1)),a1.2) (0,0,false) []).bind fun z=>
  (ye k k 0 z.1 z.2.1 z.2.2).bind fun z1=>
  some ((ke z1.1 ([],z1.1.2.2.2.2.2.2.2.2.1,z1.1.2.2.2.2.2.2.2.2.2.1,true)),z1.2.2))
 else(uX k k a1.2.2.2.2.2.2.2.1 0 a0 ((zA (a1.1+1)),a1.2) (0,0,false) []).bind fun z2=>
 (K2 k z2.1 z2.2.1.1).bind fun x6=>
 (nX k z2.2.1.1 z2.2.1.2.1 z2.2.1.2.2.1 z2.2.1.2.2.2.1 z2.2.1.2.2.2.2.1 z2.2.1.2.2.2.2.2.1 z2.2.1.2.2.2.2.2.2.1 z2.2.1.2.2.2.2.2.2.2.1 z2.2.1.2.2.2.2.2.2.2.2.1 z2.2.1.2.2.2.2.2.2.2.2.2.1 z2.2.1.2.2.2.2.2.2.2.2.2.2 x6).bind fun x7=>
 bif zQ (z2.2.2.2.length + x7.2.2.2.2.2.2.2.2.2.2.2.length) 64 then (let y2:List qP:=(z2.2.2.2++x7.2.2.2.2.2.2.2.2.2.2.2)
  some ((qV x7),y2))
 else none
def uT (k:Nat)(a0:vg)(a1:Int):Option Int:=
 bif decide (a1<0) then some (-1)
 else bif decide (a1≥a0.1) then some (-1)
 else some a1
def Gu (k:Nat)(a0:vQ)(a1 a2:Int):Option Int:=
 bif decide (a1≥a0.2.2.2.1) then some 7
 else bif decide (a2 = 3) then (bif decide (a1≥a0.2.2.1) then some 7
  else some 0)
 else some 0
def BP (k:Nat)(a0:vQ)(a1:Int)(a2:zC):Option Int:=
 bif decide (a2.1<1) then some 1
 else bif decide (a2.2.1<0) then some 1
 else bif decide (a2.2.1≥a0.1) then some 1
 else bif decide (a2.2.2.1<0) then some 1
 else bif decide (a2.2.2.1≥a0.1) then some 1
 else bif decide (a2.2.1=a2.2.2.1) then some 1
 else bif decide (a2.2.2.2.1<1) then some 1
 else bif decide (a2.2.2.2.1>1099511627776) then some 1
 else bif decide (a2.2.2.2.2.1<1) then some 1
 else bif decide (a2.2.2.2.2.1>3) then some 1
 else bif decide (a2.2.2.2.2.2.1<0) then some 1
 else bif decide (a2.2.2.2.2.2.1>a2.2.2.2.2.2.2) then some 1
 else bif decide (a2.2.2.2.2.2.2<a1) then some 1
 else bif decide (a2.2.2.2.2.2.2>1048576) then some 1
 else(Gu k a0 a1 a2.2.2.2.2.1).bind fun x0=>
 some x0
def Gk (k:Nat)(rec:YX)(s0:AC)(s1 s5:Int):Option (Unit⊕Bool):=
 bif decide (s5 < (s0.length : Int)) then (bif zB s5 s0.length then (bif decide ((s0.getD s5.toNat 0)=s1) then some (.inr true)
   else rec s0 s1 (zA (s5+1)))
  else none)
 else some (.inl ())
def Gj (k:Nat):Nat→YX:=yR (fun _ _ _=>none) (Gk k)
def Pv (k:Nat)(a0:AC)(a1:Int):Option Bool:=
 (Gj k k a0 a1 0).bind fun z=>
 match z with
 |.inl z1=>some false
 |.inr z2=>some z2
abbrev qWm:Type:=AC→Int→Int→Option (AC×Int×Int)
def Gl (k:Nat)(rec:qWm)(s0:AC)(s1 s6:Int):Option (AC×Int×Int):=
 bif decide (s6 < (s0.length : Int)) then (bif zB s6 s0.length then (bif decide ((s0.getD s6.toNat 0)<s1) then(rec s0 s1 (zA (s6+1)))
   else some (s0,s1,s6))
  else none)
 else some (s0,s1,s6)
def KM (k:Nat):Nat→qWm:=yR (fun _ _ _=>none) (Gl k)
def BK (k:Nat)(a0:AC)(a1:Int):Option (AC×Int):=
 (Pv k a0 a1).bind fun x0=>
 bif x0 then some (a0,6)
 else bif decide ((a0.length:Int)≥200) then some (a0,3)
 else(KM k k a0 a1 0).bind fun z=>
 bif (decide (0 ≤ z.2.2)) && (decide (z.2.2 ≤ (z.1.length : Int))) then (bif zQ (0 + (List.take z.2.2.toNat z.1).length) 8 then (bif zQ ((List.take z.2.2.toNat z.1).length + 1) 8 then (bif (decide (0 ≤ z.2.2)) && (decide (z.2.2 ≤ (z.1.length : Int))) then (bif zQ (((List.take z.2.2.toNat z.1) ++ [z.2.1]).length + (List.drop z.2.2.toNat z.1).length) 8 then (let y0:AC:=(((List.take z.2.2.toNat z.1)++[z.2.1])++(List.drop z.2.2.toNat z.1))
      some (y0,0))
     else none)
    else none)
   else none)
  else none)
 else none
def KF (k:Nat)(cd bg bC ct bO ca bR gP cw du ek dv iV iW:Int):Option Bool:=
 bif decide (bg<cw) then some true
 else bif decide (bg=cw) then some (decide (bO≤dv))
 else some false
abbrev qWj:Type:=List zC→Int→Int→Int→Int→Int→Int→Int→Int→Option Int
def Gg (k:Nat)(rec:qWj)(s0:List zC)(s5 af ai aj ah aY bp bq:Int):Option Int:=
 bif decide (s5 < (s0.length : Int)) then (bif zB s5 s0.length then ((KF k (s0.getD s5.toNat (0,0,0,0,0,0,0)).1 (s0.getD s5.toNat (0,0,0,0,0,0,0)).2.1 (s0.getD s5.toNat (0,0,0,0,0,0,0)).2.2.1 (s0.getD s5.toNat (0,0,0,0,0,0,0)).2.2.2.1 (s0.getD s5.toNat (0,0,0,0,0,0,0)).2.2.2.2.1 (s0.getD s5.toNat (0,0,0,0,0,0,0)).2.2.2.2.2.1 (s0.getD s5.toNat (0,0,0,0,0,0,0)).2.2.2.2.2.2 af ai aj ah aY bp bq).bind fun x0=>
   bif x0 then(rec s0 (zA (s5+1)) af ai aj ah aY bp bq)
   else some s5)
  else none)
 else some s5
def Gf (k:Nat):Nat→qWj
 |0,_,_,_,_,_,_,_,_,_=>none
 |n+1,s0,s5,af,ai,aj,ah,aY,bp,bq=>Gg k (Gf k n) s0 s5 af ai aj ah aY bp bq
def Ge (k:Nat)(a0:List zC)(gP cw du ek dv iV iW:Int):Option Int:=
 (Gf k k a0 0 gP cw du ek dv iV iW).bind fun z=>
 some z
def BI (k:Nat)(a0:List zC)(a1 aaZ aa0 aa1 aa2 aa3 aa4 aa5:Int):Option (List zC):=
 bif (decide (0 ≤ a1)) && (decide (a1 ≤ (a0.length : Int))) then (bif zQ (0 + (List.take a1.toNat a0).length) 56 then (bif zQ ((List.take a1.toNat a0).length + 1) 56 then (let y0:List zC:=((List.take a1.toNat a0)++[(aaZ,aa0,aa1,aa2,aa3,aa4,aa5)])
    bif (decide (0 ≤ a1)) && (decide (a1 ≤ (a0.length : Int))) then (bif zQ (y0.length+(List.drop a1.toNat a0).length) 56 then some (y0++(List.drop a1.toNat a0))
     else none)
    else none)
   else none)
  else none)
 else none
def BJ (k:Nat)(a0:List zC)(gP cw du ek dv iV iW:Int):Option ((List zC)×Int):=
 (mW k a0 gP).bind fun x0=>
 bif decide (x0≥0) then some (a0,6)
 else bif decide ((a0.length:Int)≥40) then some (a0,3)
 else(Ge k a0 gP cw du ek dv iV iW).bind fun x1=>
 (BI k a0 x1 gP cw du ek dv iV iW).bind fun x2=>
 some (x2,0)
def PB (k:Nat)(a0:ru)(a1:LW):Option (Int×vg):=
 (uT k (yE a0 ([],a0.2.2.2.2.2.2.2.2.2.2.2.2.2.2.2.2.2)) a1.2.1).bind fun x0=>
 bif decide (a1.2.2.2.1 ≥ 1) then (bif decide (a1.2.2.2.1 ≤ 3) then ((BP k (yV a0) a0.2.2.2.2.2.1 (a1.1,a0.2.2.2.2.2.2.2.2.2.2.2.2.2.2.2.2.1,x0,a1.2.2)).bind fun x1=>
   bif !(decide (x1=0)) then some (x1,(yE a0 ([],a0.2.2.2.2.2.2.2.2.2.2.2.2.2.2.2.2.2)))
   else(BK k a0.2.2.2.2.2.2.2.2.2.2.2.2.2.1 a1.1).bind fun x2=>
   bif !(decide (x2.2=0)) then some (x2.2,(yE a0 ([],a0.2.2.2.2.2.2.2.2.2.2.2.2.2.2.2.2.2)))
   else(BJ k a0.2.2.2.2.2.2.2.2.2.2.2.2.1 a1.1 a0.2.2.2.2.2.2.2.2.2.2.2.2.2.2.2.2.1 x0 a1.2.2.1 a1.2.2.2.1 a1.2.2.2.2.1 a1.2.2.2.2.2).bind fun x3=>
   bif !(decide (x3.2=0)) then some (x3.2,(yE a0 ([],a0.2.2.2.2.2.2.2.2.2.2.2.2.2.2.2.2.2)))
   else some (0,(kl a0 (x3.1,x2.1,a0.2.2.2.2.2.2.2.2.2.2.2.2.2.2.1,a0.2.2.2.2.2.2.2.2.2.2.2.2.2.2.2.1,a0.2.2.2.2.2.2.2.2.2.2.2.2.2.2.2.2.1,[],a1.1))))
  else(BP k (yV a0) a0.2.2.2.2.2.1 (a1.1,a0.2.2.2.2.2.2.2.2.2.2.2.2.2.2.2.2.1,x0,a1.2.2.1,0,a1.2.2.2.2)).bind fun x4=>
  bif !(decide (x4=0)) then some (x4,(yE a0 ([],a0.2.2.2.2.2.2.2.2.2.2.2.2.2.2.2.2.2)))
  else(BK k a0.2.2.2.2.2.2.2.2.2.2.2.2.2.1 a1.1).bind fun x5=>
  bif !(decide (x5.2=0)) then some (x5.2,(yE a0 ([],a0.2.2.2.2.2.2.2.2.2.2.2.2.2.2.2.2.2)))
  else(BJ k a0.2.2.2.2.2.2.2.2.2.2.2.2.1 a1.1 a0.2.2.2.2.2.2.2.2.2.2.2.2.2.2.2.2.1 x0 a1.2.2.1 0 a1.2.2.2.2.1 a1.2.2.2.2.2).bind fun x6=>
  bif !(decide (x6.2=0)) then some (x6.2,(yE a0 ([],a0.2.2.2.2.2.2.2.2.2.2.2.2.2.2.2.2.2)))
  else some (0,(kl a0 (x6.1,x5.1,a0.2.2.2.2.2.2.2.2.2.2.2.2.2.2.1,a0.2.2.2.2.2.2.2.2.2.2.2.2.2.2.2.1,a0.2.2.2.2.2.2.2.2.2.2.2.2.2.2.2.2.1,[],a1.1))))
 else(BP k (yV a0) a0.2.2.2.2.2.1 (a1.1,a0.2.2.2.2.2.2.2.2.2.2.2.2.2.2.2.2.1,x0,a1.2.2.1,0,a1.2.2.2.2)).bind fun x7=>
 bif !(decide (x7=0)) then some (x7,(yE a0 ([],a0.2.2.2.2.2.2.2.2.2.2.2.2.2.2.2.2.2)))
 else(BK k a0.2.2.2.2.2.2.2.2.2.2.2.2.2.1 a1.1).bind fun x8=>
 bif !(decide (x8.2=0)) then some (x8.2,(yE a0 ([],a0.2.2.2.2.2.2.2.2.2.2.2.2.2.2.2.2.2)))
 else(BJ k a0.2.2.2.2.2.2.2.2.2.2.2.2.1 a1.1 a0.2.2.2.2.2.2.2.2.2.2.2.2.2.2.2.2.1 x0 a1.2.2.1 0 a1.2.2.2.2.1 a1.2.2.2.2.2).bind fun x9=>
 bif !(decide (x9.2=0)) then some (x9.2,(yE a0 ([],a0.2.2.2.2.2.2.2.2.2.2.2.2.2.2.2.2.2)))
 else some (0,(kl a0 (x9.1,x8.1,a0.2.2.2.2.2.2.2.2.2.2.2.2.2.2.1,a0.2.2.2.2.2.2.2.2.2.2.2.2.2.2.2.1,a0.2.2.2.2.2.2.2.2.2.2.2.2.2.2.2.2.1,[],a1.1)))
def yY1 (k:Nat)(a0:vg)(a1:Int):Option (zC×Bool):=
 (mW k a0.2.2.2.2.2.2.2.2.2.2.2.2.1 a1).bind fun x0=>
 bif decide (x0<0) then some ((0,0,0,0,0,0,0),false)
 else bif zB x0 a0.2.2.2.2.2.2.2.2.2.2.2.2.1.length then (bif !(decide ((a0.2.2.2.2.2.2.2.2.2.2.2.2.1.getD x0.toNat (0,0,0,0,0,0,0)).2.1=a0.2.2.2.2.2.2.2.2.2.2.2.2.2.2.2.2.1)) then some ((0,0,0,0,0,0,0),false)
  else bif zB x0 a0.2.2.2.2.2.2.2.2.2.2.2.2.1.length then some ((a0.2.2.2.2.2.2.2.2.2.2.2.2.1.getD x0.toNat (0,0,0,0,0,0,0)),true)
  else none)
 else none
def Gh (k:Nat)(rec:Zk)(s6:List zC)(s9:Int)(b0:zC):Option Zm:=
 bif decide (s9 < (s6.length : Int)) then (bif zB s9 s6.length then ((KF k b0.1 b0.2.1 b0.2.2.1 b0.2.2.2.1 b0.2.2.2.2.1 b0.2.2.2.2.2.1 b0.2.2.2.2.2.2 (s6.getD s9.toNat (0,0,0,0,0,0,0)).1 (s6.getD s9.toNat (0,0,0,0,0,0,0)).2.1 (s6.getD s9.toNat (0,0,0,0,0,0,0)).2.2.1 (s6.getD s9.toNat (0,0,0,0,0,0,0)).2.2.2.1 (s6.getD s9.toNat (0,0,0,0,0,0,0)).2.2.2.2.1 (s6.getD s9.toNat (0,0,0,0,0,0,0)).2.2.2.2.2.1 (s6.getD s9.toNat (0,0,0,0,0,0,0)).2.2.2.2.2.2).bind fun x1=>
   bif !x1 then(rec s6 (zA (s9+1)) b0)
   else some (s6,s9,b0))
  else none)
 else some (s6,s9,b0)
def KL (k:Nat):Nat→Zk:=yR (fun _ _ _=>none) (Gh k)
def KK (k:Nat)(a0:List zC)(a1:Int):Option ((List zC)×Int):=
 (nW k a0 a1).bind fun x0=>
 bif !(decide (x0.2.2.2.2.2.2.2.2=0)) then some (a0,x0.2.2.2.2.2.2.2.2)
 else(KL k k x0.1 0 (Qu x0)).bind fun z=>
 (BI k z.1 z.2.1 z.2.2.1 z.2.2.2.1 z.2.2.2.2.1 z.2.2.2.2.2.1 z.2.2.2.2.2.2.1 z.2.2.2.2.2.2.2.1 z.2.2.2.2.2.2.2.2).bind fun x2=>
 some (x2,0)
def KJ (k:Nat)(a0:List zC)(a1:Int):Option ((List zC)×Int):=
 (nW k a0 a1).bind fun x0=>
 bif !(decide (x0.2.2.2.2.2.2.2.2=0)) then some (a0,x0.2.2.2.2.2.2.2.2)
 else(Ge k x0.1 x0.2.1 x0.2.2.1 x0.2.2.2.1 x0.2.2.2.2.1 x0.2.2.2.2.2.1 x0.2.2.2.2.2.2.1 x0.2.2.2.2.2.2.2.1).bind fun x1=>
 (BI k x0.1 x1 x0.2.1 x0.2.2.1 x0.2.2.2.1 x0.2.2.2.2.1 x0.2.2.2.2.2.1 x0.2.2.2.2.2.2.1 x0.2.2.2.2.2.2.2.1).bind fun x2=>
 some (x2,0)
def KI (k:Nat)(a0:List zC)(a1 a2:Int):Option ((List zC)×Int):=
 (nW k a0 a1).bind fun x0=>
 bif !(decide (x0.2.2.2.2.2.2.2.2=0)) then some (a0,x0.2.2.2.2.2.2.2.2)
 else(Ge k x0.1 x0.2.1 x0.2.2.1 x0.2.2.2.1 x0.2.2.2.2.1 a2 x0.2.2.2.2.2.2.1 x0.2.2.2.2.2.2.2.1).bind fun x1=>
 (BI k x0.1 x1 x0.2.1 x0.2.2.1 x0.2.2.2.1 x0.2.2.2.2.1 a2 x0.2.2.2.2.2.2.1 x0.2.2.2.2.2.2.2.1).bind fun x2=>
 some (x2,0)
def BR (k:Nat)(a0:ru)(a1:Int)(a2:LW):Option (Int×vg):=
 (yY1 k (yE a0 ([],a0.2.2.2.2.2.2.2.2.2.2.2.2.2.2.2.2.2)) a2.1).bind fun x0=>
 bif !x0.2 then some (4,(yE a0 ([],a0.2.2.2.2.2.2.2.2.2.2.2.2.2.2.2.2.2)))
 else bif decide (a1 = 2) then ((nW k a0.2.2.2.2.2.2.2.2.2.2.2.2.1 a2.1).bind fun x1=>
  (wU k 20 [a2.1]).bind fun x2=>
  some (0,(kl a0 (x1.1,(Rp a0 ([(a0.2.2.2.2.2.2.2.2.2.2.2.2.2.2.2.2.1,x2)],a0.2.2.2.2.2.2.2.2.2.2.2.2.2.2.2.2.2))))))
 else bif decide (a1 = 3) then (bif decide (a2.2.1 = 0) then ((KK k a0.2.2.2.2.2.2.2.2.2.2.2.2.1 a2.1).bind fun x3=>
   some (0,(kl a0 (x3.1,(Rp a0 ([],a0.2.2.2.2.2.2.2.2.2.2.2.2.2.2.2.2.2))))))
  else bif decide (a2.2.1 = 1) then ((KJ k a0.2.2.2.2.2.2.2.2.2.2.2.2.1 a2.1).bind fun x4=>
   some (0,(kl a0 (x4.1,(Rp a0 ([],a0.2.2.2.2.2.2.2.2.2.2.2.2.2.2.2.2.2))))))
  else some (1,(yE a0 ([],a0.2.2.2.2.2.2.2.2.2.2.2.2.2.2.2.2.2))))
 else bif decide (a2.2.1<1) then some (1,(yE a0 ([],a0.2.2.2.2.2.2.2.2.2.2.2.2.2.2.2.2.2)))
 else bif decide (a2.2.1>3) then some (1,(yE a0 ([],a0.2.2.2.2.2.2.2.2.2.2.2.2.2.2.2.2.2)))
 else(Gu k (yV a0) a0.2.2.2.2.2.1 a2.2.1).bind fun x5=>
 bif !(decide (x5=0)) then some (x5,(yE a0 ([],a0.2.2.2.2.2.2.2.2.2.2.2.2.2.2.2.2.2)))
 else(KI k a0.2.2.2.2.2.2.2.2.2.2.2.2.1 a2.1 a2.2.1).bind fun x6=>
 some (0,(kl a0 (x6.1,(Rp a0 ([],a0.2.2.2.2.2.2.2.2.2.2.2.2.2.2.2.2.2)))))
def BS (k:Nat)(a0:ru)(a1:Int)(a2:LW):Option (Int×vg):=
 (oW k a0.2.2.2.2.2.2.1 a0.2.2.2.2.2.2.2.1 a0.2.2.2.2.2.2.2.2.1 a0.2.2.2.2.2.2.2.2.2.1).bind fun x0=>
 bif decide (a1 = 5) then ((uT k (yE a0 ([],a0.2.2.2.2.2.2.2.2.2.2.2.2.2.2.2.2.2)) a2.1).bind fun x1=>
  bif decide (x1<0) then some (1,(yE a0 ([],a0.2.2.2.2.2.2.2.2.2.2.2.2.2.2.2.2.2)))
  else bif decide (x1=a0.2.2.2.2.2.2.2.2.2.2.2.2.2.2.2.2.1) then some (1,(yE a0 ([],a0.2.2.2.2.2.2.2.2.2.2.2.2.2.2.2.2.2)))
  else bif decide (a2.2.1<(-1)) then some (1,(yE a0 ([],a0.2.2.2.2.2.2.2.2.2.2.2.2.2.2.2.2.2)))
  else bif decide (a2.2.1>1152921504606846976) then some (1,(yE a0 ([],a0.2.2.2.2.2.2.2.2.2.2.2.2.2.2.2.2.2)))
  else bif zB a0.2.2.2.2.2.2.2.2.2.2.2.2.2.2.2.2.1 x0.2.1.length then (bif zB x1 (x0.2.1.getD a0.2.2.2.2.2.2.2.2.2.2.2.2.2.2.2.2.1.toNat []).length then (let y0:EQ:=(x0.2.1.set a0.2.2.2.2.2.2.2.2.2.2.2.2.2.2.2.2.1.toNat ((x0.2.1.getD a0.2.2.2.2.2.2.2.2.2.2.2.2.2.2.2.2.1.toNat []).set x1.toNat a2.2.1))
    some (0,(jK a0 (x0.1,y0,x0.2.2.1,x0.2.2.2,(qK8 a0 ([],a0.2.2.2.2.2.2.2.2.2.2.2.2.2.2.2.2.2))))))
   else none)
  else none)
 else bif decide (a1 = 6) then (bif decide (a2.1<(-1)) then some (1,(yE a0 ([],a0.2.2.2.2.2.2.2.2.2.2.2.2.2.2.2.2.2)))
  else bif decide (a2.1>1152921504606846976) then some (1,(yE a0 ([],a0.2.2.2.2.2.2.2.2.2.2.2.2.2.2.2.2.2)))
  else bif zB a0.2.2.2.2.2.2.2.2.2.2.2.2.2.2.2.2.1 x0.2.2.1.length then (let y1:AC:=(x0.2.2.1.set a0.2.2.2.2.2.2.2.2.2.2.2.2.2.2.2.2.1.toNat a2.1)
   some (0,(jK a0 (x0.1,x0.2.1,y1,x0.2.2.2,(qK8 a0 ([],a0.2.2.2.2.2.2.2.2.2.2.2.2.2.2.2.2.2))))))
  else none)
 else bif decide (a2.1<0) then some (1,(yE a0 ([],a0.2.2.2.2.2.2.2.2.2.2.2.2.2.2.2.2.2)))
 else bif decide (a2.1>1152921504606846976) then some (1,(yE a0 ([],a0.2.2.2.2.2.2.2.2.2.2.2.2.2.2.2.2.2)))
 else bif zB a0.2.2.2.2.2.2.2.2.2.2.2.2.2.2.2.2.1 x0.1.length then (let y2:List zI:=(x0.1.set a0.2.2.2.2.2.2.2.2.2.2.2.2.2.2.2.2.1.toNat ((x0.1.getD a0.2.2.2.2.2.2.2.2.2.2.2.2.2.2.2.2.1.toNat (0,0,0)).1,(x0.1.getD a0.2.2.2.2.2.2.2.2.2.2.2.2.2.2.2.2.1.toNat (0,0,0)).2.1,a2.1))
  some (0,(jK a0 (y2,x0.2.1,x0.2.2.1,x0.2.2.2,(qK8 a0 ([],a0.2.2.2.2.2.2.2.2.2.2.2.2.2.2.2.2.2))))))
 else none
def uU (k:Nat)(a0:AC)(a1 a2:Int):Option AC:=
 bif zQ (0 + a0.length) 8 then (bif decide (a1 ≥ 0) then (bif decide (a1 < (a0.length : Int)) then (bif zB a1 a0.length then some (a0.set a1.toNat a2)
    else none)
   else some a0)
  else some a0)
 else none
def Pn (k:Nat)(a0:Int):Option AC:=
 some [(yL .i64 a0 65535),(yL .i64 (shr .i64 a0 16) 65535),(yL .i64 (shr .i64 a0 32) 65535),(yL .i64 (shr .i64 a0 48) 65535)]
def yYu (k:Nat)(rec:Int→AC→Option AC)(s3:Int)(r0:AC):Option AC:=
 bif decide ((zA (s3 + 1)) < (r0.length : Int)) then (bif zB (zA (s3 + 1)) r0.length then (bif zB s3 r0.length then (bif zB (zA (s3 + 1)) r0.length then (let y0:AC:=(r0.set (zA (s3+1)).toNat (zA ((r0.getD (zA (s3+1)).toNat 0)+(shr .i64 (r0.getD s3.toNat 0) 16))))
     bif zB s3 y0.length then (bif zB s3 y0.length then(rec (zA (s3+1)) (y0.set s3.toNat (yL .i64 (y0.getD s3.toNat 0) 65535)))
      else none)
     else none)
    else none)
   else none)
  else none)
 else some r0
def qU6 (k:Nat):Nat→Int→AC→Option AC:=yR (fun _ _=>none) (yYu k)
def F7 (k:Nat)(a0:AC):Option AC:=
 (qU6 k k 0 a0).bind fun z=>
 some z
abbrev qUb:Type:=Int×Int×AC×AC
abbrev qN8:Type:=Int→Int→Int→AC→AC→Option qUb
def yD7 (k:Nat)(rec:qN8)(s1 s7 s8:Int)(r0 r1:AC):Option qUb:=
 bif decide (s8 < 4) then (bif !(decide ((IntKind.wrap .u64 ((zA (16 * s8)))) < 0)) then (bif zB (zA (s7 + s8)) r1.length then (bif zB s7 r0.length then (bif zB (zA (s7 + s8)) r1.length then (let y0:AC:=(r1.set (zA (s7+s8)).toNat (zA ((r1.getD (zA (s7+s8)).toNat 0)+(zA ((r0.getD s7.toNat 0)*(yL .i64 (shr .i64 s1 (IntKind.wrap .u64 ((zA (16*s8))))) 65535))))))
      rec s1 s7 (zA (s8+1)) r0 y0)
     else none)
    else none)
   else none)
  else none)
 else some (s1,s7,r0,r1)
def qWy (k:Nat):Nat→qN8:=yR (fun _ _ _ _ _=>none) (yD7 k)
abbrev qLp:Type:=Int→Int→AC→AC→Option AC
def yQw (k:Nat)(rec:qLp)(s1 s7:Int)(r0 r1:AC):Option AC:=
 bif decide (s7 < 4) then ((qWy k k s1 s7 0 r0 r1).bind fun z=>
  rec z.1 (zA (z.2.1+1)) z.2.2.1 z.2.2.2)
 else some r1
def Pl (k:Nat):Nat→qLp:=yR (fun _ _ _ _=>none) (yQw k)
def Pm (k:Nat)(a0 a1:Int):Option AC:=
 (Pn k a0).bind fun x0=>
 (Pl k k a1 0 x0 [0,0,0,0,0,0,0,0,0]).bind fun z1=>
 (F7 k z1).bind fun x1=>
 some x1
def yH4 (k:Nat)(rec:Int→Int→AC→Option AC)(s1 s5:Int)(r0:AC):Option AC:=
 bif decide (s5 < (r0.length : Int)) then (bif zB s5 r0.length then (bif zB s5 r0.length then(rec s1 (zA (s5+1)) (r0.set s5.toNat (zA ((r0.getD s5.toNat 0)*s1))))
   else none)
  else none)
 else some r0
def Pj (k:Nat):Nat→Int→Int→AC→Option AC:=yR (fun _ _ _=>none) (yH4 k)
def Ph (k:Nat)(a0:AC)(a1:Int):Option AC:=
 (Pj k k a1 0 a0).bind fun z=>
 (F7 k z).bind fun x0=>
 some x0
def yPl (k:Nat)(rec:X9)(s1 s6 s7:Int)(r0:AC):Option AC:=
 bif decide (s7 ≥ 0) then (bif zB s7 r0.length then (bif !(decide (s1 = 0)) then (bif zB s7 r0.length then (let y0:AC:=(r0.set s7.toNat (zA (Int.tdiv (zA ((shl .i64 s6 16)+(r0.getD s7.toNat 0))) s1)))
     bif !(decide (s1=0)) then(rec s1 (Int.tmod (zA ((shl .i64 s6 16)+(r0.getD s7.toNat 0))) s1) (zA (s7-1)) y0)
     else none)
    else none)
   else none)
  else none)
 else some r0
def KB (k:Nat):Nat→X9:=yR (fun _ _ _ _=>none) (yPl k)
abbrev qOc:Type:=Int→AC→Option (AC⊕fa)
def yC3 (k:Nat)(rec:qOc)(s9:Int)(r0:AC):Option (AC⊕fa):=
 bif decide (s9 < (r0.length : Int)) then (bif zB s9 r0.length then (bif !(decide ((r0.getD s9.toNat 0)=0)) then some (.inr (0,false))
   else rec (zA (s9+1)) r0)
  else none)
 else some (.inl r0)
def F8 (k:Nat):Nat→qOc:=yR (fun _ _=>none) (yC3 k)
def Pk (k:Nat)(a0:AC)(a1:Int):Option fa:=
 (KB k k a1 0 (zA ((a0.length:Int)-1)) a0).bind fun z=>
 (F8 k k 4 z).bind fun z1=>
 match z1 with
 | .inl z2 => bif zB 3 z2.length then (bif decide ((z2.getD 3 0)≥32768) then some (0,false)
   else bif zB 3 z2.length then (bif zB 2 z2.length then (bif zB 1 z2.length then (bif zB 0 z2.length then some ((wN .i64 (wN .i64 (wN .i64 (shl .i64 (z2.getD 3 0) 48) (shl .i64 (z2.getD 2 0) 32)) (shl .i64 (z2.getD 1 0) 16)) (z2.getD 0 0)),true)
      else none)
     else none)
    else none)
   else none)
  else none
 |.inr z3=>some (z3.1,z3.2)
def Pt (k:Nat)(a0 a1 a2:Int):Option fa:=
 bif decide (a0<0) then some (0,false)
 else bif decide (a1<0) then some (0,false)
 else bif decide (a2<0) then some (0,false)
 else bif decide (a2>10000) then some (0,false)
 else(Pm k a0 a1).bind fun x0=>
 (Ph k x0 (zA (10000-a2))).bind fun x1=>
 (Pk k x1 10000).bind fun x2=>
 some (x2.1,x2.2)
def Ga (k:Nat)(a0 a1:Int):Option fa:=
 bif decide (a1 > 0) then (bif decide (a0>(zA (9223372036854775807-a1))) then some (0,false)
  else bif decide (a1 < 0) then (bif decide (a0<(zA ((-9223372036854775808)-a1))) then some (0,false)
   else some ((zA (a0+a1)),true))
  else some ((zA (a0+a1)),true))
 else bif decide (a1 < 0) then (bif decide (a0<(zA ((-9223372036854775808)-a1))) then some (0,false)
  else some ((zA (a0+a1)),true))
 else some ((zA (a0+a1)),true)
abbrev qNm:Type:=List vX→AC→AC→Int→Int→Option (Int⊕fa)
def Gc (k:Nat)(rec:qNm)(s0:List vX)(s1 s2:AC)(s8 s9:Int):Option (Int⊕fa):=
 bif decide (s9 < (s0.length : Int)) then (bif zB s9 s1.length then (bif zB s9 s2.length then (bif zB s9 s0.length then ((Pt k (s1.getD s9.toNat 0) (s2.getD s9.toNat 0) (s0.getD s9.toNat (0,0)).2).bind fun x0=>
     (Ga k s8 x0.1).bind fun x1=>
     bif !x0.2 then some (.inr (0,false))
     else bif !x1.2 then some (.inr (0,false))
     else rec s0 s1 s2 x1.1 (zA (s9+1)))
    else none)
   else none)
  else none)
 else some (.inl s8)
def KG (k:Nat):Nat→qNm:=yR (fun _ _ _ _ _=>none) (Gc k)
def BH (k:Nat)(a0:List vX)(a1 a2:AC):Option fa:=
 bif !(decide ((a1.length:Int)=(a0.length:Int))) then some (0,false)
 else bif !(decide ((a2.length:Int)=(a0.length:Int))) then some (0,false)
 else(KG k k a0 a1 a2 0 0).bind fun z=>
 match z with
 |.inl z1=>some (z1,true)
 |.inr z2=>some (z2.1,z2.2)
def PD (k:Nat)(a0:ru)(a1 a2:Int):Option (Int×vg):=
 bif decide (a1<0) then some (1,(yE a0 ([],a0.2.2.2.2.2.2.2.2.2.2.2.2.2.2.2.2.2)))
 else bif decide (a1≥(a0.2.1.length:Int)) then some (1,(yE a0 ([],a0.2.2.2.2.2.2.2.2.2.2.2.2.2.2.2.2.2)))
 else bif decide (a2<0) then some (1,(yE a0 ([],a0.2.2.2.2.2.2.2.2.2.2.2.2.2.2.2.2.2)))
 else bif decide (a2>1099511627776) then some (1,(yE a0 ([],a0.2.2.2.2.2.2.2.2.2.2.2.2.2.2.2.2.2)))
 else bif zB a0.2.2.2.2.2.2.2.2.2.2.2.2.2.2.2.2.1 a0.2.2.2.2.2.2.2.2.2.2.2.1.length then ((uU k (a0.2.2.2.2.2.2.2.2.2.2.2.1.getD a0.2.2.2.2.2.2.2.2.2.2.2.2.2.2.2.2.1.toNat []) a1 a2).bind fun x0=>
  (BH k a0.2.1 a0.2.2.2.2.2.2.2.2.2.2.1 x0).bind fun x1=>
  bif !x1.2 then some (8,(yE a0 ([],a0.2.2.2.2.2.2.2.2.2.2.2.2.2.2.2.2.2)))
  else bif decide (x1.1>1152921504606846976) then some (8,(yE a0 ([],a0.2.2.2.2.2.2.2.2.2.2.2.2.2.2.2.2.2)))
  else(oW k a0.2.2.2.2.2.2.1 a0.2.2.2.2.2.2.2.1 a0.2.2.2.2.2.2.2.2.1 a0.2.2.2.2.2.2.2.2.2.1).bind fun x2=>
  bif zB a0.2.2.2.2.2.2.2.2.2.2.2.2.2.2.2.2.1 x2.1.length then (bif decide (x1.1 < (x2.1.getD a0.2.2.2.2.2.2.2.2.2.2.2.2.2.2.2.2.1.toNat (0, 0, 0)).2.1) then (bif decide ((zA ((x2.1.getD a0.2.2.2.2.2.2.2.2.2.2.2.2.2.2.2.2.1.toNat (0,0,0)).1+x1.1))<0) then some (9,(yE a0 ([],a0.2.2.2.2.2.2.2.2.2.2.2.2.2.2.2.2.2)))
    else bif zB a0.2.2.2.2.2.2.2.2.2.2.2.2.2.2.2.2.1 x2.1.length then (let y0:List zI:=(x2.1.set a0.2.2.2.2.2.2.2.2.2.2.2.2.2.2.2.2.1.toNat ((x2.1.getD a0.2.2.2.2.2.2.2.2.2.2.2.2.2.2.2.2.1.toNat (0,0,0)).1,x1.1,(x2.1.getD a0.2.2.2.2.2.2.2.2.2.2.2.2.2.2.2.2.1.toNat (0,0,0)).2.2))
     bif zQ (0 + a0.2.2.2.2.2.2.2.2.2.2.2.1.length) 24 then (bif zB a0.2.2.2.2.2.2.2.2.2.2.2.2.2.2.2.2.1 a0.2.2.2.2.2.2.2.2.2.2.2.1.length then (let y1:EQ:=(a0.2.2.2.2.2.2.2.2.2.2.2.1.set a0.2.2.2.2.2.2.2.2.2.2.2.2.2.2.2.2.1.toNat x0)
       some (0,(jK a0 (y0,x2.2.1,x2.2.2.1,x2.2.2.2,a0.2.2.2.2.2.2.2.2.2.2.1,y1,(vBz a0 ([],a0.2.2.2.2.2.2.2.2.2.2.2.2.2.2.2.2.2))))))
      else none)
     else none)
    else none)
   else bif zB a0.2.2.2.2.2.2.2.2.2.2.2.2.2.2.2.2.1 x2.1.length then (let y2:List zI:=(x2.1.set a0.2.2.2.2.2.2.2.2.2.2.2.2.2.2.2.2.1.toNat ((x2.1.getD a0.2.2.2.2.2.2.2.2.2.2.2.2.2.2.2.2.1.toNat (0,0,0)).1,x1.1,(x2.1.getD a0.2.2.2.2.2.2.2.2.2.2.2.2.2.2.2.2.1.toNat (0,0,0)).2.2))
    bif zQ (0 + a0.2.2.2.2.2.2.2.2.2.2.2.1.length) 24 then (bif zB a0.2.2.2.2.2.2.2.2.2.2.2.2.2.2.2.2.1 a0.2.2.2.2.2.2.2.2.2.2.2.1.length then (let y3:EQ:=(a0.2.2.2.2.2.2.2.2.2.2.2.1.set a0.2.2.2.2.2.2.2.2.2.2.2.2.2.2.2.2.1.toNat x0)
      some (0,(jK a0 (y2,x2.2.1,x2.2.2.1,x2.2.2.2,a0.2.2.2.2.2.2.2.2.2.2.1,y3,(vBz a0 ([],a0.2.2.2.2.2.2.2.2.2.2.2.2.2.2.2.2.2))))))
     else none)
    else none)
   else none)
  else none)
 else none
def Gv (k:Nat)(a0:zI)(a1:Int):Option (zI×Int):=
 (Ga k a0.1 a1).bind fun x0=>
 bif !x0.2 then some (a0,8)
 else(I6 k x0.1 a0.2.1 a0.2.2).bind fun x1=>
 bif !x1 then some (a0,8)
 else some ((x0.1,a0.2),0)
def Gw (k:Nat)(a0:ru)(a1:Bool)(a2 a3:Int):Option (Int×vg):=
 (uT k (yE a0 ([],a0.2.2.2.2.2.2.2.2.2.2.2.2.2.2.2.2.2)) a2).bind fun x0=>
 bif decide (x0<0) then some (1,(yE a0 ([],a0.2.2.2.2.2.2.2.2.2.2.2.2.2.2.2.2.2)))
 else bif decide (a3<1) then some (1,(yE a0 ([],a0.2.2.2.2.2.2.2.2.2.2.2.2.2.2.2.2.2)))
 else bif decide (a3>1099511627776) then some (1,(yE a0 ([],a0.2.2.2.2.2.2.2.2.2.2.2.2.2.2.2.2.2)))
 else(oW k a0.2.2.2.2.2.2.1 a0.2.2.2.2.2.2.2.1 a0.2.2.2.2.2.2.2.2.1 a0.2.2.2.2.2.2.2.2.2.1).bind fun x1=>
 bif a1 then (bif zB x0 x1.1.length then ((Gv k (x1.1.getD x0.toNat (0,0,0)) a3).bind fun x2=>
   bif decide ((zA (a0.2.2.2.2.2.2.2.2.2.2.2.2.2.2.1+a3))>1152921504606846976) then some (8,(yE a0 ([],a0.2.2.2.2.2.2.2.2.2.2.2.2.2.2.2.2.2)))
   else bif !(decide (x2.2=0)) then some (8,(yE a0 ([],a0.2.2.2.2.2.2.2.2.2.2.2.2.2.2.2.2.2)))
   else bif zB x0 x1.1.length then some (0,(jK a0 ((x1.1.set x0.toNat x2.1),x1.2.1,x1.2.2.1,x1.2.2.2,(Ht a0 ((zA (a0.2.2.2.2.2.2.2.2.2.2.2.2.2.2.1+a3)),a0.2.2.2.2.2.2.2.2.2.2.2.2.2.2.2.1,a0.2.2.2.2.2.2.2.2.2.2.2.2.2.2.2.2.1,[],a0.2.2.2.2.2.2.2.2.2.2.2.2.2.2.2.2.2)))))
   else none)
  else none)
 else bif zB x0 x1.1.length then (bif decide ((zA ((zA ((x1.1.getD x0.toNat (0,0,0)).1+(x1.1.getD x0.toNat (0,0,0)).2.1))-(x1.1.getD x0.toNat (0,0,0)).2.2))<a3) then some (9,(yE a0 ([],a0.2.2.2.2.2.2.2.2.2.2.2.2.2.2.2.2.2)))
  else bif decide (a0.2.2.2.2.2.2.2.2.2.2.2.2.2.2.1<a3) then some (9,(yE a0 ([],a0.2.2.2.2.2.2.2.2.2.2.2.2.2.2.2.2.2)))
  else bif zB x0 x1.1.length then (let y0:List zI:=(x1.1.set x0.toNat ((zA ((x1.1.getD x0.toNat (0,0,0)).1-a3)),(x1.1.getD x0.toNat (0,0,0)).2))
   some (0,(jK a0 (y0,x1.2.1,x1.2.2.1,x1.2.2.2,(Ht a0 ((zA (a0.2.2.2.2.2.2.2.2.2.2.2.2.2.2.1-a3)),a0.2.2.2.2.2.2.2.2.2.2.2.2.2.2.2.1,a0.2.2.2.2.2.2.2.2.2.2.2.2.2.2.2.2.1,[],a0.2.2.2.2.2.2.2.2.2.2.2.2.2.2.2.2.2))))))
  else none)
 else none
abbrev qT6:Type:=(ru×AC×(List zI)×EQ×AC×EQ)⊕(Int×ru)
abbrev qJf:Type:=Int→ru→AC→List zI→EQ→AC→EQ→Option qT6
def Gx (k:Nat)(rec:qJf)(s9:Int)(b0:ru)(r1:AC)(r3:List zI)(m4:EQ)(r5:AC)(m6:EQ):Option qT6:=
 bif decide (s9 < (r3.length : Int)) then (bif zB s9 b0.2.2.2.2.2.2.2.2.2.2.2.1.length then ((BH k b0.2.1 r1 (b0.2.2.2.2.2.2.2.2.2.2.2.1.getD s9.toNat [])).bind fun x2=>
   bif !x2.2 then some (.inr (8,b0))
   else bif decide (x2.1>1152921504606846976) then some (.inr (8,b0))
   else bif zB s9 r3.length then (let y0:List zI:=(r3.set s9.toNat ((r3.getD s9.toNat (0,0,0)).1,x2.1,(r3.getD s9.toNat (0,0,0)).2.2))
    rec (zA (s9+1)) b0 r1 y0 m4 r5 m6)
   else none)
  else none)
 else some (.inl (b0,r1,r3,m4,r5,m6))
def uV (k:Nat):Nat→qJf:=yR (fun _ _ _ _ _ _ _=>none) (Gx k)
def PE (k:Nat)(a0:ru)(a1 a2:Int):Option (Int×vg):=
 bif decide (a1<0) then some (1,(yE a0 ([],a0.2.2.2.2.2.2.2.2.2.2.2.2.2.2.2.2.2)))
 else bif decide (a1≥(a0.2.1.length:Int)) then some (1,(yE a0 ([],a0.2.2.2.2.2.2.2.2.2.2.2.2.2.2.2.2.2)))
 else bif decide (a2<0) then some (1,(yE a0 ([],a0.2.2.2.2.2.2.2.2.2.2.2.2.2.2.2.2.2)))
 else bif decide (a2>1048576) then some (1,(yE a0 ([],a0.2.2.2.2.2.2.2.2.2.2.2.2.2.2.2.2.2)))
 else(uU k a0.2.2.2.2.2.2.2.2.2.2.1 a1 a2).bind fun x0=>
 (oW k a0.2.2.2.2.2.2.1 a0.2.2.2.2.2.2.2.1 a0.2.2.2.2.2.2.2.2.1 a0.2.2.2.2.2.2.2.2.2.1).bind fun x1=>
 (uV k k 0 a0 x0 x1.1 x1.2.1 x1.2.2.1 x1.2.2.2).bind fun z=>
 match z with
 |.inl z1=>some (0,(jK z1.1 (BN z1 (z1.2.1,(yTg z1.1 ([],z1.1.2.2.2.2.2.2.2.2.2.2.2.2.2.2.2.2.2))))))
 |.inr z2=>some (yEs z2 ([],z2.2.2.2.2.2.2.2.2.2.2.2.2.2.2.2.2.2.2))
def yf (k:Nat)(a0:ru)(a1:zC):Option (Int×vg):=
 bif decide (a1.1 = 1) then ((PB k a0 a1.2).bind fun x0=>
  some (x0.1,x0.2))
 else bif decide (a1.1 = 2) then ((BR k a0 a1.1 a1.2).bind fun x1=>
  some (x1.1,x1.2))
 else bif decide (a1.1 = 3) then ((BR k a0 a1.1 a1.2).bind fun x2=>
  some (x2.1,x2.2))
 else bif decide (a1.1 = 4) then ((BR k a0 a1.1 a1.2).bind fun x3=>
  some (x3.1,x3.2))
 else bif decide (a1.1 = 5) then ((BS k a0 a1.1 a1.2).bind fun x4=>
  some (x4.1,x4.2))
 else bif decide (a1.1 = 6) then ((BS k a0 a1.1 a1.2).bind fun x5=>
  some (x5.1,x5.2))
 else bif decide (a1.1 = 7) then ((BS k a0 a1.1 a1.2).bind fun x6=>
  some (x6.1,x6.2))
 else bif decide (a1.1 = 8) then ((PD k a0 a1.2.1 a1.2.2.1).bind fun x7=>
  some (x7.1,x7.2))
 else bif decide (a1.1 = 10) then ((Gw k a0 (decide (a1.1=10)) a1.2.1 a1.2.2.1).bind fun x8=>
  some (x8.1,x8.2))
 else bif decide (a1.1 = 11) then ((Gw k a0 (decide (a1.1=10)) a1.2.1 a1.2.2.1).bind fun x9=>
  some (x9.1,x9.2))
 else bif decide (a1.1 = 12) then ((PE k a0 a1.2.1 a1.2.2.1).bind fun cq=>
  some (cq.1,cq.2))
 else some (0,(yE a0 ([],a0.2.2.2.2.2.2.2.2.2.2.2.2.2.2.2.2.2)))
def yh (k:Nat)(a0:vQ)(a1:vH)(a2:qP):Option (vH×(List qP)×Int):=
 (BW k a0 a2).bind fun x0=>
 bif !x0 then some (a1,[],5)
 else bif a1.2.2.2.2.2.2.2.2.2.2 then (bif !(decide (a2.2.1=9)) then some (a1,[],7)
  else bif decide (a2.2.1 = 9) then (bif zB a2.1 a1.2.1.length then ((uA k a1.2.2.2.2.2.2.2.1 a2.1).bind fun x1=>
    (wU k 17 [(a1.2.1.getD a2.1.toNat (0,0,0)).1,(a1.2.1.getD a2.1.toNat (0,0,0)).2.1,(a1.2.1.getD a2.1.toNat (0,0,0)).2.2,(x1.length:Int),a1.1]).bind fun x2=>
    some (a1,[(a2.1,x2)],0))
   else none)
  else bif decide (a2.2.1 = 14) then ((GS k a0 a1).bind fun x3=>
   some (x3.1,x3.2,0))
  else(yf k (jI a0 (wZ a1 (a2.1,0))) a2.2).bind fun x4=>
  bif !(decide (x4.1=0)) then some (a1,[],x4.1)
  else bif !(decide (a2.1 = (-1))) then ((wU k 15 []).bind fun x5=>
   (nX k x4.2.2.2.2.2.2.1 x4.2.2.2.2.2.2.2.1 x4.2.2.2.2.2.2.2.2.1 x4.2.2.2.2.2.2.2.2.2.1 x4.2.2.2.2.2.2.2.2.2.2.1 x4.2.2.2.2.2.2.2.2.2.2.2.1 x4.2.2.2.2.2.2.2.2.2.2.2.2.1 x4.2.2.2.2.2.2.2.2.2.2.2.2.2.1 x4.2.2.2.2.2.2.2.2.2.2.2.2.2.2.1 x4.2.2.2.2.2.2.2.2.2.2.2.2.2.2.2.1 x4.2.2.2.2.2.2.2.2.2.2.2.2.2.2.2.2.1 (decide (a2.2.1=13))).bind fun x6=>
   bif zQ (1 + x4.2.2.2.2.2.2.2.2.2.2.2.2.2.2.2.2.2.2.1.length) 64 then (let y0:List qP:=([(a2.1,x5)]++x4.2.2.2.2.2.2.2.2.2.2.2.2.2.2.2.2.2.2.1)
    bif zQ (y0.length + x6.2.2.2.2.2.2.2.2.2.2.2.length) 64 then (bif decide (x4.2.2.2.2.2.2.2.2.2.2.2.2.2.2.2.2.2.2.2 > 0) then ((mW k x6.2.2.2.2.2.2.2.1 x4.2.2.2.2.2.2.2.2.2.2.2.2.2.2.2.2.2.2.2).bind fun x7=>
      bif decide (x7 ≥ 0) then ((wU k 19 [x4.2.2.2.2.2.2.2.2.2.2.2.2.2.2.2.2.2.2.2]).bind fun x8=>
       bif zQ ((y0 ++ x6.2.2.2.2.2.2.2.2.2.2.2).length + 1) 64 then (let y1:List qP:=((y0++x6.2.2.2.2.2.2.2.2.2.2.2)++[(a2.1,x8)])
        some ((qV x6),y1,0))
       else none)
      else some ((qV x6),(y0++x6.2.2.2.2.2.2.2.2.2.2.2),0))
     else some ((qV x6),(y0++x6.2.2.2.2.2.2.2.2.2.2.2),0))
    else none)
   else none)
  else(nX k x4.2.2.2.2.2.2.1 x4.2.2.2.2.2.2.2.1 x4.2.2.2.2.2.2.2.2.1 x4.2.2.2.2.2.2.2.2.2.1 x4.2.2.2.2.2.2.2.2.2.2.1 x4.2.2.2.2.2.2.2.2.2.2.2.1 x4.2.2.2.2.2.2.2.2.2.2.2.2.1 x4.2.2.2.2.2.2.2.2.2.2.2.2.2.1 x4.2.2.2.2.2.2.2.2.2.2.2.2.2.2.1 x4.2.2.2.2.2.2.2.2.2.2.2.2.2.2.2.1 x4.2.2.2.2.2.2.2.2.2.2.2.2.2.2.2.2.1 (decide (a2.2.1=13))).bind fun x9=>
  bif zQ x4.2.2.2.2.2.2.2.2.2.2.2.2.2.2.2.2.2.2.1.length 64 then (let y2:List qP:=x4.2.2.2.2.2.2.2.2.2.2.2.2.2.2.2.2.2.2.1
   bif zQ (y2.length + x9.2.2.2.2.2.2.2.2.2.2.2.length) 64 then (bif decide (x4.2.2.2.2.2.2.2.2.2.2.2.2.2.2.2.2.2.2.2 > 0) then ((mW k x9.2.2.2.2.2.2.2.1 x4.2.2.2.2.2.2.2.2.2.2.2.2.2.2.2.2.2.2.2).bind fun cq=>
     bif decide (cq ≥ 0) then ((wU k 19 [x4.2.2.2.2.2.2.2.2.2.2.2.2.2.2.2.2.2.2.2]).bind fun gn=>
      bif zQ ((y2 ++ x9.2.2.2.2.2.2.2.2.2.2.2).length + 1) 64 then (let y3:List qP:=((y2++x9.2.2.2.2.2.2.2.2.2.2.2)++[(a2.1,gn)])
       some ((qV x9),y3,0))
      else none)
     else some ((qV x9),(y2++x9.2.2.2.2.2.2.2.2.2.2.2),0))
    else some ((qV x9),(y2++x9.2.2.2.2.2.2.2.2.2.2.2),0))
   else none)
  else none)
 else bif decide (a2.2.1 = 9) then (bif zB a2.1 a1.2.1.length then ((uA k a1.2.2.2.2.2.2.2.1 a2.1).bind fun lD=>
   (wU k 17 [(a1.2.1.getD a2.1.toNat (0,0,0)).1,(a1.2.1.getD a2.1.toNat (0,0,0)).2.1,(a1.2.1.getD a2.1.toNat (0,0,0)).2.2,(lD.length:Int),a1.1]).bind fun og=>
   some (a1,[(a2.1,og)],0))
  else none)
 else bif decide (a2.2.1 = 14) then ((GS k a0 a1).bind fun vh=>
  some (vh.1,vh.2,0))
 else(yf k (jI a0 (wZ a1 (a2.1,0))) a2.2).bind fun bW=>
 bif !(decide (bW.1=0)) then some (a1,[],bW.1)
 else bif !(decide (a2.1 = (-1))) then ((wU k 15 []).bind fun mr=>
  (nX k bW.2.2.2.2.2.2.1 bW.2.2.2.2.2.2.2.1 bW.2.2.2.2.2.2.2.2.1 bW.2.2.2.2.2.2.2.2.2.1 bW.2.2.2.2.2.2.2.2.2.2.1 bW.2.2.2.2.2.2.2.2.2.2.2.1 bW.2.2.2.2.2.2.2.2.2.2.2.2.1 bW.2.2.2.2.2.2.2.2.2.2.2.2.2.1 bW.2.2.2.2.2.2.2.2.2.2.2.2.2.2.1 bW.2.2.2.2.2.2.2.2.2.2.2.2.2.2.2.1 bW.2.2.2.2.2.2.2.2.2.2.2.2.2.2.2.2.1 (decide (a2.2.1=13))).bind fun iX=>
  bif zQ (1 + bW.2.2.2.2.2.2.2.2.2.2.2.2.2.2.2.2.2.2.1.length) 64 then (let y4:List qP:=([(a2.1,mr)]++bW.2.2.2.2.2.2.2.2.2.2.2.2.2.2.2.2.2.2.1)
   bif zQ (y4.length + iX.2.2.2.2.2.2.2.2.2.2.2.length) 64 then (bif decide (bW.2.2.2.2.2.2.2.2.2.2.2.2.2.2.2.2.2.2.2 > 0) then ((mW k iX.2.2.2.2.2.2.2.1 bW.2.2.2.2.2.2.2.2.2.2.2.2.2.2.2.2.2.2.2).bind fun pv=>
     bif decide (pv ≥ 0) then ((wU k 19 [bW.2.2.2.2.2.2.2.2.2.2.2.2.2.2.2.2.2.2.2]).bind fun ix=>
      bif zQ ((y4 ++ iX.2.2.2.2.2.2.2.2.2.2.2).length + 1) 64 then (let y5:List qP:=((y4++iX.2.2.2.2.2.2.2.2.2.2.2)++[(a2.1,ix)])
       some ((qV iX),y5,0))
      else none)
     else some ((qV iX),(y4++iX.2.2.2.2.2.2.2.2.2.2.2),0))
    else some ((qV iX),(y4++iX.2.2.2.2.2.2.2.2.2.2.2),0))
   else none)
  else none)
 else(nX k bW.2.2.2.2.2.2.1 bW.2.2.2.2.2.2.2.1 bW.2.2.2.2.2.2.2.2.1 bW.2.2.2.2.2.2.2.2.2.1 bW.2.2.2.2.2.2.2.2.2.2.1 bW.2.2.2.2.2.2.2.2.2.2.2.1 bW.2.2.2.2.2.2.2.2.2.2.2.2.1 bW.2.2.2.2.2.2.2.2.2.2.2.2.2.1 bW.2.2.2.2.2.2.2.2.2.2.2.2.2.2.1 bW.2.2.2.2.2.2.2.2.2.2.2.2.2.2.2.1 bW.2.2.2.2.2.2.2.2.2.2.2.2.2.2.2.2.1 (decide (a2.2.1=13))).bind fun nq=>
 bif zQ bW.2.2.2.2.2.2.2.2.2.2.2.2.2.2.2.2.2.2.1.length 64 then (let y6:List qP:=bW.2.2.2.2.2.2.2.2.2.2.2.2.2.2.2.2.2.2.1
  bif zQ (y6.length + nq.2.2.2.2.2.2.2.2.2.2.2.length) 64 then (bif decide (bW.2.2.2.2.2.2.2.2.2.2.2.2.2.2.2.2.2.2.2 > 0) then ((mW k nq.2.2.2.2.2.2.2.1 bW.2.2.2.2.2.2.2.2.2.2.2.2.2.2.2.2.2.2.2).bind fun Hu=>
    bif decide (Hu ≥ 0) then ((wU k 19 [bW.2.2.2.2.2.2.2.2.2.2.2.2.2.2.2.2.2.2.2]).bind fun Cm=>
     bif zQ ((y6 ++ nq.2.2.2.2.2.2.2.2.2.2.2).length + 1) 64 then (let y7:List qP:=((y6++nq.2.2.2.2.2.2.2.2.2.2.2)++[(a2.1,Cm)])
      some ((qV nq),y7,0))
     else none)
    else some ((qV nq),(y6++nq.2.2.2.2.2.2.2.2.2.2.2),0))
   else some ((qV nq),(y6++nq.2.2.2.2.2.2.2.2.2.2.2),0))
  else none)
 else none
def ni (k:Nat)(bh:pw)(dw:gv)(mv:wE):Option (vH×pw×gv×wE):=
 some ((qq bh),bh,dw,mv)
abbrev qKb:Type:=AC→AC→Int→Option (Unit⊕Bool)
def Ej (k:Nat)(rec:qKb)(s0 s1:AC)(s5:Int):Option (Unit⊕Bool):=
 bif decide (s5 < (s0.length : Int)) then (bif zB s5 s0.length then (bif zB s5 s1.length then (bif !(decide ((s0.getD s5.toNat 0)=(s1.getD s5.toNat 0))) then some (.inr false)
    else rec s0 s1 (zA (s5+1)))
   else none)
  else none)
 else some (.inl ())
def Jp (k:Nat):Nat→qKb
 |0,_,_,_=>none
 |n+1,s0,s1,s5=>Ej k (Jp k n) s0 s1 s5
def ur (k:Nat)(a0 a1:AC):Option Bool:=
 bif !(decide ((a0.length:Int)=(a1.length:Int))) then some false
 else(Jp k k a0 a1 0).bind fun z=>
 match z with
 |.inl z1=>some true
 |.inr z2=>some z2
abbrev qUs:Type:=EQ→EQ→Int→Option (Unit⊕Bool)
def Ek (k:Nat)(rec:qUs)(s0 s1:EQ)(s5:Int):Option (Unit⊕Bool):=
 bif decide (s5 < (s0.length : Int)) then (bif zB s5 s0.length then (bif zB s5 s1.length then ((ur k (s0.getD s5.toNat []) (s1.getD s5.toNat [])).bind fun x0=>
    bif !x0 then some (.inr false)
    else rec s0 s1 (zA (s5+1)))
   else none)
  else none)
 else some (.inl ())
def Jq (k:Nat):Nat→qUs
 |0,_,_,_=>none
 |n+1,s0,s1,s5=>Ek k (Jq k n) s0 s1 s5
def Bc (k:Nat)(a0 a1:EQ):Option Bool:=
 bif !(decide ((a0.length:Int)=(a1.length:Int))) then some false
 else(Jq k k a0 a1 0).bind fun z=>
 match z with
 |.inl z1=>some true
 |.inr z2=>some z2
abbrev qJ4:Type:=Int→List zI→EQ→AC→EQ→List zI→EQ→AC→EQ→Option (Unit⊕Bool)
def El (k:Nat)(rec:qJ4)(s5:Int)(af:List zI)(ai:EQ)(aj:AC)(ah:EQ)(aw:List zI)(aC:EQ)(aD:AC)(aF:EQ):Option (Unit⊕Bool):=
 bif decide (s5 < (af.length : Int)) then (bif zB s5 af.length then (bif zB s5 aw.length then (bif !((decide ((af.getD s5.toNat (0,0,0)).1=(aw.getD s5.toNat (0,0,0)).1))&&((decide ((af.getD s5.toNat (0,0,0)).2.1=(aw.getD s5.toNat (0,0,0)).2.1))&&(decide ((af.getD s5.toNat (0,0,0)).2.2=(aw.getD s5.toNat (0,0,0)).2.2)))) then some (.inr false)
    else rec (zA (s5+1)) af ai aj ah aw aC aD aF)
   else none)
  else none)
 else some (.inl ())
def Js (k:Nat):Nat→qJ4
 |0,_,_,_,_,_,_,_,_,_=>none
 |n+1,s5,af,ai,aj,ah,aw,aC,aD,aF=>El k (Js k n) s5 af ai aj ah aw aC aD aF
def Jr (k:Nat)(av:List zI)(aA:EQ)(az:AC)(ay:EQ)(cV:List zI)(iY:EQ)(iZ:AC)(ja:EQ):Option Bool:=
 bif !(decide ((av.length:Int)=(cV.length:Int))) then some false
 else(Bc k aA iY).bind fun x0=>
 bif !x0 then some false
 else(Bc k ay ja).bind fun x1=>
 bif !x1 then some false
 else(ur k az iZ).bind fun x2=>
 bif !x2 then some false
 else(Js k k 0 av aA az ay cV iY iZ ja).bind fun z=>
 match z with
 |.inl z1=>some true
 |.inr z2=>some z2
abbrev qT7:Type:=List zC→List zC→Int→Option (Unit⊕Bool)
def G7 (k:Nat)(rec:qT7)(s0 s1:List zC)(s5:Int):Option (Unit⊕Bool):=
 bif decide (s5 < (s0.length : Int)) then (bif zB s5 s0.length then (bif zB s5 s1.length then (bif !((decide ((s0.getD s5.toNat (0,0,0,0,0,0,0)).1=(s1.getD s5.toNat (0,0,0,0,0,0,0)).1))&&((decide ((s0.getD s5.toNat (0,0,0,0,0,0,0)).2.1=(s1.getD s5.toNat (0,0,0,0,0,0,0)).2.1))&&((decide ((s0.getD s5.toNat (0,0,0,0,0,0,0)).2.2.1=(s1.getD s5.toNat (0,0,0,0,0,0,0)).2.2.1))&&((decide ((s0.getD s5.toNat (0,0,0,0,0,0,0)).2.2.2.1=(s1.getD s5.toNat (0,0,0,0,0,0,0)).2.2.2.1))&&((decide ((s0.getD s5.toNat (0,0,0,0,0,0,0)).2.2.2.2.1=(s1.getD s5.toNat (0,0,0,0,0,0,0)).2.2.2.2.1))&&((decide ((s0.getD s5.toNat (0,0,0,0,0,0,0)).2.2.2.2.2.1=(s1.getD s5.toNat (0,0,0,0,0,0,0)).2.2.2.2.2.1))&&(decide ((s0.getD s5.toNat (0,0,0,0,0,0,0)).2.2.2.2.2.2=(s1.getD s5.toNat (0,0,0,0,0,0,0)).2.2.2.2.2.2)))))))) then some (.inr false)
    else rec s0 s1 (zA (s5+1)))
   else none)
  else none)
 else some (.inl ())
def Lg (k:Nat):Nat→qT7
 |0,_,_,_=>none
 |n+1,s0,s1,s5=>G7 k (Lg k n) s0 s1 s5
def Lf (k:Nat)(a0 a1:List zC):Option Bool:=
 bif !(decide ((a0.length:Int)=(a1.length:Int))) then some false
 else(Lg k k a0 a1 0).bind fun z=>
 match z with
 |.inl z1=>some true
 |.inr z2=>some z2
def qm (k:Nat)(a0 a1:vH):Option Bool:=
 bif decide (a0.1 = a1.1) then (bif decide (a0.2.2.2.2.2.2.2.2.2.1 = a1.2.2.2.2.2.2.2.2.2.1) then (bif nu a0.2.2.2.2.2.2.2.2.2.2 a1.2.2.2.2.2.2.2.2.2.2 then ((Jr k a0.2.1 a0.2.2.1 a0.2.2.2.1 a0.2.2.2.2.1 a1.2.1 a1.2.2.1 a1.2.2.2.1 a1.2.2.2.2.1).bind fun x0=>
    bif x0 then ((ur k a0.2.2.2.2.2.1 a1.2.2.2.2.2.1).bind fun x1=>
     bif x1 then ((Bc k a0.2.2.2.2.2.2.1 a1.2.2.2.2.2.2.1).bind fun x2=>
      bif x2 then ((Lf k a0.2.2.2.2.2.2.2.1 a1.2.2.2.2.2.2.2.1).bind fun x3=>
       bif x3 then ((ur k a0.2.2.2.2.2.2.2.2.1 a1.2.2.2.2.2.2.2.2.1).bind fun x4=>
        some x4)
       else some false)
      else some false)
     else some false)
    else some false)
   else some false)
  else some false)
 else some false
abbrev qNx:Type:=AC→Int→Int→AC→Option X4
def Pf (k:Nat)(rec:qNx)(s0:AC)(s4 s5:Int)(r0:AC):Option X4:=
 bif decide (s5 ≥ 0) then (bif zB s4 s0.length then (bif !(decide ((IntKind.wrap .u64 (s5)) < 0)) then (bif zQ (r0.length+1) 1 then(rec s0 s4 (zA (s5-8)) (r0++[(IntKind.wrap .u8 ((shr .u64 (IntKind.wrap .u64 ((s0.getD s4.toNat 0))) (IntKind.wrap .u64 (s5)))))]))
    else none)
   else none)
  else none)
 else some (s0,s4,r0)
def Kz (k:Nat):Nat→qNx:=yR (fun _ _ _ _=>none) (Pf k)
abbrev qOg:Type:=AC→Int→AC→Option AC
def F6 (k:Nat)(rec:qOg)(s0:AC)(s4:Int)(r0:AC):Option AC:=
 bif decide (s4 < (s0.length : Int)) then ((Kz k k s0 s4 56 r0).bind fun z=>
  rec z.1 (zA (z.2.1+1)) z.2.2)
 else some r0
def BG (k:Nat):Nat→qOg:=yR (fun _ _ _=>none) (F6 k)
def Pg (k:Nat)(a0:AC):Option AC:=
 (BG k k a0 0 []).bind fun z1=>
 some z1
def sY (k:Nat)(a0:zC):Option (Unit⊕(AC)):=
 (sV k a0).bind fun x0=>
 bif !x0 then some (.inl ())
 else(DP k a0.1).bind fun x1=>
 bif (decide (0 ≤ x1)) && (decide (x1 ≤ 6)) then ((Pg k (qS [a0.2.1,a0.2.2.1,a0.2.2.2.1,a0.2.2.2.2.1,a0.2.2.2.2.2.1,a0.2.2.2.2.2.2] 0 (x1.toNat-0))).bind fun x2=>
  bif zQ (1+x2.length) 1 then some (.inr ([(IntKind.wrap .u8 (a0.1))]++x2))
  else none)
 else none
def pt (k:Nat):Option Bool:=
 some true
def LU (k:Nat)(a1:Int)(a2:AC):Option (List qP):=
 (pt k).bind fun x0=>
 bif x0 then some []
 else(A4 k a2).bind fun x1=>
 bif !(decide (x1.2 = 0)) then ((LM k a1 x1.2).bind fun x2=>
  some x2)
 else none
def LV (k:Nat):Option vH:=
 some (0,[],[],[],[],[],[],[],[],0,false)
def kg (k:Nat)(a0:Int):Option vQ:=
 bif decide ((yL .i64 a0 3)=1) then some (4,[(100,1000),(7,0)],12,20,100)
 else bif decide ((yL .i64 a0 3)=2) then some (3,[],20,20,4)
 else bif decide ((yL .i64 a0 3)=3) then some (3,[(100,1000),(7,0)],0,6,1)
 else some (3,[(100,1000),(7,0)],12,20,4)
abbrev qLr:Type:=List qP→List qP→Int→Option (Unit⊕Bool)
def FQ (k:Nat)(rec:qLr)(s0 s1:List qP)(s5:Int):Option (Unit⊕Bool):=
 bif decide (s5 < (s0.length : Int)) then (bif zB s5 s0.length then (bif zB s5 s1.length then (bif !((decide ((s0.getD s5.toNat (0,0,0,0,0,0,0,0)).1=(s1.getD s5.toNat (0,0,0,0,0,0,0,0)).1))&&((decide ((s0.getD s5.toNat (0,0,0,0,0,0,0,0)).2.1=(s1.getD s5.toNat (0,0,0,0,0,0,0,0)).2.1))&&((decide ((s0.getD s5.toNat (0,0,0,0,0,0,0,0)).2.2.1=(s1.getD s5.toNat (0,0,0,0,0,0,0,0)).2.2.1))&&((decide ((s0.getD s5.toNat (0,0,0,0,0,0,0,0)).2.2.2.1=(s1.getD s5.toNat (0,0,0,0,0,0,0,0)).2.2.2.1))&&((decide ((s0.getD s5.toNat (0,0,0,0,0,0,0,0)).2.2.2.2.1=(s1.getD s5.toNat (0,0,0,0,0,0,0,0)).2.2.2.2.1))&&((decide ((s0.getD s5.toNat (0,0,0,0,0,0,0,0)).2.2.2.2.2.1=(s1.getD s5.toNat (0,0,0,0,0,0,0,0)).2.2.2.2.2.1))&&((decide ((s0.getD s5.toNat (0,0,0,0,0,0,0,0)).2.2.2.2.2.2.1=(s1.getD s5.toNat (0,0,0,0,0,0,0,0)).2.2.2.2.2.2.1))&&(decide ((s0.getD s5.toNat (0,0,0,0,0,0,0,0)).2.2.2.2.2.2.2=(s1.getD s5.toNat (0,0,0,0,0,0,0,0)).2.2.2.2.2.2.2))))))))) then some (.inr false)
    else rec s0 s1 (zA (s5+1)))
   else none)
  else none)
 else some (.inl ())
def Ko (k:Nat):Nat→qLr
 |0,_,_,_=>none
 |n+1,s0,s1,s5=>FQ k (Ko k n) s0 s1 s5
def pc (k:Nat)(a0 a1:List qP):Option Bool:=
 bif !(decide ((a0.length:Int)=(a1.length:Int))) then some false
 else(Ko k k a0 a1 0).bind fun z=>
 match z with
 |.inl z1=>some true
 |.inr z2=>some z2
def Qd (k:Nat):Option Bool:=
 (P8 k 20000).bind fun x0=>
 (kg k 0).bind fun x1=>
 (jO k x1 x0 100).bind fun x2=>
 match x2 with
 |.inl x3=>(wU k 10 [0,5]).bind fun x4=>
  (sY k x4).bind fun x5=>
  match x5 with
  |.inl x6=>(nY k x3.2.2.1 x3.2.2.2 x3.2.1 (-1) []).bind fun x7=>
   (kg k 0).bind fun x8=>
   (jO k x8 x7.2.2.2 100).bind fun x9=>
   match x9 with
   |.inl cq=>(ni k cq.2.2.1 cq.2.2.2 cq.2.1).bind fun gn=>
    (kg k 0).bind fun lD=>
    (jO k lD gn.2.2.2 0).bind fun og=>
    match og with
    | .inl vh => bif decide (x3.1 = 0) then (bif decide ((x7.1.length : Int) = 0) then (bif decide (cq.1 = 0) then (bif decide ((gn.1.2.1.length : Int) = 3) then (bif zB 0 gn.1.2.1.length then (bif decide ((gn.1.2.1.getD 0 (0, 0, 0)).1 = 5) then ((qs k x7.2.1 x7.2.2.1 vh.2.1).bind fun bW=>
           bif !bW.1 then some (decide (vh.1=1))
           else some false)
          else some false)
         else none)
        else some false)
       else some false)
      else some false)
     else some false
    | .inr mr => bif decide (x3.1 = 0) then (bif decide ((x7.1.length : Int) = 0) then (bif decide (cq.1 = 0) then (bif decide ((gn.1.2.1.length : Int) = 3) then (bif zB 0 gn.1.2.1.length then (bif decide ((gn.1.2.1.getD 0 (0, 0, 0)).1 = 5) then ((qs k x7.2.1 x7.2.2.1 mr.2).bind fun iX=>
           bif !iX.1 then some (decide (mr.1=1))
           else some false)
          else some false)
         else none)
        else some false)
       else some false)
      else some false)
     else some false
   |.inr pv=>(LV k).bind fun ix=>
    (kg k 0).bind fun nq=>
    (jO k nq pv.2 0).bind fun Hu=>
    match Hu with
    | .inl Cm => bif decide (x3.1 = 0) then (bif decide ((x7.1.length : Int) = 0) then (bif decide (pv.1 = 0) then (bif decide ((ix.2.1.length : Int) = 3) then (bif zB 0 ix.2.1.length then (bif decide ((ix.2.1.getD 0 (0, 0, 0)).1 = 5) then ((qs k x7.2.1 x7.2.2.1 Cm.2.1).bind fun x23=>
           bif !x23.1 then some (decide (Cm.1=1))
           else some false)
          else some false)
         else none)
        else some false)
       else some false)
      else some false)
     else some false
    | .inr jb => bif decide (x3.1 = 0) then (bif decide ((x7.1.length : Int) = 0) then (bif decide (pv.1 = 0) then (bif decide ((ix.2.1.length : Int) = 3) then (bif zB 0 ix.2.1.length then (bif decide ((ix.2.1.getD 0 (0, 0, 0)).1 = 5) then ((qs k x7.2.1 x7.2.2.1 jb.2).bind fun vi=>
           bif !vi.1 then some (decide (jb.1=1))
           else some false)
          else some false)
         else none)
        else some false)
       else some false)
      else some false)
     else some false
  |.inr Rq=>(nY k x3.2.2.1 x3.2.2.2 x3.2.1 (-1) Rq).bind fun gw=>
   (kg k 0).bind fun vj=>
   (jO k vj gw.2.2.2 100).bind fun x29=>
   match x29 with
   |.inl Cn=>(ni k Cn.2.2.1 Cn.2.2.2 Cn.2.1).bind fun lE=>
    (kg k 0).bind fun x32=>
    (jO k x32 lE.2.2.2 0).bind fun x33=>
    match x33 with
    | .inl rz => bif decide (x3.1 = 0) then (bif decide ((gw.1.length : Int) = 0) then (bif decide (Cn.1 = 0) then (bif decide ((lE.1.2.1.length : Int) = 3) then (bif zB 0 lE.1.2.1.length then (bif decide ((lE.1.2.1.getD 0 (0, 0, 0)).1 = 5) then ((qs k gw.2.1 gw.2.2.1 rz.2.1).bind fun x35=>
           bif !x35.1 then some (decide (rz.1=1))
           else some false)
          else some false)
         else none)
        else some false)
       else some false)
      else some false)
     else some false
    | .inr Hc => bif decide (x3.1 = 0) then (bif decide ((gw.1.length : Int) = 0) then (bif decide (Cn.1 = 0) then (bif decide ((lE.1.2.1.length : Int) = 3) then (bif zB 0 lE.1.2.1.length then (bif decide ((lE.1.2.1.getD 0 (0, 0, 0)).1 = 5) then ((qs k gw.2.1 gw.2.2.1 Hc.2).bind fun XH=>
           bif !XH.1 then some (decide (Hc.1=1))
           else some false)
          else some false)
         else none)
        else some false)
       else some false)
      else some false)
     else some false
   |.inr cP=>(LV k).bind fun gq=>
    (kg k 0).bind fun Cb=>
    (jO k Cb cP.2 0).bind fun iQ=>
    match iQ with
    | .inl kf => bif decide (x3.1 = 0) then (bif decide ((gw.1.length : Int) = 0) then (bif decide (cP.1 = 0) then (bif decide ((gq.2.1.length : Int) = 3) then (bif zB 0 gq.2.1.length then (bif decide ((gq.2.1.getD 0 (0, 0, 0)).1 = 5) then ((qs k gw.2.1 gw.2.2.1 kf.2.1).bind fun Ls=>
           bif !Ls.1 then some (decide (kf.1=1))
           else some false)
          else some false)
         else none)
        else some false)
       else some false)
      else some false)
     else some false
    | .inr Hd => bif decide (x3.1 = 0) then (bif decide ((gw.1.length : Int) = 0) then (bif decide (cP.1 = 0) then (bif decide ((gq.2.1.length : Int) = 3) then (bif zB 0 gq.2.1.length then (bif decide ((gq.2.1.getD 0 (0, 0, 0)).1 = 5) then ((qs k gw.2.1 gw.2.2.1 Hd.2).bind fun iR=>
           bif !iR.1 then some (decide (Hd.1=1))
           else some false)
          else some false)
         else none)
        else some false)
       else some false)
      else some false)
     else some false
 |.inr nj=>(wU k 10 [0,5]).bind fun Lt=>
  (sY k Lt).bind fun iS=>
  match iS with
  |.inl Qb=>(LU k (-1) []).bind fun Hv=>
   (kg k 0).bind fun x51=>
   (jO k x51 nj.2 100).bind fun x52=>
   match x52 with
   |.inl px=>(ni k px.2.2.1 px.2.2.2 px.2.1).bind fun rA=>
    (kg k 0).bind fun x55=>
    (jO k x55 rA.2.2.2 0).bind fun x56=>
    match x56 with
    | .inl x57 => bif decide (nj.1 = 0) then (bif decide ((Hv.length : Int) = 0) then (bif decide (px.1 = 0) then (bif decide ((rA.1.2.1.length : Int) = 3) then (bif zB 0 rA.1.2.1.length then (bif decide ((rA.1.2.1.getD 0 (0, 0, 0)).1 = 5) then ((pt k).bind fun x58=>
           bif !x58 then some (decide (x57.1=1))
           else some false)
          else some false)
         else none)
        else some false)
       else some false)
      else some false)
     else some false
    | .inr x59 => bif decide (nj.1 = 0) then (bif decide ((Hv.length : Int) = 0) then (bif decide (px.1 = 0) then (bif decide ((rA.1.2.1.length : Int) = 3) then (bif zB 0 rA.1.2.1.length then (bif decide ((rA.1.2.1.getD 0 (0, 0, 0)).1 = 5) then ((pt k).bind fun x60=>
           bif !x60 then some (decide (x59.1=1))
           else some false)
          else some false)
         else none)
        else some false)
       else some false)
      else some false)
     else some false
   |.inr x61=>(LV k).bind fun Hw=>
    (kg k 0).bind fun x63=>
    (jO k x63 x61.2 0).bind fun x64=>
    match x64 with
    | .inl x65 => bif decide (nj.1 = 0) then (bif decide ((Hv.length : Int) = 0) then (bif decide (x61.1 = 0) then (bif decide ((Hw.2.1.length : Int) = 3) then (bif zB 0 Hw.2.1.length then (bif decide ((Hw.2.1.getD 0 (0, 0, 0)).1 = 5) then ((pt k).bind fun x66=>
           bif !x66 then some (decide (x65.1=1))
           else some false)
          else some false)
         else none)
        else some false)
       else some false)
      else some false)
     else some false
    | .inr x67 => bif decide (nj.1 = 0) then (bif decide ((Hv.length : Int) = 0) then (bif decide (x61.1 = 0) then (bif decide ((Hw.2.1.length : Int) = 3) then (bif zB 0 Hw.2.1.length then (bif decide ((Hw.2.1.getD 0 (0, 0, 0)).1 = 5) then ((pt k).bind fun x68=>
           bif !x68 then some (decide (x67.1=1))
           else some false)
          else some false)
         else none)
        else some false)
       else some false)
      else some false)
     else some false
  |.inr x69=>(LU k (-1) x69).bind fun Rr=>
   (kg k 0).bind fun x71=>
   (jO k x71 nj.2 100).bind fun x72=>
   match x72 with
   |.inl LX=>(ni k LX.2.2.1 LX.2.2.2 LX.2.1).bind fun Co=>
    (kg k 0).bind fun x75=>
    (jO k x75 Co.2.2.2 0).bind fun x76=>
    match x76 with
    | .inl x77 => bif decide (nj.1 = 0) then (bif decide ((Rr.length : Int) = 0) then (bif decide (LX.1 = 0) then (bif decide ((Co.1.2.1.length : Int) = 3) then (bif zB 0 Co.1.2.1.length then (bif decide ((Co.1.2.1.getD 0 (0, 0, 0)).1 = 5) then ((pt k).bind fun x78=>
           bif !x78 then some (decide (x77.1=1))
           else some false)
          else some false)
         else none)
        else some false)
       else some false)
      else some false)
     else some false
    | .inr x79 => bif decide (nj.1 = 0) then (bif decide ((Rr.length : Int) = 0) then (bif decide (LX.1 = 0) then (bif decide ((Co.1.2.1.length : Int) = 3) then (bif zB 0 Co.1.2.1.length then (bif decide ((Co.1.2.1.getD 0 (0, 0, 0)).1 = 5) then ((pt k).bind fun x80=>
           bif !x80 then some (decide (x79.1=1))
           else some false)
          else some false)
         else none)
        else some false)
       else some false)
      else some false)
     else some false
   |.inr x81=>(LV k).bind fun Hy=>
    (kg k 0).bind fun x83=>
    (jO k x83 x81.2 0).bind fun x84=>
    match x84 with
    | .inl x85 => bif decide (nj.1 = 0) then (bif decide ((Rr.length : Int) = 0) then (bif decide (x81.1 = 0) then (bif decide ((Hy.2.1.length : Int) = 3) then (bif zB 0 Hy.2.1.length then (bif decide ((Hy.2.1.getD 0 (0, 0, 0)).1 = 5) then ((pt k).bind fun x86=>
           bif !x86 then some (decide (x85.1=1))
           else some false)
          else some false)
         else none)
        else some false)
       else some false)
      else some false)
     else some false
    | .inr x87 => bif decide (nj.1 = 0) then (bif decide ((Rr.length : Int) = 0) then (bif decide (x81.1 = 0) then (bif decide ((Hy.2.1.length : Int) = 3) then (bif zB 0 Hy.2.1.length then (bif decide ((Hy.2.1.getD 0 (0, 0, 0)).1 = 5) then ((pt k).bind fun x88=>
           bif !x88 then some (decide (x87.1=1))
           else some false)
          else some false)
         else none)
        else some false)
       else some false)
      else some false)
     else some false
abbrev He:Type:=Int⊕(Int×pw×gv×y8×AC×AC)⊕Bool
abbrev Lr:Type:=(Int×(List qP)×(List Bool)×Int×Int×(Int×Int×Int×Int)×(List vX)×y8×AC×AC×pw×gv×vH)⊕(Int×(List qP)×(List Bool)×Int×Int×(Int×Int×Int×Int)×(List vX)×y8×AC×AC×vM×(List zI)×EQ×AC×EQ×AC×EQ×(List zC)×AC)→Option He
def tc (k:Nat)(rec:Lr)(z:(Int×(List qP)×(List Bool)×Int×Int×(Int×Int×Int×Int)×(List vX)×y8×AC×AC×pw×gv×vH)⊕(Int×(List qP)×(List Bool)×Int×Int×(Int×Int×Int×Int)×(List vX)×y8×AC×AC×vM×(List zI)×EQ×AC×EQ×AC×EQ×(List zC)×AC)):Option He:=match z with
 | .inl z => bif decide (z.2.2.2.2.1 < (z.2.1.length : Int)) then (bif decide (z.2.2.2.2.1 < (z.2.2.1.length : Int)) then (bif zB z.2.2.2.2.1 z.2.2.1.length then (bif z.2.2.1.getD z.2.2.2.2.1.toNat false then ((jO k (z.2.2.2.2.2.1.1,z.2.2.2.2.2.2.1,z.2.2.2.2.2.1.2) (z.2.2.2.2.2.2.2.1.1,z.2.2.2.2.2.2.2.2.1,z.2.2.2.2.2.2.2.1.2.1,z.2.2.2.2.2.2.2.2.2.1,z.2.2.2.2.2.2.2.1.2.2) z.1).bind fun x5=>
      match x5 with
      | .inl x6 => bif zB z.2.2.2.2.1 z.2.1.length then ((sY k (z.2.1.getD z.2.2.2.2.1.toNat (0,0,0,0,0,0,0,0)).2).bind fun x7=>
        match x7 with
        | .inl x8 => bif zB z.2.2.2.2.1 z.2.1.length then ((nY k x6.2.2.1 x6.2.2.2 x6.2.1 (z.2.1.getD z.2.2.2.2.1.toNat (0,0,0,0,0,0,0,0)).1 []).bind fun x9=>
          bif !(decide ((x9.1.length:Int)=1)) then some (.inr (.inr false))
          else bif zB 0 x9.1.length then ((wU k 16 [2]).bind fun cq=>
           bif !((decide ((x9.1.getD 0 (0,0,0,0,0,0,0,0)).2.1=cq.1))&&((decide ((x9.1.getD 0 (0,0,0,0,0,0,0,0)).2.2.1=cq.2.1))&&((decide ((x9.1.getD 0 (0,0,0,0,0,0,0,0)).2.2.2.1=cq.2.2.1))&&((decide ((x9.1.getD 0 (0,0,0,0,0,0,0,0)).2.2.2.2.1=cq.2.2.2.1))&&((decide ((x9.1.getD 0 (0,0,0,0,0,0,0,0)).2.2.2.2.2.1=cq.2.2.2.2.1))&&((decide ((x9.1.getD 0 (0,0,0,0,0,0,0,0)).2.2.2.2.2.2.1=cq.2.2.2.2.2.1))&&(decide ((x9.1.getD 0 (0,0,0,0,0,0,0,0)).2.2.2.2.2.2.2=cq.2.2.2.2.2.2)))))))) then some (.inr (.inr false))
           else rec (.inl (z.1,z.2.1,z.2.2.1,x6.1,(zA (z.2.2.2.2.1+1)),z.2.2.2.2.2.1,z.2.2.2.2.2.2.1,(x9.2.2.2.1,x9.2.2.2.2.2.1,x9.2.2.2.2.2.2.2),x9.2.2.2.2.1,x9.2.2.2.2.2.2.1,x9.2.1,x9.2.2.1,z.2.2.2.2.2.2.2.2.2.2.2.2)))
          else none)
         else none
        | .inr gn => bif zB z.2.2.2.2.1 z.2.1.length then ((nY k x6.2.2.1 x6.2.2.2 x6.2.1 (z.2.1.getD z.2.2.2.2.1.toNat (0,0,0,0,0,0,0,0)).1 gn).bind fun lD=>
          bif Nat.blt 0 gn.length then (bif zB z.2.2.2.2.1 z.2.1.length then ((yh k (z.2.2.2.2.2.1.1,z.2.2.2.2.2.2.1,z.2.2.2.2.2.1.2) z.2.2.2.2.2.2.2.2.2.2.2.2 (z.2.1.getD z.2.2.2.2.1.toNat (0,0,0,0,0,0,0,0))).bind fun og=>
            bif !(decide (og.2.2 = 0)) then (bif zB z.2.2.2.2.1 z.2.1.length then ((wU k 16 [og.2.2]).bind fun vh=>
              (pc k lD.1 [((z.2.1.getD z.2.2.2.2.1.toNat (0,0,0,0,0,0,0,0)).1,vh)]).bind fun bW=>
              bif !bW then some (.inr (.inr false))
              else(ni k lD.2.1 lD.2.2.1 lD.2.2.2).bind fun mr=>
              (qm k mr.1 og.1).bind fun iX=>
              bif !iX then some (.inr (.inr false))
              else rec (.inl (z.1,z.2.1,z.2.2.1,x6.1,(zA (z.2.2.2.2.1+1)),z.2.2.2.2.2.1,z.2.2.2.2.2.2.1,(mr.2.2.2.1,mr.2.2.2.2.2.1,mr.2.2.2.2.2.2.2),mr.2.2.2.2.1,mr.2.2.2.2.2.2.1,mr.2.1,mr.2.2.1,og.1)))
             else none)
            else(pc k lD.1 og.2.1).bind fun pv=>
            bif !pv then some (.inr (.inr false))
            else(ni k lD.2.1 lD.2.2.1 lD.2.2.2).bind fun ix=>
            (qm k ix.1 og.1).bind fun nq=>
            bif !nq then some (.inr (.inr false))
            else rec (.inl (z.1,z.2.1,z.2.2.1,x6.1,(zA (z.2.2.2.2.1+1)),z.2.2.2.2.2.1,z.2.2.2.2.2.2.1,(ix.2.2.2.1,ix.2.2.2.2.2.1,ix.2.2.2.2.2.2.2),ix.2.2.2.2.1,ix.2.2.2.2.2.2.1,ix.2.1,ix.2.2.1,og.1)))
           else none)
          else none)
         else none)
       else none
      |.inr Hu=>some (.inr (.inr false)))
     else bif zB z.2.2.2.2.1 z.2.1.length then ((sY k (z.2.1.getD z.2.2.2.2.1.toNat (0,0,0,0,0,0,0,0)).2).bind fun Cm=>
      match Cm with
      | .inl x23 => bif zB z.2.2.2.2.1 z.2.1.length then ((nY k z.2.2.2.2.2.2.2.2.2.2.1 z.2.2.2.2.2.2.2.2.2.2.2.1 (z.2.2.2.2.2.2.2.1.1,z.2.2.2.2.2.2.2.2.1,z.2.2.2.2.2.2.2.1.2.1,z.2.2.2.2.2.2.2.2.2.1,z.2.2.2.2.2.2.2.1.2.2) (z.2.1.getD z.2.2.2.2.1.toNat (0,0,0,0,0,0,0,0)).1 []).bind fun jb=>
        bif !(decide ((jb.1.length:Int)=1)) then some (.inr (.inr false))
        else bif zB 0 jb.1.length then ((wU k 16 [2]).bind fun vi=>
         bif !((decide ((jb.1.getD 0 (0,0,0,0,0,0,0,0)).2.1=vi.1))&&((decide ((jb.1.getD 0 (0,0,0,0,0,0,0,0)).2.2.1=vi.2.1))&&((decide ((jb.1.getD 0 (0,0,0,0,0,0,0,0)).2.2.2.1=vi.2.2.1))&&((decide ((jb.1.getD 0 (0,0,0,0,0,0,0,0)).2.2.2.2.1=vi.2.2.2.1))&&((decide ((jb.1.getD 0 (0,0,0,0,0,0,0,0)).2.2.2.2.2.1=vi.2.2.2.2.1))&&((decide ((jb.1.getD 0 (0,0,0,0,0,0,0,0)).2.2.2.2.2.2.1=vi.2.2.2.2.2.1))&&(decide ((jb.1.getD 0 (0,0,0,0,0,0,0,0)).2.2.2.2.2.2.2=vi.2.2.2.2.2.2)))))))) then some (.inr (.inr false))
         else rec (.inl (vL z ((zA (z.2.2.2.2.1+1)),z.2.2.2.2.2.1,z.2.2.2.2.2.2.1,(jb.2.2.2.1,jb.2.2.2.2.2.1,jb.2.2.2.2.2.2.2),jb.2.2.2.2.1,jb.2.2.2.2.2.2.1,jb.2.1,jb.2.2.1,z.2.2.2.2.2.2.2.2.2.2.2.2))))
        else none)
       else none
      | .inr Rq => bif zB z.2.2.2.2.1 z.2.1.length then ((nY k z.2.2.2.2.2.2.2.2.2.2.1 z.2.2.2.2.2.2.2.2.2.2.2.1 (z.2.2.2.2.2.2.2.1.1,z.2.2.2.2.2.2.2.2.1,z.2.2.2.2.2.2.2.1.2.1,z.2.2.2.2.2.2.2.2.2.1,z.2.2.2.2.2.2.2.1.2.2) (z.2.1.getD z.2.2.2.2.1.toNat (0,0,0,0,0,0,0,0)).1 Rq).bind fun gw=>
        bif Nat.blt 0 Rq.length then (bif zB z.2.2.2.2.1 z.2.1.length then ((yh k (z.2.2.2.2.2.1.1,z.2.2.2.2.2.2.1,z.2.2.2.2.2.1.2) z.2.2.2.2.2.2.2.2.2.2.2.2 (z.2.1.getD z.2.2.2.2.1.toNat (0,0,0,0,0,0,0,0))).bind fun vj=>
          bif !(decide (vj.2.2 = 0)) then (bif zB z.2.2.2.2.1 z.2.1.length then ((wU k 16 [vj.2.2]).bind fun x29=>
            (pc k gw.1 [((z.2.1.getD z.2.2.2.2.1.toNat (0,0,0,0,0,0,0,0)).1,x29)]).bind fun Cn=>
            bif !Cn then some (.inr (.inr false))
            else(ni k gw.2.1 gw.2.2.1 gw.2.2.2).bind fun lE=>
            (qm k lE.1 vj.1).bind fun x32=>
            bif !x32 then some (.inr (.inr false))
            else rec (.inl (vL z ((zA (z.2.2.2.2.1+1)),z.2.2.2.2.2.1,z.2.2.2.2.2.2.1,(lE.2.2.2.1,lE.2.2.2.2.2.1,lE.2.2.2.2.2.2.2),lE.2.2.2.2.1,lE.2.2.2.2.2.2.1,lE.2.1,lE.2.2.1,vj.1))))
           else none)
          else(pc k gw.1 vj.2.1).bind fun x33=>
          bif !x33 then some (.inr (.inr false))
          else(ni k gw.2.1 gw.2.2.1 gw.2.2.2).bind fun rz=>
          (qm k rz.1 vj.1).bind fun x35=>
          bif !x35 then some (.inr (.inr false))
          else rec (.inl (vL z ((zA (z.2.2.2.2.1+1)),z.2.2.2.2.2.1,z.2.2.2.2.2.2.1,(rz.2.2.2.1,rz.2.2.2.2.2.1,rz.2.2.2.2.2.2.2),rz.2.2.2.2.1,rz.2.2.2.2.2.2.1,rz.2.1,rz.2.2.1,vj.1))))
         else none)
        else none)
       else none)
     else none)
    else none)
   else bif zB z.2.2.2.2.1 z.2.1.length then ((sY k (z.2.1.getD z.2.2.2.2.1.toNat (0,0,0,0,0,0,0,0)).2).bind fun Hc=>
    match Hc with
    | .inl XH => bif zB z.2.2.2.2.1 z.2.1.length then ((nY k z.2.2.2.2.2.2.2.2.2.2.1 z.2.2.2.2.2.2.2.2.2.2.2.1 (z.2.2.2.2.2.2.2.1.1,z.2.2.2.2.2.2.2.2.1,z.2.2.2.2.2.2.2.1.2.1,z.2.2.2.2.2.2.2.2.2.1,z.2.2.2.2.2.2.2.1.2.2) (z.2.1.getD z.2.2.2.2.1.toNat (0,0,0,0,0,0,0,0)).1 []).bind fun cP=>
      bif !(decide ((cP.1.length:Int)=1)) then some (.inr (.inr false))
      else bif zB 0 cP.1.length then ((wU k 16 [2]).bind fun gq=>
       bif !((decide ((cP.1.getD 0 (0,0,0,0,0,0,0,0)).2.1=gq.1))&&((decide ((cP.1.getD 0 (0,0,0,0,0,0,0,0)).2.2.1=gq.2.1))&&((decide ((cP.1.getD 0 (0,0,0,0,0,0,0,0)).2.2.2.1=gq.2.2.1))&&((decide ((cP.1.getD 0 (0,0,0,0,0,0,0,0)).2.2.2.2.1=gq.2.2.2.1))&&((decide ((cP.1.getD 0 (0,0,0,0,0,0,0,0)).2.2.2.2.2.1=gq.2.2.2.2.1))&&((decide ((cP.1.getD 0 (0,0,0,0,0,0,0,0)).2.2.2.2.2.2.1=gq.2.2.2.2.2.1))&&(decide ((cP.1.getD 0 (0,0,0,0,0,0,0,0)).2.2.2.2.2.2.2=gq.2.2.2.2.2.2)))))))) then some (.inr (.inr false))
       else rec (.inl (vL z ((zA (z.2.2.2.2.1+1)),z.2.2.2.2.2.1,z.2.2.2.2.2.2.1,(cP.2.2.2.1,cP.2.2.2.2.2.1,cP.2.2.2.2.2.2.2),cP.2.2.2.2.1,cP.2.2.2.2.2.2.1,cP.2.1,cP.2.2.1,z.2.2.2.2.2.2.2.2.2.2.2.2))))
      else none)
     else none
    | .inr Cb => bif zB z.2.2.2.2.1 z.2.1.length then ((nY k z.2.2.2.2.2.2.2.2.2.2.1 z.2.2.2.2.2.2.2.2.2.2.2.1 (z.2.2.2.2.2.2.2.1.1,z.2.2.2.2.2.2.2.2.1,z.2.2.2.2.2.2.2.1.2.1,z.2.2.2.2.2.2.2.2.2.1,z.2.2.2.2.2.2.2.1.2.2) (z.2.1.getD z.2.2.2.2.1.toNat (0,0,0,0,0,0,0,0)).1 Cb).bind fun iQ=>
      bif Nat.blt 0 Cb.length then (bif zB z.2.2.2.2.1 z.2.1.length then ((yh k (z.2.2.2.2.2.1.1,z.2.2.2.2.2.2.1,z.2.2.2.2.2.1.2) z.2.2.2.2.2.2.2.2.2.2.2.2 (z.2.1.getD z.2.2.2.2.1.toNat (0,0,0,0,0,0,0,0))).bind fun kf=>
        bif !(decide (kf.2.2 = 0)) then (bif zB z.2.2.2.2.1 z.2.1.length then ((wU k 16 [kf.2.2]).bind fun Ls=>
          (pc k iQ.1 [((z.2.1.getD z.2.2.2.2.1.toNat (0,0,0,0,0,0,0,0)).1,Ls)]).bind fun Hd=>
          bif !Hd then some (.inr (.inr false))
          else(ni k iQ.2.1 iQ.2.2.1 iQ.2.2.2).bind fun iR=>
          (qm k iR.1 kf.1).bind fun nj=>
          bif !nj then some (.inr (.inr false))
          else rec (.inl (vL z ((zA (z.2.2.2.2.1+1)),z.2.2.2.2.2.1,z.2.2.2.2.2.2.1,(iR.2.2.2.1,iR.2.2.2.2.2.1,iR.2.2.2.2.2.2.2),iR.2.2.2.2.1,iR.2.2.2.2.2.2.1,iR.2.1,iR.2.2.1,kf.1))))
         else none)
        else(pc k iQ.1 kf.2.1).bind fun Lt=>
        bif !Lt then some (.inr (.inr false))
        else(ni k iQ.2.1 iQ.2.2.1 iQ.2.2.2).bind fun iS=>
        (qm k iS.1 kf.1).bind fun Qb=>
        bif !Qb then some (.inr (.inr false))
        else rec (.inl (vL z ((zA (z.2.2.2.2.1+1)),z.2.2.2.2.2.1,z.2.2.2.2.2.2.1,(iS.2.2.2.1,iS.2.2.2.2.2.1,iS.2.2.2.2.2.2.2),iS.2.2.2.2.1,iS.2.2.2.2.2.2.1,iS.2.1,iS.2.2.1,kf.1))))
       else none)
      else none)
     else none)
   else none)
  else some (.inr (.inl (z.2.2.2.1,z.2.2.2.2.2.2.2.2.2.2.1,z.2.2.2.2.2.2.2.2.2.2.2.1,z.2.2.2.2.2.2.2.1,z.2.2.2.2.2.2.2.2.1,z.2.2.2.2.2.2.2.2.2.1)))
 |.inr z1=>some (.inl z1.2.2.2.1)
def pn (k:Nat):Nat→Lr:=yR (fun _=>none) (tc k)
def Qc (k:Nat)(a0 a1:Int)(a2:List qP)(a3:List Bool):Option Bool:=
 bif decide ((a2.length:Int)>60) then some true
 else bif decide ((a3.length:Int)>60) then some true
 else bif decide (a1<1) then some true
 else bif decide (a1>100) then some true
 else(kg k a0).bind fun x0=>
 (P8 k 200000).bind fun x1=>
 (jO k x0 x1 a1).bind fun x2=>
 match x2 with
 |.inl x3=>(P9 k x0).bind fun x4=>
  (pn k k (.inl (a1,a2,a3,x3.1,0,(x0.1,x0.2.2),x0.2.1,(x3.2.1.1,x3.2.1.2.2.1,x3.2.1.2.2.2.2),x3.2.1.2.1,x3.2.1.2.2.2.1,x3.2.2.1,x3.2.2.2,x4))).bind fun z2=>
  match z2 with
  |.inl z3=>some false
  | .inr (.inl z4) => bif decide (z4.1 = 0) then ((pt k).bind fun Hv=>
    bif Hv then ((LU k 0 []).bind fun x51=>
     bif decide ((x51.length : Int) = 0) then ((Qd k).bind fun x52=>
      some x52)
     else some false)
    else some false)
   else some false
  |.inr (.inr z5)=>some z5
 |.inr px=>(P9 k x0).bind fun rA=>
  (pn k k (.inr (a1,a2,a3,px.1,0,(x0.1,x0.2.2),x0.2.1,(px.2.1,px.2.2.2.1,px.2.2.2.2.2),px.2.2.1,px.2.2.2.2.1,(rA.1,rA.2.2.2.2.2.2.2.2.2),(aa6 rA)))).bind fun z6=>
  match z6 with
  |.inl z7=>some false
  | .inr (.inl z8) => bif decide (z8.1 = 0) then ((pt k).bind fun x55=>
    bif x55 then ((LU k 0 []).bind fun x56=>
     bif decide ((x56.length : Int) = 0) then ((Qd k).bind fun x57=>
      some x57)
     else some false)
    else some false)
   else some false
  |.inr (.inr z9)=>some z9
end Go.Ab.Gi
