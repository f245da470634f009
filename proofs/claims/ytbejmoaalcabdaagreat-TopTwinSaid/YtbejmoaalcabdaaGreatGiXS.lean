/- part 5 -/
import Derived.Test.YtbejmoaalcabdaaGreatGiXSa
set_option linter.unusedVariables false
set_option maxRecDepth 100000
namespace Go.Ab.Gi
abbrev qVd:Type:=(List zC)⊕Bool
abbrev qUr:Type:=List zC→Int→List zK→EQ→AC→EQ→Option qVd
def CR (k:Nat)(rec:qUr)(s1:List zC)(s5:Int)(ae:List zK)(ah:EQ)(ai:AC)(ag:EQ):Option qVd:=
 bif decide (s5 < (s1.length : Int)) then (bif zB s5 s1.length then ((TI k ae ah ai ag (s1.getD s5.toNat (0,0,0,0,0,0,0)).1 (s1.getD s5.toNat (0,0,0,0,0,0,0)).2.1 (s1.getD s5.toNat (0,0,0,0,0,0,0)).2.2.1 (s1.getD s5.toNat (0,0,0,0,0,0,0)).2.2.2.1 (s1.getD s5.toNat (0,0,0,0,0,0,0)).2.2.2.2.1 (s1.getD s5.toNat (0,0,0,0,0,0,0)).2.2.2.2.2.1 (s1.getD s5.toNat (0,0,0,0,0,0,0)).2.2.2.2.2.2).bind fun x0=>
   bif !x0 then some (.inr false)
   else rec s1 (zA (s5+1)) ae ah ai ag)
  else none)
 else some (.inl s1)
def H2 (k:Nat):Nat→qUr
 |0,_,_,_,_,_,_=>none
 |n+1,s1,s5,ae,ah,ai,ag=>CR k (H2 k n) s1 s5 ae ah ai ag
def H0 (k:Nat)(au:List zK)(az:EQ)(ay:AC)(ax:EQ)(a1:List zC):Option Bool:=
 (H2 k k a1 0 au az ay ax).bind fun z=>
 match z with
 |.inl z1=>some (decide ((z1.length:Int)≤64))
 |.inr z2=>some z2
abbrev qIs:Type:=EQ→Int→EQ→Option EQ
def CK (k:Nat)(rec:qIs)(s0:EQ)(s4:Int)(m0:EQ):Option EQ:=
 bif decide (s4 < (s0.length : Int)) then (bif zB s4 s0.length then (bif zO (0 + (s0.getD s4.toNat []).length) 8 then (bif zO (m0.length+1) 24 then(rec s0 (zA (s4+1)) (m0++[(s0.getD s4.toNat [])]))
    else none)
   else none)
  else none)
 else some m0
def HO (k:Nat):Nat→qIs
 |0,_,_,_=>none
 |n+1,s0,s4,m0=>CK k (HO k n) s0 s4 m0
def HP (k:Nat)(a0:EQ):Option EQ:=
 (HO k k a0 0 []).bind fun z=>
 some z
def nD (k:Nat)(au:List zK)(az:EQ)(ay:AC)(ax:EQ):Option Kl:=
 bif zO (0 + au.length) 24 then ((HP k az).bind fun x0=>
  bif zO (0 + ay.length) 8 then ((HP k ax).bind fun x1=>
   some (au,x0,ay,x1))
  else none)
 else none
abbrev qNg:Type:=List zC→Int→Int→Int→Int→Option vI
def CX (k:Nat)(rec:qNg)(s0:List zC)(s1 s6 s7 s8:Int):Option vI:=
 bif decide (s8 < (s0.length : Int)) then (bif zB s8 s0.length then (bif !(decide ((s0.getD s8.toNat (0,0,0,0,0,0,0)).2.1=s1)) then(rec s0 s1 s6 s7 (zA (s8+1)))
   else bif zB s8 s0.length then (bif decide ((s0.getD s8.toNat (0, 0, 0, 0, 0, 0, 0)).2.2.2.2.1 = 3) then (bif zB s8 s0.length then(rec s0 s1 (zA (s6+(s0.getD s8.toNat (0,0,0,0,0,0,0)).2.2.2.1)) s7 (zA (s8+1)))
     else none)
    else bif zB s8 s0.length then(rec s0 s1 s6 (zA (s7+(s0.getD s8.toNat (0,0,0,0,0,0,0)).2.2.2.1)) (zA (s8+1)))
    else none)
   else none)
  else none)
 else some (s6,s7)
def H5 (k:Nat):Nat→qNg
 |0,_,_,_,_,_=>none
 |n+1,s0,s1,s6,s7,s8=>CX k (H5 k n) s0 s1 s6 s7 s8
def H4 (k:Nat)(a0:List zC)(a1:Int):Option vI:=
 (H5 k k a0 a1 0 0 0).bind fun z=>
 some (z.1,z.2)
def Md (k:Nat)(a0:List zC)(a1:Int):Option Int:=
 (H4 k a0 a1).bind fun x0=>
 some x0.2
def CY (k:Nat)(ij ik eK a1:Int):Option Int:=
 bif decide (a1≥eK) then some 0
 else some (zA (eK-a1))
abbrev qYi:Type:=List zC→Int→Int→Int→Int→Option Int
def CW (k:Nat)(rec:qYi)(s0:List zC)(s1 s2 s7 s8:Int):Option Int:=
 bif decide (s8 < (s0.length : Int)) then (bif zB s8 s0.length then (bif decide ((s0.getD s8.toNat (0, 0, 0, 0, 0, 0, 0)).2.1 = s1) then (bif zB s8 s0.length then (bif decide ((s0.getD s8.toNat (0, 0, 0, 0, 0, 0, 0)).2.2.1 = s2) then (bif zB s8 s0.length then(rec s0 s1 s2 (zA (s7+(s0.getD s8.toNat (0,0,0,0,0,0,0)).2.2.2.1)) (zA (s8+1)))
      else none)
     else rec s0 s1 s2 s7 (zA (s8+1)))
    else none)
   else rec s0 s1 s2 s7 (zA (s8+1)))
  else none)
 else some s7
def H3 (k:Nat):Nat→qYi
 |0,_,_,_,_,_=>none
 |n+1,s0,s1,s2,s7,s8=>CW k (H3 k n) s0 s1 s2 s7 s8
def uT (k:Nat)(a0:List zC)(a1 a2:Int):Option Int:=
 (H3 k k a0 a1 a2 0 0).bind fun z=>
 some z
def Ma (k:Nat)(a0:List zC)(a1 a2:Int):Option Int:=
 (uT k a0 a1 a2).bind fun x0=>
 (uT k a0 a2 a1).bind fun x1=>
 some (zA (x0-x1))
abbrev qMz:Type:=EQ→Int→Int→Option (Unit⊕Bool)
def Cx (k:Nat)(rec:qMz)(s0:EQ)(s1 s5:Int):Option (Unit⊕Bool):=
 bif decide (s5 < s1) then (bif zB s5 s0.length then (bif !(decide (((s0.getD s5.toNat []).length:Int)=s1)) then some (.inr false)
   else rec s0 s1 (zA (s5+1)))
  else none)
 else some (.inl ())
def HF (k:Nat):Nat→qMz
 |0,_,_,_=>none
 |n+1,s0,s1,s5=>Cx k (HF k n) s0 s1 s5
def HE (k:Nat)(a0:EQ)(a1:Int):Option Bool:=
 bif !(decide ((a0.length:Int)=a1)) then some false
 else(HF k k a0 a1 0).bind fun z=>
 match z with
 |.inl z1=>some true
 |.inr z2=>some z2
def HC (k:Nat)(ij ik eK:Int):Option Bool:=
 bif decide (ij > (-4611686018427387904)) then (bif decide (ij < 4611686018427387904) then (bif decide (ik ≥ 0) then (bif decide (ik ≤ 2305843009213693952) then (bif decide (eK≥0) then some (decide (eK≤2305843009213693952))
     else some false)
    else some false)
   else some false)
  else some false)
 else some false
def HD (k:Nat)(a0:Int):Option Bool:=
 bif decide (a0≥(-1)) then some (decide (a0≤2305843009213693952))
 else some false
abbrev qPw:Type:=(Int×Int×(List zK)×EQ×AC×EQ)⊕Bool
abbrev qT1:Type:=Int→Int→Int→List zK→EQ→AC→EQ→Option qPw
def Cz (k:Nat)(rec:qT1)(s3 s4 s5:Int)(ae:List zK)(ah:EQ)(ai:AC)(ag:EQ):Option qPw:=
 bif decide (s5 < s3) then (bif zB s4 ah.length then (bif zB s5 (ah.getD s4.toNat []).length then ((HD k ((ah.getD s4.toNat []).getD s5.toNat 0)).bind fun x4=>
    bif !x4 then some (.inr false)
    else bif zB s4 ag.length then (bif zB s5 (ag.getD s4.toNat []).length then (bif decide (((ag.getD s4.toNat []).getD s5.toNat 0)≤(-72057594037927936)) then some (.inr false)
      else bif zB s4 ag.length then (bif zB s5 (ag.getD s4.toNat []).length then (bif decide (((ag.getD s4.toNat []).getD s5.toNat 0)≥72057594037927936) then some (.inr false)
        else bif zB s4 ag.length then (bif zB s5 (ag.getD s4.toNat []).length then (bif zB s5 ag.length then (bif zB s4 (ag.getD s5.toNat []).length then (bif !(decide (((ag.getD s4.toNat []).getD s5.toNat 0)=(zA (0-((ag.getD s5.toNat []).getD s4.toNat 0))))) then some (.inr false)
            else rec s3 s4 (zA (s5+1)) ae ah ai ag)
           else none)
          else none)
         else none)
        else none)
       else none)
      else none)
     else none)
    else none)
   else none)
  else none)
 else some (.inl (s3,s4,ae,ah,ai,ag))
def Cy (k:Nat):Nat→qT1
 |0,_,_,_,_,_,_,_=>none
 |n+1,s3,s4,s5,ae,ah,ai,ag=>Cz k (Cy k n) s3 s4 s5 ae ah ai ag
abbrev qYq:Type:=Int→Int→List zK→EQ→AC→EQ→Option (Unit⊕Bool)
def CB (k:Nat)(rec:qYq)(s3 s4:Int)(ae:List zK)(ah:EQ)(ai:AC)(ag:EQ):Option (Unit⊕Bool):=
 bif decide (s4 < s3) then (bif zB s4 ae.length then ((HC k (ae.getD s4.toNat (0,0,0)).1 (ae.getD s4.toNat (0,0,0)).2.1 (ae.getD s4.toNat (0,0,0)).2.2).bind fun x2=>
   bif !x2 then some (.inr false)
   else bif zB s4 ai.length then ((HD k (ai.getD s4.toNat 0)).bind fun x3=>
    bif !x3 then some (.inr false)
    else(Cy k k s3 s4 0 ae ah ai ag).bind fun z=>
    match z with
    |.inl z1=>rec z1.1 (zA (z1.2.1+1)) z1.2.2.1 z1.2.2.2.1 z1.2.2.2.2.1 z1.2.2.2.2.2
    |.inr z2=>some (.inr z2))
   else none)
  else none)
 else some (.inl ())
def CA (k:Nat):Nat→qYq
 |0,_,_,_,_,_,_=>none
 |n+1,s3,s4,ae,ah,ai,ag=>CB k (CA k n) s3 s4 ae ah ai ag
def LS (k:Nat)(au:List zK)(az:EQ)(ay:AC)(ax:EQ):Option Bool:=
 bif decide ((au.length:Int)<1) then some false
 else bif decide ((au.length:Int)>6) then some false
 else(HE k az (au.length:Int)).bind fun x0=>
 bif !x0 then some false
 else(HE k ax (au.length:Int)).bind fun x1=>
 bif !x1 then some false
 else bif !(decide ((ay.length:Int)=(au.length:Int))) then some false
 else(CA k k (au.length:Int) 0 au az ay ax).bind fun z3=>
 match z3 with
 |.inl z4=>some true
 |.inr z5=>some z5
abbrev qOt:Type:=(List zC)×Int×(List zK)×EQ×AC×EQ×(List zK)×EQ×AC×EQ
abbrev qU3:Type:=List zC→Int→Int→List zK→EQ→AC→EQ→List zK→EQ→AC→EQ→Option qOt
def C3 (k:Nat)(rec:qU3)(s1:List zC)(s7 s8:Int)(ae:List zK)(ah:EQ)(ai:AC)(ag:EQ)(r3:List zK)(m4:EQ)(r5:AC)(m6:EQ):Option qOt:=
 bif decide (s8 < (r3.length : Int)) then ((Ma k s1 s7 s8).bind fun x4=>
  bif zB s7 r3.length then (bif zB s7 r3.length then (let y1:List zK:=(r3.set s7.toNat ((zA ((r3.getD s7.toNat (0,0,0)).1-x4)),(r3.getD s7.toNat (0,0,0)).2))
    bif zB s7 m6.length then (bif zB s7 m6.length then (bif zB s8 (m6.getD s7.toNat []).length then (bif zB s8 (m6.getD s7.toNat []).length then (let y2:EQ:=(m6.set s7.toNat ((m6.getD s7.toNat []).set s8.toNat (zA (((m6.getD s7.toNat []).getD s8.toNat 0)+x4))))
        rec s1 s7 (zA (s8+1)) ae ah ai ag y1 m4 r5 y2)
       else none)
      else none)
     else none)
    else none)
   else none)
  else none)
 else some (s1,s7,ae,ah,ai,ag,r3,m4,r5,m6)
def CZ (k:Nat):Nat→qU3
 |0,_,_,_,_,_,_,_,_,_,_,_=>none
 |n+1,s1,s7,s8,ae,ah,ai,ag,r3,m4,r5,m6=>C3 k (CZ k n) s1 s7 s8 ae ah ai ag r3 m4 r5 m6
abbrev qSa:Type:=(List zK)×EQ×AC×EQ×(List zK)×EQ×AC×EQ
abbrev qOp:Type:=List zC→Int→List zK→EQ→AC→EQ→List zK→EQ→AC→EQ→Option qSa
def C5 (k:Nat)(rec:qOp)(s1:List zC)(s7:Int)(ae:List zK)(ah:EQ)(ai:AC)(ag:EQ)(r3:List zK)(m4:EQ)(r5:AC)(m6:EQ):Option qSa:=
 bif decide (s7 < (r3.length : Int)) then (bif zB s7 r3.length then ((Md k s1 s7).bind fun x2=>
   (CY k (r3.getD s7.toNat (0,0,0)).1 (r3.getD s7.toNat (0,0,0)).2.1 (r3.getD s7.toNat (0,0,0)).2.2 x2).bind fun x3=>
   bif zB s7 r3.length then (let y0:List zK:=(r3.set s7.toNat ((r3.getD s7.toNat (0,0,0)).1,(r3.getD s7.toNat (0,0,0)).2.1,x3))
    (CZ k k s1 s7 0 ae ah ai ag y0 m4 r5 m6).bind fun z=>
    rec z.1 (zA (z.2.1+1)) z.2.2.1 z.2.2.2.1 z.2.2.2.2.1 z.2.2.2.2.2.1 z.2.2.2.2.2.2.1 z.2.2.2.2.2.2.2.1 z.2.2.2.2.2.2.2.2.1 z.2.2.2.2.2.2.2.2.2)
   else none)
  else none)
 else some (ae,ah,ai,ag,r3,m4,r5,m6)
def C4 (k:Nat):Nat→qOp
 |0,_,_,_,_,_,_,_,_,_,_=>none
 |n+1,s1,s7,ae,ah,ai,ag,r3,m4,r5,m6=>C5 k (C4 k n) s1 s7 ae ah ai ag r3 m4 r5 m6
def yv (k:Nat)(au:List zK)(az:EQ)(ay:AC)(ax:EQ)(a1:List zC):Option ((List zK)×EQ×AC×EQ×Int):=
 (H0 k au az ay ax a1).bind fun x0=>
 bif !x0 then some (au,az,ay,ax,1)
 else(nD k au az ay ax).bind fun x1=>
 (C4 k k a1 0 au az ay ax x1.1 x1.2.1 x1.2.2.1 x1.2.2.2).bind fun z1=>
 (LS k z1.2.2.2.2.1 z1.2.2.2.2.2.1 z1.2.2.2.2.2.2.1 z1.2.2.2.2.2.2.2).bind fun x5=>
 bif !x5 then some (vO z1 8)
 else some (ySk z1 0)
abbrev qRh:Type:=Int→Int→Int→List zK→EQ→AC→EQ→Option Int
def C7 (k:Nat)(rec:qRh)(s1 s5 s6:Int)(ae:List zK)(ah:EQ)(ai:AC)(ag:EQ):Option Int:=
 bif zB s1 ag.length then (bif decide (s6 < ((ag.getD s1.toNat []).length : Int)) then (bif zB s1 ag.length then (bif zB s6 (ag.getD s1.toNat []).length then(rec s1 (zA (s5+((ag.getD s1.toNat []).getD s6.toNat 0))) (zA (s6+1)) ae ah ai ag)
    else none)
   else none)
  else some s5)
 else none
def C6 (k:Nat):Nat→qRh
 |0,_,_,_,_,_,_,_=>none
 |n+1,s1,s5,s6,ae,ah,ai,ag=>C7 k (C6 k n) s1 s5 s6 ae ah ai ag
def Mj (k:Nat)(au:List zK)(az:EQ)(ay:AC)(ax:EQ)(a1:Int):Option Int:=
 (C6 k k a1 0 0 au az ay ax).bind fun z=>
 some z
abbrev qX6:Type:=(Int×Int×Int×Int×Int×(List zK)×EQ×AC×EQ)⊕Bool
abbrev qLc:Type:=List zC→Int→Int→Int→Int→Int→Int→List zK→EQ→AC→EQ→Option qX6
def C9 (k:Nat)(rec:qLc)(s1:List zC)(s2 s7 s8 s9 aw aO:Int)(ae:List zK)(ah:EQ)(ai:AC)(ag:EQ):Option qX6:=
 bif decide (aO < (ae.length : Int)) then ((uT k s1 s2 aO).bind fun x2=>
  (uT k s1 aO s2).bind fun x3=>
  (uT k s1 s2 aO).bind fun x4=>
  bif decide (x4 > 0) then (bif zB s2 ah.length then (bif zB aO (ah.getD s2.toNat []).length then (bif !(decide (((ah.getD s2.toNat []).getD aO.toNat 0) = (-1))) then (bif zB s2 ag.length then (bif zB aO (ag.getD s2.toNat []).length then (bif zB s2 ah.length then (bif zB aO (ah.getD s2.toNat []).length then (bif decide ((zA (((ag.getD s2.toNat []).getD aO.toNat 0)+(zA (x2-x3))))>((ah.getD s2.toNat []).getD aO.toNat 0)) then some (.inr true)
          else rec s1 s2 s7 s8 (zA (s9-(zA (x2-x3)))) (zA (aw+(zA (x2-x3)))) (zA (aO+1)) ae ah ai ag)
         else none)
        else none)
       else none)
      else none)
     else rec s1 s2 s7 s8 (zA (s9-(zA (x2-x3)))) (zA (aw+(zA (x2-x3)))) (zA (aO+1)) ae ah ai ag)
    else none)
   else none)
  else rec s1 s2 s7 s8 (zA (s9-(zA (x2-x3)))) (zA (aw+(zA (x2-x3)))) (zA (aO+1)) ae ah ai ag)
 else some (.inl (s2,s7,s8,s9,aw,ae,ah,ai,ag))
def qi (k:Nat):Nat→qLc
 |0,_,_,_,_,_,_,_,_,_,_,_=>none
 |n+1,s1,s2,s7,s8,s9,aw,aO,ae,ah,ai,ag=>C9 k (qi k n) s1 s2 s7 s8 s9 aw aO ae ah ai ag
def Mo (k:Nat)(au:List zK)(az:EQ)(ay:AC)(ax:EQ)(a1:List zC)(a2:Int):Option Bool:=
 (H4 k a1 a2).bind fun x0=>
 bif decide ((zA (x0.1+x0.2))=0) then some false
 else bif zB a2 au.length then (bif zB a2 au.length then ((Mj k au az ay ax a2).bind fun x1=>
   (qi k k a1 a2 x0.1 x0.2 (zA ((au.getD a2.toNat (0,0,0)).1+(au.getD a2.toNat (0,0,0)).2.1)) x1 0 au az ay ax).bind fun z=>
   match z with
   |.inl z1=>bif decide (z1.2.2.2.1<0) then some true
    else bif decide (z1.2.1 > 0) then (bif zB z1.1 z1.2.2.2.2.2.1.length then ((CY k (z1.2.2.2.2.2.1.getD z1.1.toNat (0,0,0)).1 (z1.2.2.2.2.2.1.getD z1.1.toNat (0,0,0)).2.1 (z1.2.2.2.2.2.1.getD z1.1.toNat (0,0,0)).2.2 z1.2.2.1).bind fun x5=>
      bif decide (z1.2.2.2.1<x5) then some true
      else bif zB z1.1 z1.2.2.2.2.2.2.2.1.length then (bif !(decide ((z1.2.2.2.2.2.2.2.1.getD z1.1.toNat 0) = (-1))) then (bif zB z1.1 z1.2.2.2.2.2.2.2.1.length then some (decide (z1.2.2.2.2.1>(z1.2.2.2.2.2.2.2.1.getD z1.1.toNat 0)))
        else none)
       else some false)
      else none)
     else none)
    else bif zB z1.1 z1.2.2.2.2.2.2.2.1.length then (bif !(decide ((z1.2.2.2.2.2.2.2.1.getD z1.1.toNat 0) = (-1))) then (bif zB z1.1 z1.2.2.2.2.2.2.2.1.length then some (decide (z1.2.2.2.2.1>(z1.2.2.2.2.2.2.2.1.getD z1.1.toNat 0)))
      else none)
     else some false)
    else none
   |.inr z2=>some z2)
  else none)
 else none
abbrev qIz:Type:=List zC→Int→List zK→EQ→AC→EQ→AC→Option AC
def ql (k:Nat)(rec:qIz)(s1:List zC)(s6:Int)(ae:List zK)(ah:EQ)(ai:AC)(ag:EQ)(r1:AC):Option AC:=
 bif decide (s6 < (ae.length : Int)) then ((Mo k ae ah ai ag s1 s6).bind fun x0=>
  bif x0 then (bif zO (r1.length+1) 8 then(rec s1 (zA (s6+1)) ae ah ai ag (r1++[s6]))
   else none)
  else rec s1 (zA (s6+1)) ae ah ai ag r1)
 else some r1
def sO (k:Nat):Nat→qIz
 |0,_,_,_,_,_,_,_=>none
 |n+1,s1,s6,ae,ah,ai,ag,r1=>ql k (sO k n) s1 s6 ae ah ai ag r1
def sN (k:Nat)(au:List zK)(az:EQ)(ay:AC)(ax:EQ)(a1:List zC):Option AC:=
 (sO k k a1 0 au az ay ax []).bind fun z=>
 some z
def H7 (k:Nat)(au:List zK)(az:EQ)(ay:AC)(ax:EQ)(a1:List zC):Option Bool:=
 (H0 k au az ay ax a1).bind fun x0=>
 bif x0 then ((sN k au az ay ax a1).bind fun x1=>
  some (decide ((x1.length:Int)=0)))
 else some false
def tp (k:Nat)(au:List zK)(az:EQ)(ay:AC)(ax:EQ)(a1:List zC):Option ((List zK)×EQ×AC×EQ×Bool):=
 (yv k au az ay ax a1).bind fun x0=>
 bif decide (x0.2.2.2.2 = 0) then ((H7 k au az ay ax a1).bind fun x1=>
  some (vO x0 x1))
 else some (vO x0 false)
abbrev qYk:Type:=zC⊕(Bool×Int×Int×Int×Int×Int×Int×Int)
abbrev qMv:Type:=Int→List zK→EQ→AC→EQ→Int→Int→Int→Int→Int→Int→Int→List zC→Option qYk
def E6 (k:Nat)(rec:qMv)(s9:Int)(ae:List zK)(ah:EQ)(ai:AC)(ag:EQ)(av aB aC aE aG aH aI:Int)(r2:List zC):Option qYk:=
 bif decide (s9 < (r2.length : Int)) then (bif ((decide (0 ≤ s9)) && (decide (s9 ≤ (zA (s9 + 1))))) && (decide ((zA (s9 + 1)) ≤ (r2.length : Int))) then ((tp k ae ah ai ag (qW r2 (0+s9.toNat) ((zA (s9+1)).toNat-s9.toNat))).bind fun x1=>
   bif x1.2.2.2.2 then (bif zB s9 r2.length then some (.inr (true,(r2.getD s9.toNat (0,0,0,0,0,0,0)).1,(r2.getD s9.toNat (0,0,0,0,0,0,0)).2.1,(r2.getD s9.toNat (0,0,0,0,0,0,0)).2.2.1,(r2.getD s9.toNat (0,0,0,0,0,0,0)).2.2.2.1,(r2.getD s9.toNat (0,0,0,0,0,0,0)).2.2.2.2.1,(r2.getD s9.toNat (0,0,0,0,0,0,0)).2.2.2.2.2.1,(r2.getD s9.toNat (0,0,0,0,0,0,0)).2.2.2.2.2.2))
    else none)
   else rec (zA (s9+1)) ae ah ai ag av aB aC aE aG aH aI r2)
  else none)
 else some (.inl (av,aB,aC,aE,aG,aH,aI))
def Jm (k:Nat):Nat→qMv
 |0,_,_,_,_,_,_,_,_,_,_,_,_,_=>none
 |n+1,s9,ae,ah,ai,ag,av,aB,aC,aE,aG,aH,aI,r2=>E6 k (Jm k n) s9 ae ah ai ag av aB aC aE aG aH aI r2
def NF (k:Nat)(au:List zK)(az:EQ)(ay:AC)(ax:EQ)(a1:List zC)(a2:Int):Option (Int×Int×Int×Int×Int×Int×Int×Bool):=
 (Ip k a1 a2).bind fun x0=>
 (Jm k k 0 au az ay ax 0 0 0 0 0 0 0 x0).bind fun z=>
 match z with
 |.inl z1=>some (0,0,0,0,0,0,0,false)
 |.inr z2=>some (yS4 z2 z2.1)
abbrev qJr:Type:=(List zC)×(List zK)×EQ×AC×EQ×(List zC)
abbrev qW3:Type:=List zC→Int→List zK→EQ→AC→EQ→List zC→Option qJr
def E7 (k:Nat)(rec:qW3)(s1:List zC)(s2:Int)(ae:List zK)(ah:EQ)(ai:AC)(ag:EQ)(r2:List zC):Option qJr:=
 (NF k ae ah ai ag s1 s2).bind fun x0=>
 bif !x0.2.2.2.2.2.2.2 then some (s1,ae,ah,ai,ag,r2)
 else(tp k ae ah ai ag [(vJ x0)]).bind fun x1=>
 (mR k s1 x0.1).bind fun x2=>
 bif zO (r2.length + 1) 56 then (let y0:List zC:=(r2++[(vJ x0)])
  rec x2.1 s2 x1.1 x1.2.1 x1.2.2.1 x1.2.2.2.1 y0)
 else none
def Jn (k:Nat):Nat→qW3
 |0,_,_,_,_,_,_,_=>none
 |n+1,s1,s2,ae,ah,ai,ag,r2=>E7 k (Jn k n) s1 s2 ae ah ai ag r2
def NG (k:Nat)(au:List zK)(az:EQ)(ay:AC)(ax:EQ)(a1:List zC)(a2:Int):Option rC:=
 (Jn k k a1 a2 au az ay ax []).bind fun z=>
 some (gP z (z.1,z.2.2.2.2.2))
abbrev qWt:Type:=(Int×(List zK)×EQ×AC×EQ×Int×Int×Int×Int×Int×Int×Int×Int×Int×Int×Int×Int×Int×Int×(List zC))⊕(Bool×Int×Int×Int×Int×Int×Int×Int×Int×Int×Int×Int×Int×Int×Int)
abbrev qXo:Type:=Int→Int→List zK→EQ→AC→EQ→Int→Int→Int→Int→Int→Int→Int→Int→Int→Int→Int→Int→Int→Int→List zC→Option qWt
def E8 (k:Nat)(rec:qXo)(aw aO:Int)(ae:List zK)(ah:EQ)(ai:AC)(ag:EQ)(av aB aC aE aG aH aI aY bN bO cR eL eM eN:Int)(r3:List zC):Option qWt:=
 bif decide (aO < (r3.length : Int)) then (bif zB aw r3.length then (bif zB aO r3.length then (bif !(decide ((r3.getD aO.toNat (0,0,0,0,0,0,0)).2.1=(r3.getD aw.toNat (0,0,0,0,0,0,0)).2.2.1)) then(rec aw (zA (aO+1)) ae ah ai ag av aB aC aE aG aH aI aY bN bO cR eL eM eN r3)
    else bif !(decide ((r3.getD aO.toNat (0,0,0,0,0,0,0)).2.2.1=(r3.getD aw.toNat (0,0,0,0,0,0,0)).2.1)) then(rec aw (zA (aO+1)) ae ah ai ag av aB aC aE aG aH aI aY bN bO cR eL eM eN r3)
    else bif decide ((r3.getD aw.toNat (0,0,0,0,0,0,0)).2.1≥(r3.getD aO.toNat (0,0,0,0,0,0,0)).2.1) then(rec aw (zA (aO+1)) ae ah ai ag av aB aC aE aG aH aI aY bN bO cR eL eM eN r3)
    else(tp k ae ah ai ag [(r3.getD aw.toNat (0,0,0,0,0,0,0)),(r3.getD aO.toNat (0,0,0,0,0,0,0))]).bind fun x1=>
    bif x1.2.2.2.2 then some (.inr (true,(eX (r3.getD aw.toNat (0,0,0,0,0,0,0)) ((r3.getD aO.toNat (0,0,0,0,0,0,0)).1,(r3.getD aO.toNat (0,0,0,0,0,0,0)).2.1,(r3.getD aO.toNat (0,0,0,0,0,0,0)).2.2.1,(r3.getD aO.toNat (0,0,0,0,0,0,0)).2.2.2.1,(r3.getD aO.toNat (0,0,0,0,0,0,0)).2.2.2.2.1,(r3.getD aO.toNat (0,0,0,0,0,0,0)).2.2.2.2.2.1,(r3.getD aO.toNat (0,0,0,0,0,0,0)).2.2.2.2.2.2))))
    else rec aw (zA (aO+1)) ae ah ai ag av aB aC aE aG aH aI aY bN bO cR eL eM eN r3)
   else none)
  else none)
 else some (.inl (aw,ae,ah,ai,ag,av,aB,aC,aE,aG,aH,aI,aY,bN,bO,cR,eL,eM,eN,r3))
def Jp (k:Nat):Nat→qXo
 |0,_,_,_,_,_,_,_,_,_,_,_,_,_,_,_,_,_,_,_,_,_=>none
 |n+1,aw,aO,ae,ah,ai,ag,av,aB,aC,aE,aG,aH,aI,aY,bN,bO,cR,eL,eM,eN,r3=>E8 k (Jp k n) aw aO ae ah ai ag av aB aC aE aG aH aI aY bN bO cR eL eM eN r3
abbrev qIq:Type:=(Int×Int×Int×Int×Int×Int×Int×Int×Int×Int×Int×Int×Int×Int)⊕(Bool×Int×Int×Int×Int×Int×Int×Int×Int×Int×Int×Int×Int×Int×Int)
abbrev qJ1:Type:=Int→List zK→EQ→AC→EQ→Int→Int→Int→Int→Int→Int→Int→Int→Int→Int→Int→Int→Int→Int→List zC→Option qIq
def E9 (k:Nat)(rec:qJ1)(aw:Int)(ae:List zK)(ah:EQ)(ai:AC)(ag:EQ)(av aB aC aE aG aH aI aY bN bO cR eL eM eN:Int)(r3:List zC):Option qIq:=
 bif decide (aw < (r3.length : Int)) then ((Jp k k aw 0 ae ah ai ag av aB aC aE aG aH aI aY bN bO cR eL eM eN r3).bind fun z=>
  match z with
  |.inl z1=>rec (zA (z1.1+1)) z1.2.1 z1.2.2.1 z1.2.2.2.1 z1.2.2.2.2.1 z1.2.2.2.2.2.1 z1.2.2.2.2.2.2.1 z1.2.2.2.2.2.2.2.1 z1.2.2.2.2.2.2.2.2.1 z1.2.2.2.2.2.2.2.2.2.1 z1.2.2.2.2.2.2.2.2.2.2.1 z1.2.2.2.2.2.2.2.2.2.2.2.1 z1.2.2.2.2.2.2.2.2.2.2.2.2.1 z1.2.2.2.2.2.2.2.2.2.2.2.2.2.1 z1.2.2.2.2.2.2.2.2.2.2.2.2.2.2.1 z1.2.2.2.2.2.2.2.2.2.2.2.2.2.2.2.1 z1.2.2.2.2.2.2.2.2.2.2.2.2.2.2.2.2.1 z1.2.2.2.2.2.2.2.2.2.2.2.2.2.2.2.2.2.1 z1.2.2.2.2.2.2.2.2.2.2.2.2.2.2.2.2.2.2.1 z1.2.2.2.2.2.2.2.2.2.2.2.2.2.2.2.2.2.2.2
  |.inr z2=>some (.inr (z2.1,z2.2.1,z2.2.2.1,z2.2.2.2.1,z2.2.2.2.2.1,z2.2.2.2.2.2.1,z2.2.2.2.2.2.2.1,z2.2.2.2.2.2.2.2.1,z2.2.2.2.2.2.2.2.2.1,z2.2.2.2.2.2.2.2.2.2.1,z2.2.2.2.2.2.2.2.2.2.2.1,z2.2.2.2.2.2.2.2.2.2.2.2.1,z2.2.2.2.2.2.2.2.2.2.2.2.2.1,z2.2.2.2.2.2.2.2.2.2.2.2.2.2.1,z2.2.2.2.2.2.2.2.2.2.2.2.2.2.2)))
 else some (.inl (av,aB,aC,aE,aG,aH,aI,aY,bN,bO,cR,eL,eM,eN))
def Jq (k:Nat):Nat→qJ1
 |0,_,_,_,_,_,_,_,_,_,_,_,_,_,_,_,_,_,_,_,_=>none
 |n+1,aw,ae,ah,ai,ag,av,aB,aC,aE,aG,aH,aI,aY,bN,bO,cR,eL,eM,eN,r3=>E9 k (Jq k n) aw ae ah ai ag av aB aC aE aG aH aI aY bN bO cR eL eM eN r3
def NH (k:Nat)(au:List zK)(az:EQ)(ay:AC)(ax:EQ)(a1:List zC)(a2:Int):Option (Int×Int×Int×Int×Int×Int×Int×Int×Int×Int×Int×Int×Int×Int×Bool):=
 (Ip k a1 a2).bind fun x0=>
 (Jq k k 0 au az ay ax 0 0 0 0 0 0 0 0 0 0 0 0 0 0 x0).bind fun z3=>
 match z3 with
 |.inl z4=>some (0,0,0,0,0,0,0,0,0,0,0,0,0,0,false)
 |.inr z5=>some (vOt z5 z5.1)
abbrev qMo:Type:=(List zC)×(List zK)×EQ×AC×EQ×(List zC)
abbrev qRl:Type:=List zC→Int→List zK→EQ→AC→EQ→List zC→Option qMo
def Fa (k:Nat)(rec:qRl)(s1:List zC)(s2:Int)(ae:List zK)(ah:EQ)(ai:AC)(ag:EQ)(r2:List zC):Option qMo:=
 (NH k ae ah ai ag s1 s2).bind fun x0=>
 bif !x0.2.2.2.2.2.2.2.2.2.2.2.2.2.2 then some (s1,ae,ah,ai,ag,r2)
 else(tp k ae ah ai ag [(vJ x0),(qV8 x0)]).bind fun x1=>
 (mR k s1 x0.1).bind fun x2=>
 (mR k x2.1 x0.2.2.2.2.2.2.2.1).bind fun x3=>
 bif zO (r2.length + 2) 56 then (let y0:List zC:=(r2++[(vJ x0),(qV8 x0)])
  rec x3.1 s2 x1.1 x1.2.1 x1.2.2.1 x1.2.2.2.1 y0)
 else none
def Jr (k:Nat):Nat→qRl
 |0,_,_,_,_,_,_,_=>none
 |n+1,s1,s2,ae,ah,ai,ag,r2=>Fa k (Jr k n) s1 s2 ae ah ai ag r2
def NI (k:Nat)(au:List zK)(az:EQ)(ay:AC)(ax:EQ)(a1:List zC)(a2:Int):Option rC:=
 (Jr k k a1 a2 au az ay ax []).bind fun z=>
 some (gP z (z.1,z.2.2.2.2.2))
abbrev qMr:Type:=(List zC)×(List zK)×EQ×AC×EQ×(List zC)
abbrev qH7:Type:=List zC→Int→List zK→EQ→AC→EQ→List zC→Option qMr
def Fl (k:Nat)(rec:qH7)(s1:List zC)(s2:Int)(ae:List zK)(ah:EQ)(ai:AC)(ag:EQ)(r2:List zC):Option qMr:=
 (NG k ae ah ai ag s1 s2).bind fun x0=>
 (NI k x0.1 x0.2.1 x0.2.2.1 x0.2.2.2.1 x0.2.2.2.2.1 s2).bind fun x1=>
 bif zO (r2.length + x0.2.2.2.2.2.length) 56 then (bif zO ((r2 ++ x0.2.2.2.2.2).length + x1.2.2.2.2.2.length) 56 then (let y0:List zC:=((r2++x0.2.2.2.2.2)++x1.2.2.2.2.2)
   bif decide ((x1.2.2.2.2.2.length:Int)=0) then some (x1.2.2.2.2.1,(vO x1 y0))
   else rec x1.2.2.2.2.1 s2 x1.1 x1.2.1 x1.2.2.1 x1.2.2.2.1 y0)
  else none)
 else none
def Ju (k:Nat):Nat→qH7
 |0,_,_,_,_,_,_,_=>none
 |n+1,s1,s2,ae,ah,ai,ag,r2=>Fl k (Ju k n) s1 s2 ae ah ai ag r2
def Jv (k:Nat)(au:List zK)(az:EQ)(ay:AC)(ax:EQ)(a1:List zC)(a2:Int):Option rC:=
 (Ju k k a1 a2 au az ay ax []).bind fun z=>
 some (gP z (z.1,z.2.2.2.2.2))
abbrev qMh:Type:=List zC
abbrev qTu:Type:=List zC→AC→Int→List zC→Option qMh
def Ff (k:Nat)(rec:qTu)(s0:List zC)(s1:AC)(s6:Int)(r0:List zC):Option qMh:=
 bif decide (s6 < (s0.length : Int)) then (bif (decide (0 ≤ s6)) && (decide (s6 ≤ (s0.length : Int))) then (bif zB s6 s0.length then ((sQ k (List.take s6.toNat s0) (s0.getD s6.toNat (0,0,0,0,0,0,0)).2.1).bind fun x0=>
    bif zB s6 s0.length then (bif decide ((s0.getD s6.toNat (0, 0, 0, 0, 0, 0, 0)).2.1 ≥ 0) then (bif zB s6 s0.length then (bif decide ((s0.getD s6.toNat (0, 0, 0, 0, 0, 0, 0)).2.1 < (s1.length : Int)) then (bif zB s6 s0.length then (bif zB (s0.getD s6.toNat (0, 0, 0, 0, 0, 0, 0)).2.1 s1.length then (bif decide ((x0.length : Int) < (s1.getD (s0.getD s6.toNat (0, 0, 0, 0, 0, 0, 0)).2.1.toNat 0)) then (bif zB s6 s0.length then (bif zO (r0.length + 1) 56 then (let y0:List zC:=(r0++[(s0.getD s6.toNat (0,0,0,0,0,0,0))])
             rec s0 s1 (zA (s6+1)) y0)
            else none)
           else none)
          else rec s0 s1 (zA (s6+1)) r0)
         else none)
        else none)
       else rec s0 s1 (zA (s6+1)) r0)
      else none)
     else rec s0 s1 (zA (s6+1)) r0)
    else none)
   else none)
  else none)
 else some r0
def Fe (k:Nat):Nat→qTu
 |0,_,_,_,_=>none
 |n+1,s0,s1,s6,r0=>Ff k (Fe k n) s0 s1 s6 r0
def Fc (k:Nat)(a0:List zC)(a1:AC):Option (List zC):=
 (Fe k k a0 a1 0 []).bind fun z=>
 some z
abbrev qZc:Type:=(List zK)×EQ×AC×EQ×(List zC)×AC
abbrev qSz:Type:=Int→List zK→EQ→AC→EQ→List zC→AC→Option qZc
def Fg (k:Nat)(rec:qSz)(aw:Int)(ae:List zK)(ah:EQ)(ai:AC)(ag:EQ)(r1:List zC)(r2:AC):Option qZc:=
 bif decide (aw < (ae.length : Int)) then ((sQ k r1 aw).bind fun x1=>
  bif zO (r2.length+1) 8 then(rec (zA (aw+1)) ae ah ai ag r1 (r2++[(x1.length:Int)]))
  else none)
 else some (ae,ah,ai,ag,r1,r2)
def Az (k:Nat):Nat→qSz
 |0,_,_,_,_,_,_,_=>none
 |n+1,aw,ae,ah,ai,ag,r1,r2=>Fg k (Az k n) aw ae ah ai ag r1 r2
abbrev qYt:Type:=Int×(List zK)×EQ×AC×EQ×(List zC)×AC
abbrev qY1:Type:=Int→Int→List zK→EQ→AC→EQ→List zC→AC→AC→Option qYt
def Fi (k:Nat)(rec:qY1)(aO bo:Int)(ae:List zK)(ah:EQ)(ai:AC)(ag:EQ)(r1:List zC)(r2 r3:AC):Option qYt:=
 bif decide (bo < (r3.length : Int)) then (bif zB bo r3.length then (bif zB (r3.getD bo.toNat 0) r2.length then (bif zB (r3.getD bo.toNat 0) r2.length then (let y0:AC:=(r2.set (r3.getD bo.toNat 0).toNat (zA ((r2.getD (r3.getD bo.toNat 0).toNat 0)-1)))
     rec aO (zA (bo+1)) ae ah ai ag r1 y0 r3)
    else none)
   else none)
  else none)
 else some (aO,ae,ah,ai,ag,r1,r2)
def Fh (k:Nat):Nat→qY1
 |0,_,_,_,_,_,_,_,_,_=>none
 |n+1,aO,bo,ae,ah,ai,ag,r1,r2,r3=>Fi k (Fh k n) aO bo ae ah ai ag r1 r2 r3
abbrev qNy:Type:=Int→List zK→EQ→AC→EQ→List zC→AC→Option (Int×AC)
def Fj (k:Nat)(rec:qNy)(aO:Int)(ae:List zK)(ah:EQ)(ai:AC)(ag:EQ)(r1:List zC)(r2:AC):Option (Int×AC):=
 (Fc k r1 r2).bind fun x2=>
 (sN k ae ah ai ag x2).bind fun x3=>
 bif decide ((x3.length:Int)=0) then some (aO,r2)
 else(Fh k k aO 0 ae ah ai ag r1 r2 x3).bind fun z1=>
 rec (zA (z1.1+1)) z1.2.1 z1.2.2.1 z1.2.2.2.1 z1.2.2.2.2.1 z1.2.2.2.2.2.1 z1.2.2.2.2.2.2
def Js (k:Nat):Nat→qNy
 |0,_,_,_,_,_,_,_=>none
 |n+1,aO,ae,ah,ai,ag,r1,r2=>Fj k (Js k n) aO ae ah ai ag r1 r2
def NJ (k:Nat)(au:List zK)(az:EQ)(ay:AC)(ax:EQ)(a1:List zC)(a2:Int):Option (AC×Int):=
 (Du k a1 a2).bind fun x0=>
 (Az k k 0 au az ay ax x0 []).bind fun z=>
 (Js k k 1 z.1 z.2.1 z.2.2.1 z.2.2.2.1 z.2.2.2.2.1 z.2.2.2.2.2).bind fun z2=>
 some (z2.2,z2.1)
abbrev qR8:Type:=(List zC)×(List zC)×(List zK)×EQ×AC×EQ
abbrev qYy:Type:=List zC→Int→List zC→List zK→EQ→AC→EQ→Option qR8
def Fk (k:Nat)(rec:qYy)(s1:List zC)(bA:Int)(r1:List zC)(aY:List zK)(bN:EQ)(bO:AC)(cR:EQ):Option qR8:=
 bif decide (bA < (r1.length : Int)) then (bif zB bA r1.length then ((mR k s1 (r1.getD bA.toNat (0,0,0,0,0,0,0)).1).bind fun x4=>
   rec x4.1 (zA (bA+1)) r1 aY bN bO cR)
  else none)
 else some (s1,r1,aY,bN,bO,cR)
def AA (k:Nat):Nat→qYy
 |0,_,_,_,_,_,_,_=>none
 |n+1,s1,bA,r1,aY,bN,bO,cR=>Fk k (AA k n) s1 bA r1 aY bN bO cR
def Jt (k:Nat)(au:List zK)(az:EQ)(ay:AC)(ax:EQ)(a1:List zC)(a2:Int):Option rC:=
 (NJ k au az ay ax a1 a2).bind fun x0=>
 (Du k a1 a2).bind fun x1=>
 (Fc k x1 x0.1).bind fun x2=>
 (yv k au az ay ax x2).bind fun x3=>
 bif !(decide (x3.2.2.2.2=0)) then some (au,az,ay,ax,a1,[])
 else(AA k k a1 0 x2 x3.1 x3.2.1 x3.2.2.1 x3.2.2.2.1).bind fun z=>
 some (z9 z (z.1,z.2.1))
def NK (k:Nat)(au:List zK)(az:EQ)(ay:AC)(ax:EQ)(a1:List zC)(a2:Int)(a3:Bool):Option rC:=
 (Jv k au az ay ax a1 a2).bind fun x0=>
 bif !a3 then some (x0.1,x0.2.1,x0.2.2.1,x0.2.2.2.1,x0.2.2.2.2.1,x0.2.2.2.2.2)
 else(Jt k x0.1 x0.2.1 x0.2.2.1 x0.2.2.2.1 x0.2.2.2.2.1 a2).bind fun x1=>
 bif decide ((x1.2.2.2.2.2.length:Int)=0) then some (x0.1,x0.2.1,x0.2.2.1,x0.2.2.2.1,x0.2.2.2.2.1,x0.2.2.2.2.2)
 else(Jv k x1.1 x1.2.1 x1.2.2.1 x1.2.2.2.1 x1.2.2.2.2.1 a2).bind fun x2=>
 bif zO (x0.2.2.2.2.2.length + x1.2.2.2.2.2.length) 56 then (bif zO ((x0.2.2.2.2.2 ++ x1.2.2.2.2.2).length + x2.2.2.2.2.2.length) 56 then (let y0:List zC:=((x0.2.2.2.2.2++x1.2.2.2.2.2)++x2.2.2.2.2.2)
   some (nR x2 y0))
  else none)
 else none
abbrev qR5:Type:=List qA
abbrev qOo:Type:=List zC→Int→List qA→Option qR5
def Et (k:Nat)(rec:qOo)(s0:List zC)(s4:Int)(r0:List qA):Option qR5:=
 bif decide (s4 < (s0.length : Int)) then (bif zB s4 s0.length then ((jS k 18 [(s0.getD s4.toNat (0,0,0,0,0,0,0)).1,(s0.getD s4.toNat (0,0,0,0,0,0,0)).2.1,(s0.getD s4.toNat (0,0,0,0,0,0,0)).2.2.1,(s0.getD s4.toNat (0,0,0,0,0,0,0)).2.2.2.1]).bind fun x0=>
   bif zO (r0.length + 2) 64 then (let y0:List qA:=(r0++[((s0.getD s4.toNat (0,0,0,0,0,0,0)).2.1,x0),((s0.getD s4.toNat (0,0,0,0,0,0,0)).2.2.1,x0)])
    rec s0 (zA (s4+1)) y0)
   else none)
  else none)
 else some r0
def IX (k:Nat):Nat→qOo
 |0,_,_,_=>none
 |n+1,s0,s4,r0=>Et k (IX k n) s0 s4 r0
def M9 (k:Nat)(a0:List zC):Option (List qA):=
 (IX k k a0 0 []).bind fun z=>
 some z
def mS (k:Nat)(lz:Int)(o6:List zK)(o9:EQ)(pb:AC)(pc:EQ)(pf:AC)(pg:EQ)(lA:List zC)(ph:AC)(pj:Int)(pn a1:Bool):Option PW:=
 (NK k o6 o9 pb pc lA lz a1).bind fun x0=>
 (M9 k x0.2.2.2.2.2).bind fun x1=>
 some (lz,(vO x0 (pf,pg,x0.2.2.2.2.1,ph,pj,pn,x1)))
abbrev qJ7:Type:=yT×vH×(List qA)
abbrev qUg:Type:=List zC→Int→yT→vH→List qA→Option qJ7
def Fo (k:Nat)(rec:qUg)(s7:List zC)(s8:Int)(b0:yT)(b1:vH)(r2:List qA):Option qJ7:=
 bif decide (s8 < (s7.length : Int)) then (bif zB s8 s7.length then (bif zB s8 s7.length then ((jS k 22 [(s7.getD s8.toNat (0,0,0,0,0,0,0)).1]).bind fun x1=>
    bif zO (r2.length + 1) 64 then (let y0:List qA:=(r2++[((s7.getD s8.toNat (0,0,0,0,0,0,0)).2.1,x1)])
     rec s7 (zA (s8+1)) b0 b1 y0)
    else none)
   else none)
  else none)
 else some (b0,b1,r2)
def tq (k:Nat):Nat→qUg:=yC (fun _ _ _ _ _=>none) (Fo k)
abbrev qYb:Type:=yT×vH×(List qA)
abbrev qSv:Type:=Int→yT→vH→List qA→Option qYb
def Fp (k:Nat)(rec:qSv)(s9:Int)(b0:yT)(b1:vH)(r2:List qA):Option qYb:=
 bif decide (s9 < (b0.2.1.length : Int)) then (bif zB s9 b0.2.1.length then ((jS k 23 [(b0.2.1.getD s9.toNat (0,0,0)).1]).bind fun x2=>
   bif zO (r2.length+1) 64 then(rec (zA (s9+1)) b0 b1 (r2++[(s9,x2)]))
   else none)
  else none)
 else some (b0,b1,r2)
def tt (k:Nat):Nat→qSv:=yC (fun _ _ _ _=>none) (Fp k)
abbrev qJy:Type:=yO×yT×vH×(List qA)
abbrev qNe:Type:=List zC→Int→yO→yT→vH→List qA→Option qJy
def Fq (k:Nat)(rec:qNe)(s7:List zC)(aw:Int)(b0:yO)(b1:yT)(b2:vH)(r3:List qA):Option qJy:=
 bif decide (aw < (s7.length : Int)) then (bif zB aw s7.length then ((VC k (s7.getD aw.toNat (0,0,0,0,0,0,0)).1 (s7.getD aw.toNat (0,0,0,0,0,0,0)).2.1 (s7.getD aw.toNat (0,0,0,0,0,0,0)).2.2.1 (s7.getD aw.toNat (0,0,0,0,0,0,0)).2.2.2.1 (s7.getD aw.toNat (0,0,0,0,0,0,0)).2.2.2.2.1 (s7.getD aw.toNat (0,0,0,0,0,0,0)).2.2.2.2.2.1 (s7.getD aw.toNat (0,0,0,0,0,0,0)).2.2.2.2.2.2 b1.1).bind fun x3=>
   bif x3 then (bif zB aw s7.length then (bif zB aw s7.length then ((jS k 21 [(s7.getD aw.toNat (0,0,0,0,0,0,0)).1]).bind fun x4=>
      bif zO (r3.length + 1) 64 then (let y1:List qA:=(r3++[((s7.getD aw.toNat (0,0,0,0,0,0,0)).2.1,x4)])
       bif zB aw s7.length then ((mR k b1.2.2.2.2.2.2.2.1 (s7.getD aw.toNat (0,0,0,0,0,0,0)).1).bind fun x5=>
        rec s7 (zA (aw+1)) b0 (iT b1 (x5.1,b1.2.2.2.2.2.2.2.2)) b2 y1)
       else none)
      else none)
     else none)
    else none)
   else rec s7 (zA (aw+1)) b0 b1 b2 r3)
  else none)
 else some (b0,b1,b2,r3)
def tu (k:Nat):Nat→qNe:=yC (fun _ _ _ _ _ _=>none) (Fq k)
def Fs (k:Nat)(a0:yO)(a1:yT):Option (yT×(List qA)):=
 bif a1.2.2.2.2.2.2.2.2.2.2 then some (a1,[])
 else(NL k a0 (zA (a1.1+1))).bind fun x0=>
 bif x0 then ((tq k k a1.2.2.2.2.2.2.2.1 0 ((zA (a1.1+1)),a1.2) (0,0,false) []).bind fun z=>
  (tt k k 0 z.1 z.2.1 z.2.2).bind fun z1=>
  some ((iT z1.1 ([],z1.1.2.2.2.2.2.2.2.2.1,z1.1.2.2.2.2.2.2.2.2.2.1,true)),z1.2.2))
 else(tu k k a1.2.2.2.2.2.2.2.1 0 a0 ((zA (a1.1+1)),a1.2) (0,0,false) []).bind fun z2=>
 (Jw k z2.1 z2.2.1.1).bind fun x6=>
 (mS k z2.2.1.1 z2.2.1.2.1 z2.2.1.2.2.1 z2.2.1.2.2.2.1 z2.2.1.2.2.2.2.1 z2.2.1.2.2.2.2.2.1 z2.2.1.2.2.2.2.2.2.1 z2.2.1.2.2.2.2.2.2.2.1 z2.2.1.2.2.2.2.2.2.2.2.1 z2.2.1.2.2.2.2.2.2.2.2.2.1 z2.2.1.2.2.2.2.2.2.2.2.2.2 x6).bind fun x7=>
 bif zO (z2.2.2.2.length + x7.2.2.2.2.2.2.2.2.2.2.2.length) 64 then (let y2:List qA:=(z2.2.2.2++x7.2.2.2.2.2.2.2.2.2.2.2)
  some ((qZ x7),y2))
 else none
def tl (k:Nat)(a0:tK)(a1:Int):Option Int:=
 bif decide (a1<0) then some (-1)
 else bif decide (a1≥a0.1) then some (-1)
 else some a1
def E2 (k:Nat)(a0:yO)(a1 a2:Int):Option Int:=
 bif decide (a1≥a0.2.2.2.1) then some 7
 else bif decide (a2 = 3) then (bif decide (a1≥a0.2.2.1) then some 7
  else some 0)
 else some 0
def Av (k:Nat)(a0:yO)(a1:Int)(a2:zC):Option Int:=
 bif decide (a2.1<1) then some 1
 else bif decide (a2.2.1<0) then some 1
 else bif decide (a2.2.1≥a0.1) then some 1
 else bif decide (a2.2.2.1<0) then some 1
 else bif decide (a2.2.2.1≥a0.1) then some 1
 else bif decide (a2.2.1=a2.2.2.1) then some 1
 else bif decide (a2.2.2.2.1<1) then some 1
 else bif decide (a2.2.2.2.1>1099511627776) then some 1
 else bif decide (a2.2.2.2.2.1<1) then some 1
 else bif decide (a2.2.2.2.2.1>3) then some 1
 else bif decide (a2.2.2.2.2.2.1<0) then some 1
 else bif decide (a2.2.2.2.2.2.1>a2.2.2.2.2.2.2) then some 1
 else bif decide (a2.2.2.2.2.2.2<a1) then some 1
 else bif decide (a2.2.2.2.2.2.2>1048576) then some 1
 else(E2 k a0 a1 a2.2.2.2.2.1).bind fun x0=>
 some x0
abbrev qL0:Type:=AC→Int→Int→Option (Unit⊕Bool)
def ET (k:Nat)(rec:qL0)(s0:AC)(s1 s5:Int):Option (Unit⊕Bool):=
 bif decide (s5 < (s0.length : Int)) then (bif zB s5 s0.length then (bif decide ((s0.getD s5.toNat 0)=s1) then some (.inr true)
   else rec s0 s1 (zA (s5+1)))
  else none)
 else some (.inl ())
def ES (k:Nat):Nat→qL0:=yC (fun _ _ _=>none) (ET k)
def Nu (k:Nat)(a0:AC)(a1:Int):Option Bool:=
 (ES k k a0 a1 0).bind fun z=>
 match z with
 |.inl z1=>some false
 |.inr z2=>some z2
abbrev qZg:Type:=AC→Int→Int→Option (AC×Int×Int)
def EU (k:Nat)(rec:qZg)(s0:AC)(s1 s6:Int):Option (AC×Int×Int):=
 bif decide (s6 < (s0.length : Int)) then (bif zB s6 s0.length then (bif decide ((s0.getD s6.toNat 0)<s1) then(rec s0 s1 (zA (s6+1)))
   else some (s0,s1,s6))
  else none)
 else some (s0,s1,s6)
def Jg (k:Nat):Nat→qZg:=yC (fun _ _ _=>none) (EU k)
def zz (k:Nat)(a0:AC)(a1:Int):Option (AC×Int):=
 (Nu k a0 a1).bind fun x0=>
 bif x0 then some (a0,6)
 else bif decide ((a0.length:Int)≥200) then some (a0,3)
 else(Jg k k a0 a1 0).bind fun z=>
 bif (decide (0 ≤ z.2.2)) && (decide (z.2.2 ≤ (z.1.length : Int))) then (bif zO (0 + (List.take z.2.2.toNat z.1).length) 8 then (bif zO ((List.take z.2.2.toNat z.1).length + 1) 8 then (bif (decide (0 ≤ z.2.2)) && (decide (z.2.2 ≤ (z.1.length : Int))) then (bif zO (((List.take z.2.2.toNat z.1) ++ [z.2.1]).length + (List.drop z.2.2.toNat z.1).length) 8 then (let y0:AC:=(((List.take z.2.2.toNat z.1)++[z.2.1])++(List.drop z.2.2.toNat z.1))
      some (y0,0))
     else none)
    else none)
   else none)
  else none)
 else none
def Ja (k:Nat)(bZ ba bq cn bH bU bJ gm cp dm dW dp il im:Int):Option Bool:=
 bif decide (ba<cp) then some true
 else bif decide (ba=cp) then some (decide (bH≤dp))
 else some false
abbrev qHu:Type:=List zC→Int→Int→Int→Int→Int→Int→Int→Int→Option Int
def EO (k:Nat)(rec:qHu)(s0:List zC)(s5 ae ah ai ag aX bh bj:Int):Option Int:=
 bif decide (s5 < (s0.length : Int)) then (bif zB s5 s0.length then ((Ja k (s0.getD s5.toNat (0,0,0,0,0,0,0)).1 (s0.getD s5.toNat (0,0,0,0,0,0,0)).2.1 (s0.getD s5.toNat (0,0,0,0,0,0,0)).2.2.1 (s0.getD s5.toNat (0,0,0,0,0,0,0)).2.2.2.1 (s0.getD s5.toNat (0,0,0,0,0,0,0)).2.2.2.2.1 (s0.getD s5.toNat (0,0,0,0,0,0,0)).2.2.2.2.2.1 (s0.getD s5.toNat (0,0,0,0,0,0,0)).2.2.2.2.2.2 ae ah ai ag aX bh bj).bind fun x0=>
   bif x0 then(rec s0 (zA (s5+1)) ae ah ai ag aX bh bj)
   else some s5)
  else none)
 else some s5
def EN (k:Nat):Nat→qHu
 |0,_,_,_,_,_,_,_,_,_=>none
 |n+1,s0,s5,ae,ah,ai,ag,aX,bh,bj=>EO k (EN k n) s0 s5 ae ah ai ag aX bh bj
def EM (k:Nat)(a0:List zC)(gm cp dm dW dp il im:Int):Option Int:=
 (EN k k a0 0 gm cp dm dW dp il im).bind fun z=>
 some z
def zx (k:Nat)(a0:List zC)(a1 abn abo abp abq abr abt abu:Int):Option (List zC):=
 bif (decide (0 ≤ a1)) && (decide (a1 ≤ (a0.length : Int))) then (bif zO (0 + (List.take a1.toNat a0).length) 56 then (bif zO ((List.take a1.toNat a0).length + 1) 56 then (let y0:List zC:=((List.take a1.toNat a0)++[(abn,abo,abp,abq,abr,abt,abu)])
    bif (decide (0 ≤ a1)) && (decide (a1 ≤ (a0.length : Int))) then (bif zO (y0.length+(List.drop a1.toNat a0).length) 56 then some (y0++(List.drop a1.toNat a0))
     else none)
    else none)
   else none)
  else none)
 else none
def zy (k:Nat)(a0:List zC)(gm cp dm dW dp il im:Int):Option ((List zC)×Int):=
 (lY k a0 gm).bind fun x0=>
 bif decide (x0≥0) then some (a0,6)
 else bif decide ((a0.length:Int)≥40) then some (a0,3)
 else(EM k a0 gm cp dm dW dp il im).bind fun x1=>
 (zx k a0 x1 gm cp dm dW dp il im).bind fun x2=>
 some (x2,0)
def NA (k:Nat)(a0:po)(a1:Km):Option (Int×tK):=
 (tl k (yD a0 ([],a0.2.2.2.2.2.2.2.2.2.2.2.2.2.2.2.2.2)) a1.2.1).bind fun x0=>
 bif decide (a1.2.2.2.1 ≥ 1) then (bif decide (a1.2.2.2.1 ≤ 3) then ((Av k (yG a0) a0.2.2.2.2.2.1 (a1.1,a0.2.2.2.2.2.2.2.2.2.2.2.2.2.2.2.2.1,x0,a1.2.2)).bind fun x1=>
   bif !(decide (x1=0)) then some (x1,(yD a0 ([],a0.2.2.2.2.2.2.2.2.2.2.2.2.2.2.2.2.2)))
   else(zz k a0.2.2.2.2.2.2.2.2.2.2.2.2.2.1 a1.1).bind fun x2=>
   bif !(decide (x2.2=0)) then some (x2.2,(yD a0 ([],a0.2.2.2.2.2.2.2.2.2.2.2.2.2.2.2.2.2)))
   else(zy k a0.2.2.2.2.2.2.2.2.2.2.2.2.1 a1.1 a0.2.2.2.2.2.2.2.2.2.2.2.2.2.2.2.2.1 x0 a1.2.2.1 a1.2.2.2.1 a1.2.2.2.2.1 a1.2.2.2.2.2).bind fun x3=>
   bif !(decide (x3.2=0)) then some (x3.2,(yD a0 ([],a0.2.2.2.2.2.2.2.2.2.2.2.2.2.2.2.2.2)))
   else some (0,(iX a0 (x3.1,x2.1,a0.2.2.2.2.2.2.2.2.2.2.2.2.2.2.1,a0.2.2.2.2.2.2.2.2.2.2.2.2.2.2.2.1,a0.2.2.2.2.2.2.2.2.2.2.2.2.2.2.2.2.1,[],a1.1))))
  else(Av k (yG a0) a0.2.2.2.2.2.1 (a1.1,a0.2.2.2.2.2.2.2.2.2.2.2.2.2.2.2.2.1,x0,a1.2.2.1,0,a1.2.2.2.2)).bind fun x4=>
  bif !(decide (x4=0)) then some (x4,(yD a0 ([],a0.2.2.2.2.2.2.2.2.2.2.2.2.2.2.2.2.2)))
  else(zz k a0.2.2.2.2.2.2.2.2.2.2.2.2.2.1 a1.1).bind fun x5=>
  bif !(decide (x5.2=0)) then some (x5.2,(yD a0 ([],a0.2.2.2.2.2.2.2.2.2.2.2.2.2.2.2.2.2)))
  else(zy k a0.2.2.2.2.2.2.2.2.2.2.2.2.1 a1.1 a0.2.2.2.2.2.2.2.2.2.2.2.2.2.2.2.2.1 x0 a1.2.2.1 0 a1.2.2.2.2.1 a1.2.2.2.2.2).bind fun x6=>
  bif !(decide (x6.2=0)) then some (x6.2,(yD a0 ([],a0.2.2.2.2.2.2.2.2.2.2.2.2.2.2.2.2.2)))
  else some (0,(iX a0 (x6.1,x5.1,a0.2.2.2.2.2.2.2.2.2.2.2.2.2.2.1,a0.2.2.2.2.2.2.2.2.2.2.2.2.2.2.2.1,a0.2.2.2.2.2.2.2.2.2.2.2.2.2.2.2.2.1,[],a1.1))))
 else(Av k (yG a0) a0.2.2.2.2.2.1 (a1.1,a0.2.2.2.2.2.2.2.2.2.2.2.2.2.2.2.2.1,x0,a1.2.2.1,0,a1.2.2.2.2)).bind fun x7=>
 bif !(decide (x7=0)) then some (x7,(yD a0 ([],a0.2.2.2.2.2.2.2.2.2.2.2.2.2.2.2.2.2)))
 else(zz k a0.2.2.2.2.2.2.2.2.2.2.2.2.2.1 a1.1).bind fun x8=>
 bif !(decide (x8.2=0)) then some (x8.2,(yD a0 ([],a0.2.2.2.2.2.2.2.2.2.2.2.2.2.2.2.2.2)))
 else(zy k a0.2.2.2.2.2.2.2.2.2.2.2.2.1 a1.1 a0.2.2.2.2.2.2.2.2.2.2.2.2.2.2.2.2.1 x0 a1.2.2.1 0 a1.2.2.2.2.1 a1.2.2.2.2.2).bind fun x9=>
 bif !(decide (x9.2=0)) then some (x9.2,(yD a0 ([],a0.2.2.2.2.2.2.2.2.2.2.2.2.2.2.2.2.2)))
 else some (0,(iX a0 (x9.1,x8.1,a0.2.2.2.2.2.2.2.2.2.2.2.2.2.2.1,a0.2.2.2.2.2.2.2.2.2.2.2.2.2.2.2.1,a0.2.2.2.2.2.2.2.2.2.2.2.2.2.2.2.2.1,[],a1.1)))
def vCq (k:Nat)(a0:tK)(a1:Int):Option (zC×Bool):=
 (lY k a0.2.2.2.2.2.2.2.2.2.2.2.2.1 a1).bind fun x0=>
 bif decide (x0<0) then some ((0,0,0,0,0,0,0),false)
 else bif zB x0 a0.2.2.2.2.2.2.2.2.2.2.2.2.1.length then (bif !(decide ((a0.2.2.2.2.2.2.2.2.2.2.2.2.1.getD x0.toNat (0,0,0,0,0,0,0)).2.1=a0.2.2.2.2.2.2.2.2.2.2.2.2.2.2.2.2.1)) then some ((0,0,0,0,0,0,0),false)
  else bif zB x0 a0.2.2.2.2.2.2.2.2.2.2.2.2.1.length then some ((a0.2.2.2.2.2.2.2.2.2.2.2.2.1.getD x0.toNat (0,0,0,0,0,0,0)),true)
  else none)
 else none
abbrev qJ2:Type:=(List zC)×Int×zC
abbrev qWm:Type:=List zC→Int→zC→Option qJ2
def ER (k:Nat)(rec:qWm)(s6:List zC)(s9:Int)(b0:zC):Option qJ2:=
 bif decide (s9 < (s6.length : Int)) then (bif zB s9 s6.length then ((Ja k b0.1 b0.2.1 b0.2.2.1 b0.2.2.2.1 b0.2.2.2.2.1 b0.2.2.2.2.2.1 b0.2.2.2.2.2.2 (s6.getD s9.toNat (0,0,0,0,0,0,0)).1 (s6.getD s9.toNat (0,0,0,0,0,0,0)).2.1 (s6.getD s9.toNat (0,0,0,0,0,0,0)).2.2.1 (s6.getD s9.toNat (0,0,0,0,0,0,0)).2.2.2.1 (s6.getD s9.toNat (0,0,0,0,0,0,0)).2.2.2.2.1 (s6.getD s9.toNat (0,0,0,0,0,0,0)).2.2.2.2.2.1 (s6.getD s9.toNat (0,0,0,0,0,0,0)).2.2.2.2.2.2).bind fun x1=>
   bif !x1 then(rec s6 (zA (s9+1)) b0)
   else some (s6,s9,b0))
  else none)
 else some (s6,s9,b0)
def EP (k:Nat):Nat→qWm:=yC (fun _ _ _=>none) (ER k)
def Je (k:Nat)(a0:List zC)(a1:Int):Option ((List zC)×Int):=
 (mR k a0 a1).bind fun x0=>
 bif !(decide (x0.2.2.2.2.2.2.2.2=0)) then some (a0,x0.2.2.2.2.2.2.2.2)
 else(EP k k x0.1 0 (DQ x0)).bind fun z=>
 (zx k z.1 z.2.1 z.2.2.1 z.2.2.2.1 z.2.2.2.2.1 z.2.2.2.2.2.1 z.2.2.2.2.2.2.1 z.2.2.2.2.2.2.2.1 z.2.2.2.2.2.2.2.2).bind fun x2=>
 some (x2,0)
def Jd (k:Nat)(a0:List zC)(a1:Int):Option ((List zC)×Int):=
 (mR k a0 a1).bind fun x0=>
 bif !(decide (x0.2.2.2.2.2.2.2.2=0)) then some (a0,x0.2.2.2.2.2.2.2.2)
 else(EM k x0.1 x0.2.1 x0.2.2.1 x0.2.2.2.1 x0.2.2.2.2.1 x0.2.2.2.2.2.1 x0.2.2.2.2.2.2.1 x0.2.2.2.2.2.2.2.1).bind fun x1=>
 (zx k x0.1 x1 x0.2.1 x0.2.2.1 x0.2.2.2.1 x0.2.2.2.2.1 x0.2.2.2.2.2.1 x0.2.2.2.2.2.2.1 x0.2.2.2.2.2.2.2.1).bind fun x2=>
 some (x2,0)
def Jc (k:Nat)(a0:List zC)(a1 a2:Int):Option ((List zC)×Int):=
 (mR k a0 a1).bind fun x0=>
 bif !(decide (x0.2.2.2.2.2.2.2.2=0)) then some (a0,x0.2.2.2.2.2.2.2.2)
 else(EM k x0.1 x0.2.1 x0.2.2.1 x0.2.2.2.1 x0.2.2.2.2.1 a2 x0.2.2.2.2.2.2.1 x0.2.2.2.2.2.2.2.1).bind fun x1=>
 (zx k x0.1 x1 x0.2.1 x0.2.2.1 x0.2.2.2.1 x0.2.2.2.2.1 a2 x0.2.2.2.2.2.2.1 x0.2.2.2.2.2.2.2.1).bind fun x2=>
 some (x2,0)
def Ax (k:Nat)(a0:po)(a1:Int)(a2:Km):Option (Int×tK):=
 (vCq k (yD a0 ([],a0.2.2.2.2.2.2.2.2.2.2.2.2.2.2.2.2.2)) a2.1).bind fun x0=>
 bif !x0.2 then some (4,(yD a0 ([],a0.2.2.2.2.2.2.2.2.2.2.2.2.2.2.2.2.2)))
 else bif decide (a1 = 2) then ((mR k a0.2.2.2.2.2.2.2.2.2.2.2.2.1 a2.1).bind fun x1=>
  (jS k 20 [a2.1]).bind fun x2=>
  some (0,(iX a0 (x1.1,(PX a0 ([(a0.2.2.2.2.2.2.2.2.2.2.2.2.2.2.2.2.1,x2)],a0.2.2.2.2.2.2.2.2.2.2.2.2.2.2.2.2.2))))))
 else bif decide (a1 = 3) then (bif decide (a2.2.1 = 0) then ((Je k a0.2.2.2.2.2.2.2.2.2.2.2.2.1 a2.1).bind fun x3=>
   some (0,(iX a0 (x3.1,(PX a0 ([],a0.2.2.2.2.2.2.2.2.2.2.2.2.2.2.2.2.2))))))
  else bif decide (a2.2.1 = 1) then ((Jd k a0.2.2.2.2.2.2.2.2.2.2.2.2.1 a2.1).bind fun x4=>
   some (0,(iX a0 (x4.1,(PX a0 ([],a0.2.2.2.2.2.2.2.2.2.2.2.2.2.2.2.2.2))))))
  else some (1,(yD a0 ([],a0.2.2.2.2.2.2.2.2.2.2.2.2.2.2.2.2.2))))
 else bif decide (a2.2.1<1) then some (1,(yD a0 ([],a0.2.2.2.2.2.2.2.2.2.2.2.2.2.2.2.2.2)))
 else bif decide (a2.2.1>3) then some (1,(yD a0 ([],a0.2.2.2.2.2.2.2.2.2.2.2.2.2.2.2.2.2)))
 else(E2 k (yG a0) a0.2.2.2.2.2.1 a2.2.1).bind fun x5=>
 bif !(decide (x5=0)) then some (x5,(yD a0 ([],a0.2.2.2.2.2.2.2.2.2.2.2.2.2.2.2.2.2)))
 else(Jc k a0.2.2.2.2.2.2.2.2.2.2.2.2.1 a2.1 a2.2.1).bind fun x6=>
 some (0,(iX a0 (x6.1,(PX a0 ([],a0.2.2.2.2.2.2.2.2.2.2.2.2.2.2.2.2.2)))))
def Ay (k:Nat)(a0:po)(a1:Int)(a2:Km):Option (Int×tK):=
 (nD k a0.2.2.2.2.2.2.1 a0.2.2.2.2.2.2.2.1 a0.2.2.2.2.2.2.2.2.1 a0.2.2.2.2.2.2.2.2.2.1).bind fun x0=>
 bif decide (a1 = 5) then ((tl k (yD a0 ([],a0.2.2.2.2.2.2.2.2.2.2.2.2.2.2.2.2.2)) a2.1).bind fun x1=>
  bif decide (x1<0) then some (1,(yD a0 ([],a0.2.2.2.2.2.2.2.2.2.2.2.2.2.2.2.2.2)))
  else bif decide (x1=a0.2.2.2.2.2.2.2.2.2.2.2.2.2.2.2.2.1) then some (1,(yD a0 ([],a0.2.2.2.2.2.2.2.2.2.2.2.2.2.2.2.2.2)))
  else bif decide (a2.2.1<(-1)) then some (1,(yD a0 ([],a0.2.2.2.2.2.2.2.2.2.2.2.2.2.2.2.2.2)))
  else bif decide (a2.2.1>1152921504606846976) then some (1,(yD a0 ([],a0.2.2.2.2.2.2.2.2.2.2.2.2.2.2.2.2.2)))
  else bif zB a0.2.2.2.2.2.2.2.2.2.2.2.2.2.2.2.2.1 x0.2.1.length then (bif zB x1 (x0.2.1.getD a0.2.2.2.2.2.2.2.2.2.2.2.2.2.2.2.2.1.toNat []).length then (let y0:EQ:=(x0.2.1.set a0.2.2.2.2.2.2.2.2.2.2.2.2.2.2.2.2.1.toNat ((x0.2.1.getD a0.2.2.2.2.2.2.2.2.2.2.2.2.2.2.2.2.1.toNat []).set x1.toNat a2.2.1))
    some (0,(wX a0 (x0.1,y0,x0.2.2.1,x0.2.2.2,(qMe a0 ([],a0.2.2.2.2.2.2.2.2.2.2.2.2.2.2.2.2.2))))))
   else none)
  else none)
 else bif decide (a1 = 6) then (bif decide (a2.1<(-1)) then some (1,(yD a0 ([],a0.2.2.2.2.2.2.2.2.2.2.2.2.2.2.2.2.2)))
  else bif decide (a2.1>1152921504606846976) then some (1,(yD a0 ([],a0.2.2.2.2.2.2.2.2.2.2.2.2.2.2.2.2.2)))
  else bif zB a0.2.2.2.2.2.2.2.2.2.2.2.2.2.2.2.2.1 x0.2.2.1.length then (let y1:AC:=(x0.2.2.1.set a0.2.2.2.2.2.2.2.2.2.2.2.2.2.2.2.2.1.toNat a2.1)
   some (0,(wX a0 (x0.1,x0.2.1,y1,x0.2.2.2,(qMe a0 ([],a0.2.2.2.2.2.2.2.2.2.2.2.2.2.2.2.2.2))))))
  else none)
 else bif decide (a2.1<0) then some (1,(yD a0 ([],a0.2.2.2.2.2.2.2.2.2.2.2.2.2.2.2.2.2)))
 else bif decide (a2.1>1152921504606846976) then some (1,(yD a0 ([],a0.2.2.2.2.2.2.2.2.2.2.2.2.2.2.2.2.2)))
 else bif zB a0.2.2.2.2.2.2.2.2.2.2.2.2.2.2.2.2.1 x0.1.length then (let y2:List zK:=(x0.1.set a0.2.2.2.2.2.2.2.2.2.2.2.2.2.2.2.2.1.toNat ((x0.1.getD a0.2.2.2.2.2.2.2.2.2.2.2.2.2.2.2.2.1.toNat (0,0,0)).1,(x0.1.getD a0.2.2.2.2.2.2.2.2.2.2.2.2.2.2.2.2.1.toNat (0,0,0)).2.1,a2.1))
  some (0,(wX a0 (y2,x0.2.1,x0.2.2.1,x0.2.2.2,(qMe a0 ([],a0.2.2.2.2.2.2.2.2.2.2.2.2.2.2.2.2.2))))))
 else none
def tm (k:Nat)(a0:AC)(a1 a2:Int):Option AC:=
 bif zO (0 + a0.length) 8 then (bif decide (a1 ≥ 0) then (bif decide (a1 < (a0.length : Int)) then (bif zB a1 a0.length then some (a0.set a1.toNat a2)
    else none)
   else some a0)
  else some a0)
 else none
def Nm (k:Nat)(a0:Int):Option AC:=
 some [(yJ .i64 a0 65535),(yJ .i64 (shr .i64 a0 16) 65535),(yJ .i64 (shr .i64 a0 32) 65535),(yJ .i64 (shr .i64 a0 48) 65535)]
def yQ7 (k:Nat)(rec:Int→AC→Option AC)(s3:Int)(r0:AC):Option AC:=
 bif decide ((zA (s3 + 1)) < (r0.length : Int)) then (bif zB (zA (s3 + 1)) r0.length then (bif zB s3 r0.length then (bif zB (zA (s3 + 1)) r0.length then (let y0:AC:=(r0.set (zA (s3+1)).toNat (zA ((r0.getD (zA (s3+1)).toNat 0)+(shr .i64 (r0.getD s3.toNat 0) 16))))
     bif zB s3 y0.length then (bif zB s3 y0.length then(rec (zA (s3+1)) (y0.set s3.toNat (yJ .i64 (y0.getD s3.toNat 0) 65535)))
      else none)
     else none)
    else none)
   else none)
  else none)
 else some r0
def WC (k:Nat):Nat→Int→AC→Option AC:=yC (fun _ _=>none) (yQ7 k)
def EH (k:Nat)(a0:AC):Option AC:=
 (WC k k 0 a0).bind fun z=>
 some z
abbrev WG:Type:=Int×Int×AC×AC
abbrev WD:Type:=Int→Int→Int→AC→AC→Option WG
def yTf (k:Nat)(rec:WD)(s1 s7 s8:Int)(r0 r1:AC):Option WG:=
 bif decide (s8 < 4) then (bif !(decide ((IntKind.wrap .u64 ((zA (16 * s8)))) < 0)) then (bif zB (zA (s7 + s8)) r1.length then (bif zB s7 r0.length then (bif zB (zA (s7 + s8)) r1.length then (let y0:AC:=(r1.set (zA (s7+s8)).toNat (zA ((r1.getD (zA (s7+s8)).toNat 0)+(zA ((r0.getD s7.toNat 0)*(yJ .i64 (shr .i64 s1 (IntKind.wrap .u64 ((zA (16*s8))))) 65535))))))
      rec s1 s7 (zA (s8+1)) r0 y0)
     else none)
    else none)
   else none)
  else none)
 else some (s1,s7,r0,r1)
def WH (k:Nat):Nat→WD:=yC (fun _ _ _ _ _=>none) (yTf k)
abbrev WI:Type:=Int→Int→AC→AC→Option AC
def yNf (k:Nat)(rec:WI)(s1 s7:Int)(r0 r1:AC):Option AC:=
 bif decide (s7 < 4) then ((WH k k s1 s7 0 r0 r1).bind fun z=>
  rec z.1 (zA (z.2.1+1)) z.2.2.1 z.2.2.2)
 else some r1
def Nk (k:Nat):Nat→WI:=yC (fun _ _ _ _=>none) (yNf k)
def Nl (k:Nat)(a0 a1:Int):Option AC:=
 (Nm k a0).bind fun x0=>
 (Nk k k a1 0 x0 [0,0,0,0,0,0,0,0,0]).bind fun z1=>
 (EH k z1).bind fun x1=>
 some x1
def yR5 (k:Nat)(rec:Int→Int→AC→Option AC)(s1 s5:Int)(r0:AC):Option AC:=
 bif decide (s5 < (r0.length : Int)) then (bif zB s5 r0.length then (bif zB s5 r0.length then(rec s1 (zA (s5+1)) (r0.set s5.toNat (zA ((r0.getD s5.toNat 0)*s1))))
   else none)
  else none)
 else some r0
def Ni (k:Nat):Nat→Int→Int→AC→Option AC:=yC (fun _ _ _=>none) (yR5 k)
def Nh (k:Nat)(a0:AC)(a1:Int):Option AC:=
 (Ni k k a1 0 a0).bind fun z=>
 (EH k z).bind fun x0=>
 some x0
abbrev WN:Type:=Int→Int→Int→AC→Option AC
def yC9 (k:Nat)(rec:WN)(s1 s6 s7:Int)(r0:AC):Option AC:=
 bif decide (s7 ≥ 0) then (bif zB s7 r0.length then (bif !(decide (s1 = 0)) then (bif zB s7 r0.length then (let y0:AC:=(r0.set s7.toNat (zA (Int.tdiv (zA ((shl .i64 s6 16)+(r0.getD s7.toNat 0))) s1)))
     bif !(decide (s1=0)) then(rec s1 (Int.tmod (zA ((shl .i64 s6 16)+(r0.getD s7.toNat 0))) s1) (zA (s7-1)) y0)
     else none)
    else none)
   else none)
  else none)
 else some r0
def I6 (k:Nat):Nat→WN:=yC (fun _ _ _ _=>none) (yC9 k)
abbrev WO:Type:=Int→AC→Option (AC⊕jX)
def vBq (k:Nat)(rec:WO)(s9:Int)(r0:AC):Option (AC⊕jX):=
 bif decide (s9 < (r0.length : Int)) then (bif zB s9 r0.length then (bif !(decide ((r0.getD s9.toNat 0)=0)) then some (.inr (0,false))
   else rec (zA (s9+1)) r0)
  else none)
 else some (.inl r0)
def EI (k:Nat):Nat→WO:=yC (fun _ _=>none) (vBq k)
def Nj (k:Nat)(a0:AC)(a1:Int):Option jX:=
 (I6 k k a1 0 (zA ((a0.length:Int)-1)) a0).bind fun z=>
 (EI k k 4 z).bind fun z1=>
 match z1 with
 | .inl z2 => bif zB 3 z2.length then (bif decide ((z2.getD 3 0)≥32768) then some (0,false)
   else bif zB 3 z2.length then (bif zB 2 z2.length then (bif zB 1 z2.length then (bif zB 0 z2.length then some ((wK .i64 (wK .i64 (wK .i64 (shl .i64 (z2.getD 3 0) 48) (shl .i64 (z2.getD 2 0) 32)) (shl .i64 (z2.getD 1 0) 16)) (z2.getD 0 0)),true)
      else none)
     else none)
    else none)
   else none)
  else none
 |.inr z3=>some (z3.1,z3.2)
def Ns (k:Nat)(a0 a1 a2:Int):Option jX:=
 bif decide (a0<0) then some (0,false)
 else bif decide (a1<0) then some (0,false)
 else bif decide (a2<0) then some (0,false)
 else bif decide (a2>10000) then some (0,false)
 else(Nl k a0 a1).bind fun x0=>
 (Nh k x0 (zA (10000-a2))).bind fun x1=>
 (Nj k x1 10000).bind fun x2=>
 some (x2.1,x2.2)
def EK (k:Nat)(a0 a1:Int):Option jX:=
 bif decide (a1 > 0) then (bif decide (a0>(zA (9223372036854775807-a1))) then some (0,false)
  else bif decide (a1 < 0) then (bif decide (a0<(zA ((-9223372036854775808)-a1))) then some (0,false)
   else some ((zA (a0+a1)),true))
  else some ((zA (a0+a1)),true))
 else bif decide (a1 < 0) then (bif decide (a0<(zA ((-9223372036854775808)-a1))) then some (0,false)
  else some ((zA (a0+a1)),true))
 else some ((zA (a0+a1)),true)
abbrev WS:Type:=List vI→AC→AC→Int→Int→Option (Int⊕jX)
def EL (k:Nat)(rec:WS)(s0:List vI)(s1 s2:AC)(s8 s9:Int):Option (Int⊕jX):=
 bif decide (s9 < (s0.length : Int)) then (bif zB s9 s1.length then (bif zB s9 s2.length then (bif zB s9 s0.length then ((Ns k (s1.getD s9.toNat 0) (s2.getD s9.toNat 0) (s0.getD s9.toNat (0,0)).2).bind fun x0=>
     (EK k s8 x0.1).bind fun x1=>
     bif !x0.2 then some (.inr (0,false))
     else bif !x1.2 then some (.inr (0,false))
     else rec s0 s1 s2 x1.1 (zA (s9+1)))
    else none)
   else none)
  else none)
 else some (.inl s8)
def Jb (k:Nat):Nat→WS:=yC (fun _ _ _ _ _=>none) (EL k)
def zw (k:Nat)(a0:List vI)(a1 a2:AC):Option jX:=
 bif !(decide ((a1.length:Int)=(a0.length:Int))) then some (0,false)
 else bif !(decide ((a2.length:Int)=(a0.length:Int))) then some (0,false)
 else(Jb k k a0 a1 a2 0 0).bind fun z=>
 match z with
 |.inl z1=>some (z1,true)
 |.inr z2=>some (z2.1,z2.2)
def NB (k:Nat)(a0:po)(a1 a2:Int):Option (Int×tK):=
 bif decide (a1<0) then some (1,(yD a0 ([],a0.2.2.2.2.2.2.2.2.2.2.2.2.2.2.2.2.2)))
 else bif decide (a1≥(a0.2.1.length:Int)) then some (1,(yD a0 ([],a0.2.2.2.2.2.2.2.2.2.2.2.2.2.2.2.2.2)))
 else bif decide (a2<0) then some (1,(yD a0 ([],a0.2.2.2.2.2.2.2.2.2.2.2.2.2.2.2.2.2)))
 else bif decide (a2>1099511627776) then some (1,(yD a0 ([],a0.2.2.2.2.2.2.2.2.2.2.2.2.2.2.2.2.2)))
 else bif zB a0.2.2.2.2.2.2.2.2.2.2.2.2.2.2.2.2.1 a0.2.2.2.2.2.2.2.2.2.2.2.1.length then ((tm k (a0.2.2.2.2.2.2.2.2.2.2.2.1.getD a0.2.2.2.2.2.2.2.2.2.2.2.2.2.2.2.2.1.toNat []) a1 a2).bind fun x0=>
  (zw k a0.2.1 a0.2.2.2.2.2.2.2.2.2.2.1 x0).bind fun x1=>
  bif !x1.2 then some (8,(yD a0 ([],a0.2.2.2.2.2.2.2.2.2.2.2.2.2.2.2.2.2)))
  else bif decide (x1.1>1152921504606846976) then some (8,(yD a0 ([],a0.2.2.2.2.2.2.2.2.2.2.2.2.2.2.2.2.2)))
  else(nD k a0.2.2.2.2.2.2.1 a0.2.2.2.2.2.2.2.1 a0.2.2.2.2.2.2.2.2.1 a0.2.2.2.2.2.2.2.2.2.1).bind fun x2=>
  bif zB a0.2.2.2.2.2.2.2.2.2.2.2.2.2.2.2.2.1 x2.1.length then (bif decide (x1.1 < (x2.1.getD a0.2.2.2.2.2.2.2.2.2.2.2.2.2.2.2.2.1.toNat (0, 0, 0)).2.1) then (bif decide ((zA ((x2.1.getD a0.2.2.2.2.2.2.2.2.2.2.2.2.2.2.2.2.1.toNat (0,0,0)).1+x1.1))<0) then some (9,(yD a0 ([],a0.2.2.2.2.2.2.2.2.2.2.2.2.2.2.2.2.2)))
    else bif zB a0.2.2.2.2.2.2.2.2.2.2.2.2.2.2.2.2.1 x2.1.length then (let y0:List zK:=(x2.1.set a0.2.2.2.2.2.2.2.2.2.2.2.2.2.2.2.2.1.toNat ((x2.1.getD a0.2.2.2.2.2.2.2.2.2.2.2.2.2.2.2.2.1.toNat (0,0,0)).1,x1.1,(x2.1.getD a0.2.2.2.2.2.2.2.2.2.2.2.2.2.2.2.2.1.toNat (0,0,0)).2.2))
     bif zO (0 + a0.2.2.2.2.2.2.2.2.2.2.2.1.length) 24 then (bif zB a0.2.2.2.2.2.2.2.2.2.2.2.2.2.2.2.2.1 a0.2.2.2.2.2.2.2.2.2.2.2.1.length then (let y1:EQ:=(a0.2.2.2.2.2.2.2.2.2.2.2.1.set a0.2.2.2.2.2.2.2.2.2.2.2.2.2.2.2.2.1.toNat x0)
       some (0,(wX a0 (y0,x2.2.1,x2.2.2.1,x2.2.2.2,a0.2.2.2.2.2.2.2.2.2.2.1,y1,(yZq a0 ([],a0.2.2.2.2.2.2.2.2.2.2.2.2.2.2.2.2.2))))))
      else none)
     else none)
    else none)
   else bif zB a0.2.2.2.2.2.2.2.2.2.2.2.2.2.2.2.2.1 x2.1.length then (let y2:List zK:=(x2.1.set a0.2.2.2.2.2.2.2.2.2.2.2.2.2.2.2.2.1.toNat ((x2.1.getD a0.2.2.2.2.2.2.2.2.2.2.2.2.2.2.2.2.1.toNat (0,0,0)).1,x1.1,(x2.1.getD a0.2.2.2.2.2.2.2.2.2.2.2.2.2.2.2.2.1.toNat (0,0,0)).2.2))
    bif zO (0 + a0.2.2.2.2.2.2.2.2.2.2.2.1.length) 24 then (bif zB a0.2.2.2.2.2.2.2.2.2.2.2.2.2.2.2.2.1 a0.2.2.2.2.2.2.2.2.2.2.2.1.length then (let y3:EQ:=(a0.2.2.2.2.2.2.2.2.2.2.2.1.set a0.2.2.2.2.2.2.2.2.2.2.2.2.2.2.2.2.1.toNat x0)
      some (0,(wX a0 (y2,x2.2.1,x2.2.2.1,x2.2.2.2,a0.2.2.2.2.2.2.2.2.2.2.1,y3,(yZq a0 ([],a0.2.2.2.2.2.2.2.2.2.2.2.2.2.2.2.2.2))))))
     else none)
    else none)
   else none)
  else none)
 else none
def E3 (k:Nat)(a0:zK)(a1:Int):Option (zK×Int):=
 (EK k a0.1 a1).bind fun x0=>
 bif !x0.2 then some (a0,8)
 else(HC k x0.1 a0.2.1 a0.2.2).bind fun x1=>
 bif !x1 then some (a0,8)
 else some ((x0.1,a0.2),0)
def E4 (k:Nat)(a0:po)(a1:Bool)(a2 a3:Int):Option (Int×tK):=
 (tl k (yD a0 ([],a0.2.2.2.2.2.2.2.2.2.2.2.2.2.2.2.2.2)) a2).bind fun x0=>
 bif decide (x0<0) then some (1,(yD a0 ([],a0.2.2.2.2.2.2.2.2.2.2.2.2.2.2.2.2.2)))
 else bif decide (a3<1) then some (1,(yD a0 ([],a0.2.2.2.2.2.2.2.2.2.2.2.2.2.2.2.2.2)))
 else bif decide (a3>1099511627776) then some (1,(yD a0 ([],a0.2.2.2.2.2.2.2.2.2.2.2.2.2.2.2.2.2)))
 else(nD k a0.2.2.2.2.2.2.1 a0.2.2.2.2.2.2.2.1 a0.2.2.2.2.2.2.2.2.1 a0.2.2.2.2.2.2.2.2.2.1).bind fun x1=>
 bif a1 then (bif zB x0 x1.1.length then ((E3 k (x1.1.getD x0.toNat (0,0,0)) a3).bind fun x2=>
   bif decide ((zA (a0.2.2.2.2.2.2.2.2.2.2.2.2.2.2.1+a3))>1152921504606846976) then some (8,(yD a0 ([],a0.2.2.2.2.2.2.2.2.2.2.2.2.2.2.2.2.2)))
   else bif !(decide (x2.2=0)) then some (8,(yD a0 ([],a0.2.2.2.2.2.2.2.2.2.2.2.2.2.2.2.2.2)))
   else bif zB x0 x1.1.length then some (0,(wX a0 ((x1.1.set x0.toNat x2.1),x1.2.1,x1.2.2.1,x1.2.2.2,(F4 a0 ((zA (a0.2.2.2.2.2.2.2.2.2.2.2.2.2.2.1+a3)),a0.2.2.2.2.2.2.2.2.2.2.2.2.2.2.2.1,a0.2.2.2.2.2.2.2.2.2.2.2.2.2.2.2.2.1,[],a0.2.2.2.2.2.2.2.2.2.2.2.2.2.2.2.2.2)))))
   else none)
  else none)
 else bif zB x0 x1.1.length then (bif decide ((zA ((zA ((x1.1.getD x0.toNat (0,0,0)).1+(x1.1.getD x0.toNat (0,0,0)).2.1))-(x1.1.getD x0.toNat (0,0,0)).2.2))<a3) then some (9,(yD a0 ([],a0.2.2.2.2.2.2.2.2.2.2.2.2.2.2.2.2.2)))
  else bif decide (a0.2.2.2.2.2.2.2.2.2.2.2.2.2.2.1<a3) then some (9,(yD a0 ([],a0.2.2.2.2.2.2.2.2.2.2.2.2.2.2.2.2.2)))
  else bif zB x0 x1.1.length then (let y0:List zK:=(x1.1.set x0.toNat ((zA ((x1.1.getD x0.toNat (0,0,0)).1-a3)),(x1.1.getD x0.toNat (0,0,0)).2))
   some (0,(wX a0 (y0,x1.2.1,x1.2.2.1,x1.2.2.2,(F4 a0 ((zA (a0.2.2.2.2.2.2.2.2.2.2.2.2.2.2.1-a3)),a0.2.2.2.2.2.2.2.2.2.2.2.2.2.2.2.1,a0.2.2.2.2.2.2.2.2.2.2.2.2.2.2.2.2.1,[],a0.2.2.2.2.2.2.2.2.2.2.2.2.2.2.2.2.2))))))
  else none)
 else none
abbrev W0:Type:=(po×AC×(List zK)×EQ×AC×EQ)⊕(Int×po)
abbrev WY:Type:=Int→po→AC→List zK→EQ→AC→EQ→Option W0
def E5 (k:Nat)(rec:WY)(s9:Int)(b0:po)(r1:AC)(r3:List zK)(m4:EQ)(r5:AC)(m6:EQ):Option W0:=
 bif decide (s9 < (r3.length : Int)) then (bif zB s9 b0.2.2.2.2.2.2.2.2.2.2.2.1.length then ((zw k b0.2.1 r1 (b0.2.2.2.2.2.2.2.2.2.2.2.1.getD s9.toNat [])).bind fun x2=>
   bif !x2.2 then some (.inr (8,b0))
   else bif decide (x2.1>1152921504606846976) then some (.inr (8,b0))
   else bif zB s9 r3.length then (let y0:List zK:=(r3.set s9.toNat ((r3.getD s9.toNat (0,0,0)).1,x2.1,(r3.getD s9.toNat (0,0,0)).2.2))
    rec (zA (s9+1)) b0 r1 y0 m4 r5 m6)
   else none)
  else none)
 else some (.inl (b0,r1,r3,m4,r5,m6))
def tn (k:Nat):Nat→WY:=yC (fun _ _ _ _ _ _ _=>none) (E5 k)
def NC (k:Nat)(a0:po)(a1 a2:Int):Option (Int×tK):=
 bif decide (a1<0) then some (1,(yD a0 ([],a0.2.2.2.2.2.2.2.2.2.2.2.2.2.2.2.2.2)))
 else bif decide (a1≥(a0.2.1.length:Int)) then some (1,(yD a0 ([],a0.2.2.2.2.2.2.2.2.2.2.2.2.2.2.2.2.2)))
 else bif decide (a2<0) then some (1,(yD a0 ([],a0.2.2.2.2.2.2.2.2.2.2.2.2.2.2.2.2.2)))
 else bif decide (a2>1048576) then some (1,(yD a0 ([],a0.2.2.2.2.2.2.2.2.2.2.2.2.2.2.2.2.2)))
 else(tm k a0.2.2.2.2.2.2.2.2.2.2.1 a1 a2).bind fun x0=>
 (nD k a0.2.2.2.2.2.2.1 a0.2.2.2.2.2.2.2.1 a0.2.2.2.2.2.2.2.2.1 a0.2.2.2.2.2.2.2.2.2.1).bind fun x1=>
 (tn k k 0 a0 x0 x1.1 x1.2.1 x1.2.2.1 x1.2.2.2).bind fun z=>
 match z with
 |.inl z1=>some (0,(wX z1.1 (z9 z1 (z1.2.1,(yH2 z1.1 ([],z1.1.2.2.2.2.2.2.2.2.2.2.2.2.2.2.2.2.2))))))
 |.inr z2=>some (yQi z2 ([],z2.2.2.2.2.2.2.2.2.2.2.2.2.2.2.2.2.2.2))
def wi (k:Nat)(a0:po)(a1:zC):Option (Int×tK):=
 bif decide (a1.1 = 1) then ((NA k a0 a1.2).bind fun x0=>
  some (x0.1,x0.2))
 else bif decide (a1.1 = 2) then ((Ax k a0 a1.1 a1.2).bind fun x1=>
  some (x1.1,x1.2))
 else bif decide (a1.1 = 3) then ((Ax k a0 a1.1 a1.2).bind fun x2=>
  some (x2.1,x2.2))
 else bif decide (a1.1 = 4) then ((Ax k a0 a1.1 a1.2).bind fun x3=>
  some (x3.1,x3.2))
 else bif decide (a1.1 = 5) then ((Ay k a0 a1.1 a1.2).bind fun x4=>
  some (x4.1,x4.2))
 else bif decide (a1.1 = 6) then ((Ay k a0 a1.1 a1.2).bind fun x5=>
  some (x5.1,x5.2))
 else bif decide (a1.1 = 7) then ((Ay k a0 a1.1 a1.2).bind fun x6=>
  some (x6.1,x6.2))
 else bif decide (a1.1 = 8) then ((NB k a0 a1.2.1 a1.2.2.1).bind fun x7=>
  some (x7.1,x7.2))
 else bif decide (a1.1 = 10) then ((E4 k a0 (decide (a1.1=10)) a1.2.1 a1.2.2.1).bind fun x8=>
  some (x8.1,x8.2))
 else bif decide (a1.1 = 11) then ((E4 k a0 (decide (a1.1=10)) a1.2.1 a1.2.2.1).bind fun x9=>
  some (x9.1,x9.2))
 else bif decide (a1.1 = 12) then ((NC k a0 a1.2.1 a1.2.2.1).bind fun di=>
  some (di.1,di.2))
 else some (0,(yD a0 ([],a0.2.2.2.2.2.2.2.2.2.2.2.2.2.2.2.2.2)))
def Jy (k:Nat)(a0:yO)(a1:yT)(a2:qA):Option (yT×(List qA)×Int):=
 (AF k a0 a2).bind fun x0=>
 bif !x0 then some (a1,[],5)
 else bif a1.2.2.2.2.2.2.2.2.2.2 then (bif !(decide (a2.2.1=9)) then some (a1,[],7)
  else bif decide (a2.2.1 = 9) then (bif zB a2.1 a1.2.1.length then ((sQ k a1.2.2.2.2.2.2.2.1 a2.1).bind fun x1=>
    (jS k 17 [(a1.2.1.getD a2.1.toNat (0,0,0)).1,(a1.2.1.getD a2.1.toNat (0,0,0)).2.1,(a1.2.1.getD a2.1.toNat (0,0,0)).2.2,(x1.length:Int),a1.1]).bind fun x2=>
    some (a1,[(a2.1,x2)],0))
   else none)
  else bif decide (a2.2.1 = 14) then ((Fs k a0 a1).bind fun x3=>
   some (x3.1,x3.2,0))
  else(wi k (wS a0 (wA a1 (a2.1,0))) a2.2).bind fun x4=>
  bif !(decide (x4.1=0)) then some (a1,[],x4.1)
  else bif !(decide (a2.1 = (-1))) then ((jS k 15 []).bind fun x5=>
   (mS k x4.2.2.2.2.2.2.1 x4.2.2.2.2.2.2.2.1 x4.2.2.2.2.2.2.2.2.1 x4.2.2.2.2.2.2.2.2.2.1 x4.2.2.2.2.2.2.2.2.2.2.1 x4.2.2.2.2.2.2.2.2.2.2.2.1 x4.2.2.2.2.2.2.2.2.2.2.2.2.1 x4.2.2.2.2.2.2.2.2.2.2.2.2.2.1 x4.2.2.2.2.2.2.2.2.2.2.2.2.2.2.1 x4.2.2.2.2.2.2.2.2.2.2.2.2.2.2.2.1 x4.2.2.2.2.2.2.2.2.2.2.2.2.2.2.2.2.1 (decide (a2.2.1=13))).bind fun x6=>
   bif zO (1 + x4.2.2.2.2.2.2.2.2.2.2.2.2.2.2.2.2.2.2.1.length) 64 then (let y0:List qA:=([(a2.1,x5)]++x4.2.2.2.2.2.2.2.2.2.2.2.2.2.2.2.2.2.2.1)
    bif zO (y0.length + x6.2.2.2.2.2.2.2.2.2.2.2.length) 64 then (bif decide (x4.2.2.2.2.2.2.2.2.2.2.2.2.2.2.2.2.2.2.2 > 0) then ((lY k x6.2.2.2.2.2.2.2.1 x4.2.2.2.2.2.2.2.2.2.2.2.2.2.2.2.2.2.2.2).bind fun x7=>
      bif decide (x7 ≥ 0) then ((jS k 19 [x4.2.2.2.2.2.2.2.2.2.2.2.2.2.2.2.2.2.2.2]).bind fun x8=>
       bif zO ((y0 ++ x6.2.2.2.2.2.2.2.2.2.2.2).length + 1) 64 then (let y1:List qA:=((y0++x6.2.2.2.2.2.2.2.2.2.2.2)++[(a2.1,x8)])
        some ((qZ x6),y1,0))
       else none)
      else some ((qZ x6),(y0++x6.2.2.2.2.2.2.2.2.2.2.2),0))
     else some ((qZ x6),(y0++x6.2.2.2.2.2.2.2.2.2.2.2),0))
    else none)
   else none)
  else(mS k x4.2.2.2.2.2.2.1 x4.2.2.2.2.2.2.2.1 x4.2.2.2.2.2.2.2.2.1 x4.2.2.2.2.2.2.2.2.2.1 x4.2.2.2.2.2.2.2.2.2.2.1 x4.2.2.2.2.2.2.2.2.2.2.2.1 x4.2.2.2.2.2.2.2.2.2.2.2.2.1 x4.2.2.2.2.2.2.2.2.2.2.2.2.2.1 x4.2.2.2.2.2.2.2.2.2.2.2.2.2.2.1 x4.2.2.2.2.2.2.2.2.2.2.2.2.2.2.2.1 x4.2.2.2.2.2.2.2.2.2.2.2.2.2.2.2.2.1 (decide (a2.2.1=13))).bind fun x9=>
  bif zO x4.2.2.2.2.2.2.2.2.2.2.2.2.2.2.2.2.2.2.1.length 64 then (let y2:List qA:=x4.2.2.2.2.2.2.2.2.2.2.2.2.2.2.2.2.2.2.1
   bif zO (y2.length + x9.2.2.2.2.2.2.2.2.2.2.2.length) 64 then (bif decide (x4.2.2.2.2.2.2.2.2.2.2.2.2.2.2.2.2.2.2.2 > 0) then ((lY k x9.2.2.2.2.2.2.2.1 x4.2.2.2.2.2.2.2.2.2.2.2.2.2.2.2.2.2.2.2).bind fun di=>
     bif decide (di ≥ 0) then ((jS k 19 [x4.2.2.2.2.2.2.2.2.2.2.2.2.2.2.2.2.2.2.2]).bind fun fD=>
      bif zO ((y2 ++ x9.2.2.2.2.2.2.2.2.2.2.2).length + 1) 64 then (let y3:List qA:=((y2++x9.2.2.2.2.2.2.2.2.2.2.2)++[(a2.1,fD)])
       some ((qZ x9),y3,0))
      else none)
     else some ((qZ x9),(y2++x9.2.2.2.2.2.2.2.2.2.2.2),0))
    else some ((qZ x9),(y2++x9.2.2.2.2.2.2.2.2.2.2.2),0))
   else none)
  else none)
 else bif decide (a2.2.1 = 9) then (bif zB a2.1 a1.2.1.length then ((sQ k a1.2.2.2.2.2.2.2.1 a2.1).bind fun lB=>
   (jS k 17 [(a1.2.1.getD a2.1.toNat (0,0,0)).1,(a1.2.1.getD a2.1.toNat (0,0,0)).2.1,(a1.2.1.getD a2.1.toNat (0,0,0)).2.2,(lB.length:Int),a1.1]).bind fun lC=>
   some (a1,[(a2.1,lC)],0))
  else none)
 else bif decide (a2.2.1 = 14) then ((Fs k a0 a1).bind fun pq=>
  some (pq.1,pq.2,0))
 else(wi k (wS a0 (wA a1 (a2.1,0))) a2.2).bind fun bQ=>
 bif !(decide (bQ.1=0)) then some (a1,[],bQ.1)
 else bif !(decide (a2.1 = (-1))) then ((jS k 15 []).bind fun xh=>
  (mS k bQ.2.2.2.2.2.2.1 bQ.2.2.2.2.2.2.2.1 bQ.2.2.2.2.2.2.2.2.1 bQ.2.2.2.2.2.2.2.2.2.1 bQ.2.2.2.2.2.2.2.2.2.2.1 bQ.2.2.2.2.2.2.2.2.2.2.2.1 bQ.2.2.2.2.2.2.2.2.2.2.2.2.1 bQ.2.2.2.2.2.2.2.2.2.2.2.2.2.1 bQ.2.2.2.2.2.2.2.2.2.2.2.2.2.2.1 bQ.2.2.2.2.2.2.2.2.2.2.2.2.2.2.2.1 bQ.2.2.2.2.2.2.2.2.2.2.2.2.2.2.2.2.1 (decide (a2.2.1=13))).bind fun gn=>
  bif zO (1 + bQ.2.2.2.2.2.2.2.2.2.2.2.2.2.2.2.2.2.2.1.length) 64 then (let y4:List qA:=([(a2.1,xh)]++bQ.2.2.2.2.2.2.2.2.2.2.2.2.2.2.2.2.2.2.1)
   bif zO (y4.length + gn.2.2.2.2.2.2.2.2.2.2.2.length) 64 then (bif decide (bQ.2.2.2.2.2.2.2.2.2.2.2.2.2.2.2.2.2.2.2 > 0) then ((lY k gn.2.2.2.2.2.2.2.1 bQ.2.2.2.2.2.2.2.2.2.2.2.2.2.2.2.2.2.2.2).bind fun xi=>
     bif decide (xi ≥ 0) then ((jS k 19 [bQ.2.2.2.2.2.2.2.2.2.2.2.2.2.2.2.2.2.2.2]).bind fun F5=>
      bif zO ((y4 ++ gn.2.2.2.2.2.2.2.2.2.2.2).length + 1) 64 then (let y5:List qA:=((y4++gn.2.2.2.2.2.2.2.2.2.2.2)++[(a2.1,F5)])
       some ((qZ gn),y5,0))
      else none)
     else some ((qZ gn),(y4++gn.2.2.2.2.2.2.2.2.2.2.2),0))
    else some ((qZ gn),(y4++gn.2.2.2.2.2.2.2.2.2.2.2),0))
   else none)
  else none)
 else(mS k bQ.2.2.2.2.2.2.1 bQ.2.2.2.2.2.2.2.1 bQ.2.2.2.2.2.2.2.2.1 bQ.2.2.2.2.2.2.2.2.2.1 bQ.2.2.2.2.2.2.2.2.2.2.1 bQ.2.2.2.2.2.2.2.2.2.2.2.1 bQ.2.2.2.2.2.2.2.2.2.2.2.2.1 bQ.2.2.2.2.2.2.2.2.2.2.2.2.2.1 bQ.2.2.2.2.2.2.2.2.2.2.2.2.2.2.1 bQ.2.2.2.2.2.2.2.2.2.2.2.2.2.2.2.1 bQ.2.2.2.2.2.2.2.2.2.2.2.2.2.2.2.2.1 (decide (a2.2.1=13))).bind fun iY=>
 bif zO bQ.2.2.2.2.2.2.2.2.2.2.2.2.2.2.2.2.2.2.1.length 64 then (let y6:List qA:=bQ.2.2.2.2.2.2.2.2.2.2.2.2.2.2.2.2.2.2.1
  bif zO (y6.length + iY.2.2.2.2.2.2.2.2.2.2.2.length) 64 then (bif decide (bQ.2.2.2.2.2.2.2.2.2.2.2.2.2.2.2.2.2.2.2 > 0) then ((lY k iY.2.2.2.2.2.2.2.1 bQ.2.2.2.2.2.2.2.2.2.2.2.2.2.2.2.2.2.2.2).bind fun tL=>
    bif decide (tL ≥ 0) then ((jS k 19 [bQ.2.2.2.2.2.2.2.2.2.2.2.2.2.2.2.2.2.2.2]).bind fun PY=>
     bif zO ((y6 ++ iY.2.2.2.2.2.2.2.2.2.2.2).length + 1) 64 then (let y7:List qA:=((y6++iY.2.2.2.2.2.2.2.2.2.2.2)++[(a2.1,PY)])
      some ((qZ iY),y7,0))
     else none)
    else some ((qZ iY),(y6++iY.2.2.2.2.2.2.2.2.2.2.2),0))
   else some ((qZ iY),(y6++iY.2.2.2.2.2.2.2.2.2.2.2),0))
  else none)
 else none
abbrev W4:Type:=List qA→List qA→Int→Option (Unit⊕Bool)
def Eu (k:Nat)(rec:W4)(s0 s1:List qA)(s5:Int):Option (Unit⊕Bool):=
 bif decide (s5 < (s0.length : Int)) then (bif zB s5 s0.length then (bif zB s5 s1.length then (bif !((decide ((s0.getD s5.toNat (0,0,0,0,0,0,0,0)).1=(s1.getD s5.toNat (0,0,0,0,0,0,0,0)).1))&&((decide ((s0.getD s5.toNat (0,0,0,0,0,0,0,0)).2.1=(s1.getD s5.toNat (0,0,0,0,0,0,0,0)).2.1))&&((decide ((s0.getD s5.toNat (0,0,0,0,0,0,0,0)).2.2.1=(s1.getD s5.toNat (0,0,0,0,0,0,0,0)).2.2.1))&&((decide ((s0.getD s5.toNat (0,0,0,0,0,0,0,0)).2.2.2.1=(s1.getD s5.toNat (0,0,0,0,0,0,0,0)).2.2.2.1))&&((decide ((s0.getD s5.toNat (0,0,0,0,0,0,0,0)).2.2.2.2.1=(s1.getD s5.toNat (0,0,0,0,0,0,0,0)).2.2.2.2.1))&&((decide ((s0.getD s5.toNat (0,0,0,0,0,0,0,0)).2.2.2.2.2.1=(s1.getD s5.toNat (0,0,0,0,0,0,0,0)).2.2.2.2.2.1))&&((decide ((s0.getD s5.toNat (0,0,0,0,0,0,0,0)).2.2.2.2.2.2.1=(s1.getD s5.toNat (0,0,0,0,0,0,0,0)).2.2.2.2.2.2.1))&&(decide ((s0.getD s5.toNat (0,0,0,0,0,0,0,0)).2.2.2.2.2.2.2=(s1.getD s5.toNat (0,0,0,0,0,0,0,0)).2.2.2.2.2.2.2))))))))) then some (.inr false)
    else rec s0 s1 (zA (s5+1)))
   else none)
  else none)
 else some (.inl ())
def IY (k:Nat):Nat→W4
 |0,_,_,_=>none
 |n+1,s0,s1,s5=>Eu k (IY k n) s0 s1 s5
def vn (k:Nat)(a0 a1:List qA):Option Bool:=
 bif !(decide ((a0.length:Int)=(a1.length:Int))) then some false
 else(IY k k a0 a1 0).bind fun z=>
 match z with
 |.inl z1=>some true
 |.inr z2=>some z2
abbrev W7:Type:=AC→AC→Int→Option (Unit⊕Bool)
def CM (k:Nat)(rec:W7)(s0 s1:AC)(s5:Int):Option (Unit⊕Bool):=
 bif decide (s5 < (s0.length : Int)) then (bif zB s5 s0.length then (bif zB s5 s1.length then (bif !(decide ((s0.getD s5.toNat 0)=(s1.getD s5.toNat 0))) then some (.inr false)
    else rec s0 s1 (zA (s5+1)))
   else none)
  else none)
 else some (.inl ())
def HV (k:Nat):Nat→W7
 |0,_,_,_=>none
 |n+1,s0,s1,s5=>CM k (HV k n) s0 s1 s5
def sI (k:Nat)(a0 a1:AC):Option Bool:=
 bif !(decide ((a0.length:Int)=(a1.length:Int))) then some false
 else(HV k k a0 a1 0).bind fun z=>
 match z with
 |.inl z1=>some true
 |.inr z2=>some z2
abbrev Xa:Type:=EQ→EQ→Int→Option (Unit⊕Bool)
def CN (k:Nat)(rec:Xa)(s0 s1:EQ)(s5:Int):Option (Unit⊕Bool):=
 bif decide (s5 < (s0.length : Int)) then (bif zB s5 s0.length then (bif zB s5 s1.length then ((sI k (s0.getD s5.toNat []) (s1.getD s5.toNat [])).bind fun x0=>
    bif !x0 then some (.inr false)
    else rec s0 s1 (zA (s5+1)))
   else none)
  else none)
 else some (.inl ())
def HW (k:Nat):Nat→Xa
 |0,_,_,_=>none
 |n+1,s0,s1,s5=>CN k (HW k n) s0 s1 s5
def yr (k:Nat)(a0 a1:EQ):Option Bool:=
 bif !(decide ((a0.length:Int)=(a1.length:Int))) then some false
 else(HW k k a0 a1 0).bind fun z=>
 match z with
 |.inl z1=>some true
 |.inr z2=>some z2
abbrev Xd:Type:=Int→List zK→EQ→AC→EQ→List zK→EQ→AC→EQ→Option (Unit⊕Bool)
def CO (k:Nat)(rec:Xd)(s5:Int)(ae:List zK)(ah:EQ)(ai:AC)(ag:EQ)(av:List zK)(aB:EQ)(aC:AC)(aE:EQ):Option (Unit⊕Bool):=
 bif decide (s5 < (ae.length : Int)) then (bif zB s5 ae.length then (bif zB s5 av.length then (bif !((decide ((ae.getD s5.toNat (0,0,0)).1=(av.getD s5.toNat (0,0,0)).1))&&((decide ((ae.getD s5.toNat (0,0,0)).2.1=(av.getD s5.toNat (0,0,0)).2.1))&&(decide ((ae.getD s5.toNat (0,0,0)).2.2=(av.getD s5.toNat (0,0,0)).2.2)))) then some (.inr false)
    else rec (zA (s5+1)) ae ah ai ag av aB aC aE)
   else none)
  else none)
 else some (.inl ())
def HY (k:Nat):Nat→Xd
 |0,_,_,_,_,_,_,_,_,_=>none
 |n+1,s5,ae,ah,ai,ag,av,aB,aC,aE=>CO k (HY k n) s5 ae ah ai ag av aB aC aE
def HX (k:Nat)(au:List zK)(az:EQ)(ay:AC)(ax:EQ)(cS:List zK)(iq:EQ)(ir:AC)(iu:EQ):Option Bool:=
 bif !(decide ((au.length:Int)=(cS.length:Int))) then some false
 else(yr k az iq).bind fun x0=>
 bif !x0 then some false
 else(yr k ax iu).bind fun x1=>
 bif !x1 then some false
 else(sI k ay ir).bind fun x2=>
 bif !x2 then some false
 else(HY k k 0 au az ay ax cS iq ir iu).bind fun z=>
 match z with
 |.inl z1=>some true
 |.inr z2=>some z2
abbrev Xg:Type:=List zC→List zC→Int→Option (Unit⊕Bool)
def Fw (k:Nat)(rec:Xg)(s0 s1:List zC)(s5:Int):Option (Unit⊕Bool):=
 bif decide (s5 < (s0.length : Int)) then (bif zB s5 s0.length then (bif zB s5 s1.length then (bif !((decide ((s0.getD s5.toNat (0,0,0,0,0,0,0)).1=(s1.getD s5.toNat (0,0,0,0,0,0,0)).1))&&((decide ((s0.getD s5.toNat (0,0,0,0,0,0,0)).2.1=(s1.getD s5.toNat (0,0,0,0,0,0,0)).2.1))&&((decide ((s0.getD s5.toNat (0,0,0,0,0,0,0)).2.2.1=(s1.getD s5.toNat (0,0,0,0,0,0,0)).2.2.1))&&((decide ((s0.getD s5.toNat (0,0,0,0,0,0,0)).2.2.2.1=(s1.getD s5.toNat (0,0,0,0,0,0,0)).2.2.2.1))&&((decide ((s0.getD s5.toNat (0,0,0,0,0,0,0)).2.2.2.2.1=(s1.getD s5.toNat (0,0,0,0,0,0,0)).2.2.2.2.1))&&((decide ((s0.getD s5.toNat (0,0,0,0,0,0,0)).2.2.2.2.2.1=(s1.getD s5.toNat (0,0,0,0,0,0,0)).2.2.2.2.2.1))&&(decide ((s0.getD s5.toNat (0,0,0,0,0,0,0)).2.2.2.2.2.2=(s1.getD s5.toNat (0,0,0,0,0,0,0)).2.2.2.2.2.2)))))))) then some (.inr false)
    else rec s0 s1 (zA (s5+1)))
   else none)
  else none)
 else some (.inl ())
def JB (k:Nat):Nat→Xg
 |0,_,_,_=>none
 |n+1,s0,s1,s5=>Fw k (JB k n) s0 s1 s5
def JA (k:Nat)(a0 a1:List zC):Option Bool:=
 bif !(decide ((a0.length:Int)=(a1.length:Int))) then some false
 else(JB k k a0 a1 0).bind fun z=>
 match z with
 |.inl z1=>some true
 |.inr z2=>some z2
def JC (k:Nat)(a0 a1:yT):Option Bool:=
 bif decide (a0.1 = a1.1) then (bif decide (a0.2.2.2.2.2.2.2.2.2.1 = a1.2.2.2.2.2.2.2.2.2.1) then (bif nU a0.2.2.2.2.2.2.2.2.2.2 a1.2.2.2.2.2.2.2.2.2.2 then ((HX k a0.2.1 a0.2.2.1 a0.2.2.2.1 a0.2.2.2.2.1 a1.2.1 a1.2.2.1 a1.2.2.2.1 a1.2.2.2.2.1).bind fun x0=>
    bif x0 then ((sI k a0.2.2.2.2.2.1 a1.2.2.2.2.2.1).bind fun x1=>
     bif x1 then ((yr k a0.2.2.2.2.2.2.1 a1.2.2.2.2.2.2.1).bind fun x2=>
      bif x2 then ((JA k a0.2.2.2.2.2.2.2.1 a1.2.2.2.2.2.2.2.1).bind fun x3=>
       bif x3 then ((sI k a0.2.2.2.2.2.2.2.2.1 a1.2.2.2.2.2.2.2.2.1).bind fun x4=>
        some x4)
       else some false)
      else some false)
     else some false)
    else some false)
   else some false)
  else some false)
 else some false
def JW (k:Nat)(a0 a1:Int)(a2:AC):Option qA:=
 (jS k a1 a2).bind fun x0=>
 some (a0,x0)
abbrev Xl:Type:=AC×Int×AC
abbrev Xj:Type:=AC→Int→Int→AC→Option Xl
def yEw (k:Nat)(rec:Xj)(s0:AC)(s4 s5:Int)(r0:AC):Option Xl:=
 bif decide (s5 ≥ 0) then (bif zB s4 s0.length then (bif !(decide ((IntKind.wrap .u64 (s5)) < 0)) then (bif zO (r0.length+1) 1 then(rec s0 s4 (zA (s5-8)) (r0++[(IntKind.wrap .u8 ((shr .u64 (IntKind.wrap .u64 ((s0.getD s4.toNat 0))) (IntKind.wrap .u64 (s5)))))]))
    else none)
   else none)
  else none)
 else some (s0,s4,r0)
def Xm (k:Nat):Nat→Xj:=yC (fun _ _ _ _=>none) (yEw k)
abbrev Xn:Type:=AC→Int→AC→Option AC
def yJj (k:Nat)(rec:Xn)(s0:AC)(s4:Int)(r0:AC):Option AC:=
 bif decide (s4 < (s0.length : Int)) then ((Xm k k s0 s4 56 r0).bind fun z=>
  rec z.1 (zA (z.2.1+1)) z.2.2)
 else some r0
def Xp (k:Nat):Nat→Xn:=yC (fun _ _ _=>none) (yJj k)
def yCt (k:Nat)(a0:AC):Option AC:=
 (Xp k k a0 0 []).bind fun z1=>
 some z1
def vAb (k:Nat)(a0:zC):Option AC:=
 (AE k a0).bind fun x0=>
 bif !x0 then some []
 else(AB k a0.1).bind fun x1=>
 bif (decide (0 ≤ x1)) && (decide (x1 ≤ 6)) then ((yCt k (qW [a0.2.1,a0.2.2.1,a0.2.2.2.1,a0.2.2.2.2.1,a0.2.2.2.2.2.1,a0.2.2.2.2.2.2] 0 (x1.toNat-0))).bind fun x2=>
  bif zO (1+x2.length) 1 then some ([(IntKind.wrap .u8 (a0.1))]++x2)
  else none)
 else none
def JY (k:Nat)(a0:qA):Option iw:=
 (vAb k a0.2).bind fun x0=>
 some (1,a0.1,x0,0,0)
def Wq (k:Nat):Option Bool:=
 (JP k 0).bind fun x0=>
 (JW k 0 1 [1,1,5,3,0,19]).bind fun x1=>
 (JY k x1).bind fun x2=>
 (JW k 1 1 [2,2,5,3,0,19]).bind fun x3=>
 (JY k x3).bind fun x4=>
 (JW k 2 1 [3,0,5,3,0,19]).bind fun x5=>
 (JY k x5).bind fun x6=>
 (JW k (-1) 13 []).bind fun x7=>
 (JY k x7).bind fun x8=>
 (FL k x0 50000 10 [x2,x4,x6,x8]).bind fun x9=>
 bif x9.2.2.2.2.2.2.2.2.2.2.2.2.2 then (bif decide ((x9.1.length : Int) = 4) then (bif zB 3 x9.1.length then (bif decide (((x9.1.getD 3 []).length:Int)=6) then some (decide ((x9.2.2.2.2.2.2.2.2.2.1.length:Int)=0))
    else some false)
   else none)
  else some false)
 else some false
abbrev Xz:Type:=Int×(Int×Int×Int×Int)×(List vI)×(List iw)
abbrev Xy:Type:=Int→List iw→Int→(Int×Int×Int×Int)→List vI→List iw→Option Xz
def A0 (k:Nat)(rec:Xy)(s1:Int)(s2:List iw)(s9:Int)(b0:(Int×Int×Int×Int))(r1:List vI)(r2:List iw):Option Xz:=
 bif decide (s9 < (s2.length : Int)) then (bif zB s9 s2.length then (bif decide ((s2.getD s9.toNat (0, 0, [], 0, 0)).1 = 1) then (bif zB s9 s2.length then (bif zO (r2.length + 1) 56 then (let y0:List iw:=(r2++[(s2.getD s9.toNat (0,0,[],0,0))])
      rec s1 s2 (zA (s9+1)) b0 r1 y0)
     else none)
    else none)
   else rec s1 s2 (zA (s9+1)) b0 r1 r2)
  else none)
 else some (s1,b0,r1,r2)
def AZ (k:Nat):Nat→Xy:=yC (fun _ _ _ _ _ _=>none) (A0 k)
abbrev XB:Type:=(qZj×(List (List qA))×(List qA)×yT)⊕Bool
abbrev XA:Type:=Int→(Int×Int×Int×Int)→List vI→List iw→qZj→List (List qA)→List qA→yT→Option XB
def wv (k:Nat)(rec:XA)(bx:Int)(b0:(Int×Int×Int×Int))(r1:List vI)(r2:List iw)(b3:qZj)(r4:List (List qA))(r5:List qA)(b6:yT):Option XB:=
 bif decide (bx < (r2.length : Int)) then (bif zB bx r2.length then ((JF k (r2.getD bx.toNat (0,0,[],0,0)).2.2.1).bind fun x4=>
   bif decide (x4.2 = 0) then (bif zB bx r2.length then ((Jy k (b0.1,r1,b0.2) b6 ((r2.getD bx.toNat (0,0,[],0,0)).2.1,x4.1)).bind fun x5=>
     bif !(decide (x5.2.2 = 0)) then (bif zB bx r2.length then ((jS k 16 [x5.2.2]).bind fun x6=>
       bif zB bx r4.length then ((vn k (r4.getD bx.toNat []) [((r2.getD bx.toNat (0,0,[],0,0)).2.1,x6)]).bind fun x7=>
        bif !x7 then some (.inr false)
        else rec (zA (bx+1)) b0 r1 r2 b3 r4 r5 x5.1)
       else none)
      else none)
     else bif zB bx r4.length then ((vn k (r4.getD bx.toNat []) x5.2.1).bind fun x8=>
      bif !x8 then some (.inr false)
      else rec (zA (bx+1)) b0 r1 r2 b3 r4 r5 x5.1)
     else none)
    else none)
   else bif !(decide (x4.2 = 0)) then (bif zB bx r2.length then ((jS k 16 [x4.2]).bind fun x9=>
     bif zB bx r4.length then ((vn k (r4.getD bx.toNat []) [((r2.getD bx.toNat (0,0,[],0,0)).2.1,x9)]).bind fun di=>
      bif !di then some (.inr false)
      else rec (zA (bx+1)) b0 r1 r2 b3 r4 r5 b6)
     else none)
    else none)
   else bif zB bx r4.length then ((vn k (r4.getD bx.toNat []) []).bind fun fD=>
    bif !fD then some (.inr false)
    else rec (zA (bx+1)) b0 r1 r2 b3 r4 r5 b6)
   else none)
  else none)
 else some (.inl (b3,r4,r5,b6))
def A2 (k:Nat):Nat→XA:=yC (fun _ _ _ _ _ _ _ _=>none) (wv k)
def Oh (k:Nat)(a0 a1:Int)(a2:List iw):Option Bool:=
 (Og k a2).bind fun x0=>
 bif x0 then some true
 else bif decide (a1<1) then some true
 else bif decide (a1>100) then some true
 else(JP k a0).bind fun x1=>
 (AZ k k a1 a2 0 (x1.1,x1.2.2) x1.2.1 []).bind fun z=>
 (FL k (z.2.1.1,z.2.2.1,z.2.1.2) 200000 z.1 z.2.2.2).bind fun x2=>
 (Of k (z.2.1.1,z.2.2.1,z.2.1.2)).bind fun x3=>
 bif !(decide ((x2.1.length:Int)=(z.2.2.2.length:Int))) then some false
 else(A2 k k 0 z.2.1 z.2.2.1 z.2.2.2 x2.2.2 x2.1 x2.2.1 x3).bind fun z1=>
 match z1 with
 | .inl z2 => bif z2.1.2.2.2.2.2.2.2.2.2.2.2 then ((JC k (qZ z2.1) z2.2.2.2).bind fun lB=>
   bif lB then ((Wq k).bind fun lC=>
    some lC)
   else some false)
  else some false
 |.inr z3=>some z3
end Go.Ab.Gi
