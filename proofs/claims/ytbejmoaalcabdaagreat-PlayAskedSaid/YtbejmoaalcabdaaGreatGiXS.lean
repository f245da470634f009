/- part 5 -/
import Derived.Test.YtbejmoaalcabdaaGreatGiXSa
set_option linter.unusedVariables false
set_option maxRecDepth 100000
namespace Go.Ab.Gi
abbrev qOj:Type:=List zB→Int→Int→Int→Int→Option Int
def CY (k:Nat)(rec:qOj)(s0:List zB)(s1 s2 s7 s8:Int):Option Int:=
 bif decide (s8 < (s0.length : Int)) then (bif zC s8 s0.length then (bif decide ((s0.getD s8.toNat (0, 0, 0, 0, 0, 0, 0)).2.1 = s1) then (bif zC s8 s0.length then (bif decide ((s0.getD s8.toNat (0, 0, 0, 0, 0, 0, 0)).2.2.1 = s2) then (bif zC s8 s0.length then(rec s0 s1 s2 (zA (s7+(s0.getD s8.toNat (0,0,0,0,0,0,0)).2.2.2.1)) (zA (s8+1)))
      else none)
     else rec s0 s1 s2 s7 (zA (s8+1)))
    else none)
   else rec s0 s1 s2 s7 (zA (s8+1)))
  else none)
 else some s7
def H0 (k:Nat):Nat→qOj
 |0,_,_,_,_,_=>none
 |n+1,s0,s1,s2,s7,s8=>CY k (H0 k n) s0 s1 s2 s7 s8
def uS (k:Nat)(a0:List zB)(a1 a2:Int):Option Int:=
 (H0 k k a0 a1 a2 0 0).bind fun z=>
 some z
def L7 (k:Nat)(a0:List zB)(a1 a2:Int):Option Int:=
 (uS k a0 a1 a2).bind fun x0=>
 (uS k a0 a2 a1).bind fun x1=>
 some (zA (x0-x1))
abbrev qUe:Type:=EQ→Int→Int→Option (Unit⊕Bool)
def Cz (k:Nat)(rec:qUe)(s0:EQ)(s1 s5:Int):Option (Unit⊕Bool):=
 bif decide (s5 < s1) then (bif zC s5 s0.length then (bif !(decide (((s0.getD s5.toNat []).length:Int)=s1)) then some (.inr false)
   else rec s0 s1 (zA (s5+1)))
  else none)
 else some (.inl ())
def HE (k:Nat):Nat→qUe
 |0,_,_,_=>none
 |n+1,s0,s1,s5=>Cz k (HE k n) s0 s1 s5
def HD (k:Nat)(a0:EQ)(a1:Int):Option Bool:=
 bif !(decide ((a0.length:Int)=a1)) then some false
 else(HE k k a0 a1 0).bind fun z=>
 match z with
 |.inl z1=>some true
 |.inr z2=>some z2
def HB (k:Nat)(g9 hY eI:Int):Option Bool:=
 bif decide (g9 > (-4611686018427387904)) then (bif decide (g9 < 4611686018427387904) then (bif decide (hY ≥ 0) then (bif decide (hY ≤ 2305843009213693952) then (bif decide (eI≥0) then some (decide (eI≤2305843009213693952))
     else some false)
    else some false)
   else some false)
  else some false)
 else some false
def HC (k:Nat)(a0:Int):Option Bool:=
 bif decide (a0≥(-1)) then some (decide (a0≤2305843009213693952))
 else some false
abbrev qP3:Type:=(Int×Int×(List zK)×EQ×AC×EQ)⊕Bool
abbrev qQ7:Type:=Int→Int→Int→List zK→EQ→AC→EQ→Option qP3
def CB (k:Nat)(rec:qQ7)(s3 s4 s5:Int)(af:List zK)(ah:EQ)(ak:AC)(ag:EQ):Option qP3:=
 bif decide (s5 < s3) then (bif zC s4 ah.length then (bif zC s5 (ah.getD s4.toNat []).length then ((HC k ((ah.getD s4.toNat []).getD s5.toNat 0)).bind fun x4=>
    bif !x4 then some (.inr false)
    else bif zC s4 ag.length then (bif zC s5 (ag.getD s4.toNat []).length then (bif decide (((ag.getD s4.toNat []).getD s5.toNat 0)≤(-72057594037927936)) then some (.inr false)
      else bif zC s4 ag.length then (bif zC s5 (ag.getD s4.toNat []).length then (bif decide (((ag.getD s4.toNat []).getD s5.toNat 0)≥72057594037927936) then some (.inr false)
        else bif zC s4 ag.length then (bif zC s5 (ag.getD s4.toNat []).length then (bif zC s5 ag.length then (bif zC s4 (ag.getD s5.toNat []).length then (bif !(decide (((ag.getD s4.toNat []).getD s5.toNat 0)=(zA (0-((ag.getD s5.toNat []).getD s4.toNat 0))))) then some (.inr false)
            else rec s3 s4 (zA (s5+1)) af ah ak ag)
           else none)
          else none)
         else none)
        else none)
       else none)
      else none)
     else none)
    else none)
   else none)
  else none)
 else some (.inl (s3,s4,af,ah,ak,ag))
def CA (k:Nat):Nat→qQ7
 |0,_,_,_,_,_,_,_=>none
 |n+1,s3,s4,s5,af,ah,ak,ag=>CB k (CA k n) s3 s4 s5 af ah ak ag
abbrev qRb:Type:=Int→Int→List zK→EQ→AC→EQ→Option (Unit⊕Bool)
def CD (k:Nat)(rec:qRb)(s3 s4:Int)(af:List zK)(ah:EQ)(ak:AC)(ag:EQ):Option (Unit⊕Bool):=
 bif decide (s4 < s3) then (bif zC s4 af.length then ((HB k (af.getD s4.toNat (0,0,0)).1 (af.getD s4.toNat (0,0,0)).2.1 (af.getD s4.toNat (0,0,0)).2.2).bind fun x2=>
   bif !x2 then some (.inr false)
   else bif zC s4 ak.length then ((HC k (ak.getD s4.toNat 0)).bind fun x3=>
    bif !x3 then some (.inr false)
    else(CA k k s3 s4 0 af ah ak ag).bind fun z=>
    match z with
    |.inl z1=>rec z1.1 (zA (z1.2.1+1)) z1.2.2.1 z1.2.2.2.1 z1.2.2.2.2.1 z1.2.2.2.2.2
    |.inr z2=>some (.inr z2))
   else none)
  else none)
 else some (.inl ())
def CC (k:Nat):Nat→qRb
 |0,_,_,_,_,_,_=>none
 |n+1,s3,s4,af,ah,ak,ag=>CD k (CC k n) s3 s4 af ah ak ag
def LO (k:Nat)(au:List zK)(aA:EQ)(az:AC)(ax:EQ):Option Bool:=
 bif decide ((au.length:Int)<1) then some false
 else bif decide ((au.length:Int)>6) then some false
 else(HD k aA (au.length:Int)).bind fun x0=>
 bif !x0 then some false
 else(HD k ax (au.length:Int)).bind fun x1=>
 bif !x1 then some false
 else bif !(decide ((az.length:Int)=(au.length:Int))) then some false
 else(CC k k (au.length:Int) 0 au aA az ax).bind fun z3=>
 match z3 with
 |.inl z4=>some true
 |.inr z5=>some z5
abbrev qGr:Type:=(List zB)×Int×(List zK)×EQ×AC×EQ×(List zK)×EQ×AC×EQ
abbrev qXp:Type:=List zB→Int→Int→List zK→EQ→AC→EQ→List zK→EQ→AC→EQ→Option qGr
def C5 (k:Nat)(rec:qXp)(s1:List zB)(s7 s8:Int)(af:List zK)(ah:EQ)(ak:AC)(ag:EQ)(r3:List zK)(m4:EQ)(r5:AC)(m6:EQ):Option qGr:=
 bif decide (s8 < (r3.length : Int)) then ((L7 k s1 s7 s8).bind fun x4=>
  bif zC s7 r3.length then (bif zC s7 r3.length then (let y1:List zK:=(r3.set s7.toNat ((zA ((r3.getD s7.toNat (0,0,0)).1-x4)),(r3.getD s7.toNat (0,0,0)).2))
    bif zC s7 m6.length then (bif zC s7 m6.length then (bif zC s8 (m6.getD s7.toNat []).length then (bif zC s8 (m6.getD s7.toNat []).length then (let y2:EQ:=(m6.set s7.toNat ((m6.getD s7.toNat []).set s8.toNat (zA (((m6.getD s7.toNat []).getD s8.toNat 0)+x4))))
        rec s1 s7 (zA (s8+1)) af ah ak ag y1 m4 r5 y2)
       else none)
      else none)
     else none)
    else none)
   else none)
  else none)
 else some (s1,s7,af,ah,ak,ag,r3,m4,r5,m6)
def C4 (k:Nat):Nat→qXp
 |0,_,_,_,_,_,_,_,_,_,_,_=>none
 |n+1,s1,s7,s8,af,ah,ak,ag,r3,m4,r5,m6=>C5 k (C4 k n) s1 s7 s8 af ah ak ag r3 m4 r5 m6
abbrev qQi:Type:=(List zK)×EQ×AC×EQ×(List zK)×EQ×AC×EQ
abbrev qL4:Type:=List zB→Int→List zK→EQ→AC→EQ→List zK→EQ→AC→EQ→Option qQi
def C7 (k:Nat)(rec:qL4)(s1:List zB)(s7:Int)(af:List zK)(ah:EQ)(ak:AC)(ag:EQ)(r3:List zK)(m4:EQ)(r5:AC)(m6:EQ):Option qQi:=
 bif decide (s7 < (r3.length : Int)) then (bif zC s7 r3.length then ((L9 k s1 s7).bind fun x2=>
   (C3 k (r3.getD s7.toNat (0,0,0)).1 (r3.getD s7.toNat (0,0,0)).2.1 (r3.getD s7.toNat (0,0,0)).2.2 x2).bind fun x3=>
   bif zC s7 r3.length then (let y0:List zK:=(r3.set s7.toNat ((r3.getD s7.toNat (0,0,0)).1,(r3.getD s7.toNat (0,0,0)).2.1,x3))
    (C4 k k s1 s7 0 af ah ak ag y0 m4 r5 m6).bind fun z=>
    rec z.1 (zA (z.2.1+1)) z.2.2.1 z.2.2.2.1 z.2.2.2.2.1 z.2.2.2.2.2.1 z.2.2.2.2.2.2.1 z.2.2.2.2.2.2.2.1 z.2.2.2.2.2.2.2.2.1 z.2.2.2.2.2.2.2.2.2)
   else none)
  else none)
 else some (af,ah,ak,ag,r3,m4,r5,m6)
def C6 (k:Nat):Nat→qL4
 |0,_,_,_,_,_,_,_,_,_,_=>none
 |n+1,s1,s7,af,ah,ak,ag,r3,m4,r5,m6=>C7 k (C6 k n) s1 s7 af ah ak ag r3 m4 r5 m6
def yw (k:Nat)(au:List zK)(aA:EQ)(az:AC)(ax:EQ)(a1:List zB):Option ((List zK)×EQ×AC×EQ×Int):=
 (HY k au aA az ax a1).bind fun x0=>
 bif !x0 then some (au,aA,az,ax,1)
 else(nC k au aA az ax).bind fun x1=>
 (C6 k k a1 0 au aA az ax x1.1 x1.2.1 x1.2.2.1 x1.2.2.2).bind fun z1=>
 (LO k z1.2.2.2.2.1 z1.2.2.2.2.2.1 z1.2.2.2.2.2.2.1 z1.2.2.2.2.2.2.2).bind fun x5=>
 bif !x5 then some (vP z1 8)
 else some (yXp z1 0)
abbrev qVb:Type:=Int→Int→Int→List zK→EQ→AC→EQ→Option Int
def C9 (k:Nat)(rec:qVb)(s1 s5 s6:Int)(af:List zK)(ah:EQ)(ak:AC)(ag:EQ):Option Int:=
 bif zC s1 ag.length then (bif decide (s6 < ((ag.getD s1.toNat []).length : Int)) then (bif zC s1 ag.length then (bif zC s6 (ag.getD s1.toNat []).length then(rec s1 (zA (s5+((ag.getD s1.toNat []).getD s6.toNat 0))) (zA (s6+1)) af ah ak ag)
    else none)
   else none)
  else some s5)
 else none
def C8 (k:Nat):Nat→qVb
 |0,_,_,_,_,_,_,_=>none
 |n+1,s1,s5,s6,af,ah,ak,ag=>C9 k (C8 k n) s1 s5 s6 af ah ak ag
def Md (k:Nat)(au:List zK)(aA:EQ)(az:AC)(ax:EQ)(a1:Int):Option Int:=
 (C8 k k a1 0 0 au aA az ax).bind fun z=>
 some z
abbrev qW1:Type:=(Int×Int×Int×Int×Int×(List zK)×EQ×AC×EQ)⊕Bool
abbrev qI5:Type:=List zB→Int→Int→Int→Int→Int→Int→List zK→EQ→AC→EQ→Option qW1
def Db (k:Nat)(rec:qI5)(s1:List zB)(s2 s7 s8 s9 aw aP:Int)(af:List zK)(ah:EQ)(ak:AC)(ag:EQ):Option qW1:=
 bif decide (aP < (af.length : Int)) then ((uS k s1 s2 aP).bind fun x2=>
  (uS k s1 aP s2).bind fun x3=>
  (uS k s1 s2 aP).bind fun x4=>
  bif decide (x4 > 0) then (bif zC s2 ah.length then (bif zC aP (ah.getD s2.toNat []).length then (bif !(decide (((ah.getD s2.toNat []).getD aP.toNat 0) = (-1))) then (bif zC s2 ag.length then (bif zC aP (ag.getD s2.toNat []).length then (bif zC s2 ah.length then (bif zC aP (ah.getD s2.toNat []).length then (bif decide ((zA (((ag.getD s2.toNat []).getD aP.toNat 0)+(zA (x2-x3))))>((ah.getD s2.toNat []).getD aP.toNat 0)) then some (.inr true)
          else rec s1 s2 s7 s8 (zA (s9-(zA (x2-x3)))) (zA (aw+(zA (x2-x3)))) (zA (aP+1)) af ah ak ag)
         else none)
        else none)
       else none)
      else none)
     else rec s1 s2 s7 s8 (zA (s9-(zA (x2-x3)))) (zA (aw+(zA (x2-x3)))) (zA (aP+1)) af ah ak ag)
    else none)
   else none)
  else rec s1 s2 s7 s8 (zA (s9-(zA (x2-x3)))) (zA (aw+(zA (x2-x3)))) (zA (aP+1)) af ah ak ag)
 else some (.inl (s2,s7,s8,s9,aw,af,ah,ak,ag))
def qf (k:Nat):Nat→qI5
 |0,_,_,_,_,_,_,_,_,_,_,_=>none
 |n+1,s1,s2,s7,s8,s9,aw,aP,af,ah,ak,ag=>Db k (qf k n) s1 s2 s7 s8 s9 aw aP af ah ak ag
def Mj (k:Nat)(au:List zK)(aA:EQ)(az:AC)(ax:EQ)(a1:List zB)(a2:Int):Option Bool:=
 (H2 k a1 a2).bind fun x0=>
 bif decide ((zA (x0.1+x0.2))=0) then some false
 else bif zC a2 au.length then (bif zC a2 au.length then ((Md k au aA az ax a2).bind fun x1=>
   (qf k k a1 a2 x0.1 x0.2 (zA ((au.getD a2.toNat (0,0,0)).1+(au.getD a2.toNat (0,0,0)).2.1)) x1 0 au aA az ax).bind fun z=>
   match z with
   |.inl z1=>bif decide (z1.2.2.2.1<0) then some true
    else bif decide (z1.2.1 > 0) then (bif zC z1.1 z1.2.2.2.2.2.1.length then ((C3 k (z1.2.2.2.2.2.1.getD z1.1.toNat (0,0,0)).1 (z1.2.2.2.2.2.1.getD z1.1.toNat (0,0,0)).2.1 (z1.2.2.2.2.2.1.getD z1.1.toNat (0,0,0)).2.2 z1.2.2.1).bind fun x5=>
      bif decide (z1.2.2.2.1<x5) then some true
      else bif zC z1.1 z1.2.2.2.2.2.2.2.1.length then (bif !(decide ((z1.2.2.2.2.2.2.2.1.getD z1.1.toNat 0) = (-1))) then (bif zC z1.1 z1.2.2.2.2.2.2.2.1.length then some (decide (z1.2.2.2.2.1>(z1.2.2.2.2.2.2.2.1.getD z1.1.toNat 0)))
        else none)
       else some false)
      else none)
     else none)
    else bif zC z1.1 z1.2.2.2.2.2.2.2.1.length then (bif !(decide ((z1.2.2.2.2.2.2.2.1.getD z1.1.toNat 0) = (-1))) then (bif zC z1.1 z1.2.2.2.2.2.2.2.1.length then some (decide (z1.2.2.2.2.1>(z1.2.2.2.2.2.2.2.1.getD z1.1.toNat 0)))
      else none)
     else some false)
    else none
   |.inr z2=>some z2)
  else none)
 else none
abbrev qHx:Type:=List zB→Int→List zK→EQ→AC→EQ→AC→Option AC
def qg (k:Nat)(rec:qHx)(s1:List zB)(s6:Int)(af:List zK)(ah:EQ)(ak:AC)(ag:EQ)(r1:AC):Option AC:=
 bif decide (s6 < (af.length : Int)) then ((Mj k af ah ak ag s1 s6).bind fun x0=>
  bif x0 then (bif zO (r1.length+1) 8 then(rec s1 (zA (s6+1)) af ah ak ag (r1++[s6]))
   else none)
  else rec s1 (zA (s6+1)) af ah ak ag r1)
 else some r1
def sO (k:Nat):Nat→qHx
 |0,_,_,_,_,_,_,_=>none
 |n+1,s1,s6,af,ah,ak,ag,r1=>qg k (sO k n) s1 s6 af ah ak ag r1
def sN (k:Nat)(au:List zK)(aA:EQ)(az:AC)(ax:EQ)(a1:List zB):Option AC:=
 (sO k k a1 0 au aA az ax []).bind fun z=>
 some z
def H5 (k:Nat)(au:List zK)(aA:EQ)(az:AC)(ax:EQ)(a1:List zB):Option Bool:=
 (HY k au aA az ax a1).bind fun x0=>
 bif x0 then ((sN k au aA az ax a1).bind fun x1=>
  some (decide ((x1.length:Int)=0)))
 else some false
def tv (k:Nat)(au:List zK)(aA:EQ)(az:AC)(ax:EQ)(a1:List zB):Option ((List zK)×EQ×AC×EQ×Bool):=
 (yw k au aA az ax a1).bind fun x0=>
 bif decide (x0.2.2.2.2 = 0) then ((H5 k au aA az ax a1).bind fun x1=>
  some (vP x0 x1))
 else some (vP x0 false)
abbrev qRj:Type:=zB⊕(Bool×Int×Int×Int×Int×Int×Int×Int)
abbrev qHj:Type:=Int→List zK→EQ→AC→EQ→Int→Int→Int→Int→Int→Int→Int→List zB→Option qRj
def Fc (k:Nat)(rec:qHj)(s9:Int)(af:List zK)(ah:EQ)(ak:AC)(ag:EQ)(av aB aC aE aG aH aI:Int)(r2:List zB):Option qRj:=
 bif decide (s9 < (r2.length : Int)) then (bif ((decide (0 ≤ s9)) && (decide (s9 ≤ (zA (s9 + 1))))) && (decide ((zA (s9 + 1)) ≤ (r2.length : Int))) then ((tv k af ah ak ag (qZ r2 (0+s9.toNat) ((zA (s9+1)).toNat-s9.toNat))).bind fun x1=>
   bif x1.2.2.2.2 then (bif zC s9 r2.length then some (.inr (true,(r2.getD s9.toNat (0,0,0,0,0,0,0)).1,(r2.getD s9.toNat (0,0,0,0,0,0,0)).2.1,(r2.getD s9.toNat (0,0,0,0,0,0,0)).2.2.1,(r2.getD s9.toNat (0,0,0,0,0,0,0)).2.2.2.1,(r2.getD s9.toNat (0,0,0,0,0,0,0)).2.2.2.2.1,(r2.getD s9.toNat (0,0,0,0,0,0,0)).2.2.2.2.2.1,(r2.getD s9.toNat (0,0,0,0,0,0,0)).2.2.2.2.2.2))
    else none)
   else rec (zA (s9+1)) af ah ak ag av aB aC aE aG aH aI r2)
  else none)
 else some (.inl (av,aB,aC,aE,aG,aH,aI))
def Jr (k:Nat):Nat→qHj
 |0,_,_,_,_,_,_,_,_,_,_,_,_,_=>none
 |n+1,s9,af,ah,ak,ag,av,aB,aC,aE,aG,aH,aI,r2=>Fc k (Jr k n) s9 af ah ak ag av aB aC aE aG aH aI r2
def NM (k:Nat)(au:List zK)(aA:EQ)(az:AC)(ax:EQ)(a1:List zB)(a2:Int):Option (Int×Int×Int×Int×Int×Int×Int×Bool):=
 (Il k a1 a2).bind fun x0=>
 (Jr k k 0 au aA az ax 0 0 0 0 0 0 0 x0).bind fun z=>
 match z with
 |.inl z1=>some (0,0,0,0,0,0,0,false)
 |.inr z2=>some (yBe z2 z2.1)
abbrev qOr:Type:=(List zB)×(List zK)×EQ×AC×EQ×(List zB)
abbrev qWq:Type:=List zB→Int→List zK→EQ→AC→EQ→List zB→Option qOr
def Fe (k:Nat)(rec:qWq)(s1:List zB)(s2:Int)(af:List zK)(ah:EQ)(ak:AC)(ag:EQ)(r2:List zB):Option qOr:=
 (NM k af ah ak ag s1 s2).bind fun x0=>
 bif !x0.2.2.2.2.2.2.2 then some (s1,af,ah,ak,ag,r2)
 else(tv k af ah ak ag [(wD x0)]).bind fun x1=>
 (mJ k s1 x0.1).bind fun x2=>
 bif zO (r2.length + 1) 56 then (let y0:List zB:=(r2++[(wD x0)])
  rec x2.1 s2 x1.1 x1.2.1 x1.2.2.1 x1.2.2.2.1 y0)
 else none
def Js (k:Nat):Nat→qWq
 |0,_,_,_,_,_,_,_=>none
 |n+1,s1,s2,af,ah,ak,ag,r2=>Fe k (Js k n) s1 s2 af ah ak ag r2
def NN (k:Nat)(au:List zK)(aA:EQ)(az:AC)(ax:EQ)(a1:List zB)(a2:Int):Option rp:=
 (Js k k a1 a2 au aA az ax []).bind fun z=>
 some (gH z (z.1,z.2.2.2.2.2))
abbrev qTr:Type:=(Int×(List zK)×EQ×AC×EQ×Int×Int×Int×Int×Int×Int×Int×Int×Int×Int×Int×Int×Int×Int×(List zB))⊕(Bool×Int×Int×Int×Int×Int×Int×Int×Int×Int×Int×Int×Int×Int×Int)
abbrev qR6:Type:=Int→Int→List zK→EQ→AC→EQ→Int→Int→Int→Int→Int→Int→Int→Int→Int→Int→Int→Int→Int→Int→List zB→Option qTr
def Ff (k:Nat)(rec:qR6)(aw aP:Int)(af:List zK)(ah:EQ)(ak:AC)(ag:EQ)(av aB aC aE aG aH aI aY bM bN cQ eJ eK eL:Int)(r3:List zB):Option qTr:=
 bif decide (aP < (r3.length : Int)) then (bif zC aw r3.length then (bif zC aP r3.length then (bif !(decide ((r3.getD aP.toNat (0,0,0,0,0,0,0)).2.1=(r3.getD aw.toNat (0,0,0,0,0,0,0)).2.2.1)) then(rec aw (zA (aP+1)) af ah ak ag av aB aC aE aG aH aI aY bM bN cQ eJ eK eL r3)
    else bif !(decide ((r3.getD aP.toNat (0,0,0,0,0,0,0)).2.2.1=(r3.getD aw.toNat (0,0,0,0,0,0,0)).2.1)) then(rec aw (zA (aP+1)) af ah ak ag av aB aC aE aG aH aI aY bM bN cQ eJ eK eL r3)
    else bif decide ((r3.getD aw.toNat (0,0,0,0,0,0,0)).2.1≥(r3.getD aP.toNat (0,0,0,0,0,0,0)).2.1) then(rec aw (zA (aP+1)) af ah ak ag av aB aC aE aG aH aI aY bM bN cQ eJ eK eL r3)
    else(tv k af ah ak ag [(r3.getD aw.toNat (0,0,0,0,0,0,0)),(r3.getD aP.toNat (0,0,0,0,0,0,0))]).bind fun x1=>
    bif x1.2.2.2.2 then some (.inr (true,(gb (r3.getD aw.toNat (0,0,0,0,0,0,0)) ((r3.getD aP.toNat (0,0,0,0,0,0,0)).1,(r3.getD aP.toNat (0,0,0,0,0,0,0)).2.1,(r3.getD aP.toNat (0,0,0,0,0,0,0)).2.2.1,(r3.getD aP.toNat (0,0,0,0,0,0,0)).2.2.2.1,(r3.getD aP.toNat (0,0,0,0,0,0,0)).2.2.2.2.1,(r3.getD aP.toNat (0,0,0,0,0,0,0)).2.2.2.2.2.1,(r3.getD aP.toNat (0,0,0,0,0,0,0)).2.2.2.2.2.2))))
    else rec aw (zA (aP+1)) af ah ak ag av aB aC aE aG aH aI aY bM bN cQ eJ eK eL r3)
   else none)
  else none)
 else some (.inl (aw,af,ah,ak,ag,av,aB,aC,aE,aG,aH,aI,aY,bM,bN,cQ,eJ,eK,eL,r3))
def Ju (k:Nat):Nat→qR6
 |0,_,_,_,_,_,_,_,_,_,_,_,_,_,_,_,_,_,_,_,_,_=>none
 |n+1,aw,aP,af,ah,ak,ag,av,aB,aC,aE,aG,aH,aI,aY,bM,bN,cQ,eJ,eK,eL,r3=>Ff k (Ju k n) aw aP af ah ak ag av aB aC aE aG aH aI aY bM bN cQ eJ eK eL r3
abbrev qHw:Type:=(Int×Int×Int×Int×Int×Int×Int×Int×Int×Int×Int×Int×Int×Int)⊕(Bool×Int×Int×Int×Int×Int×Int×Int×Int×Int×Int×Int×Int×Int×Int)
abbrev qSe:Type:=Int→List zK→EQ→AC→EQ→Int→Int→Int→Int→Int→Int→Int→Int→Int→Int→Int→Int→Int→Int→List zB→Option qHw
def Fg (k:Nat)(rec:qSe)(aw:Int)(af:List zK)(ah:EQ)(ak:AC)(ag:EQ)(av aB aC aE aG aH aI aY bM bN cQ eJ eK eL:Int)(r3:List zB):Option qHw:=
 bif decide (aw < (r3.length : Int)) then ((Ju k k aw 0 af ah ak ag av aB aC aE aG aH aI aY bM bN cQ eJ eK eL r3).bind fun z=>
  match z with
  |.inl z1=>rec (zA (z1.1+1)) z1.2.1 z1.2.2.1 z1.2.2.2.1 z1.2.2.2.2.1 z1.2.2.2.2.2.1 z1.2.2.2.2.2.2.1 z1.2.2.2.2.2.2.2.1 z1.2.2.2.2.2.2.2.2.1 z1.2.2.2.2.2.2.2.2.2.1 z1.2.2.2.2.2.2.2.2.2.2.1 z1.2.2.2.2.2.2.2.2.2.2.2.1 z1.2.2.2.2.2.2.2.2.2.2.2.2.1 z1.2.2.2.2.2.2.2.2.2.2.2.2.2.1 z1.2.2.2.2.2.2.2.2.2.2.2.2.2.2.1 z1.2.2.2.2.2.2.2.2.2.2.2.2.2.2.2.1 z1.2.2.2.2.2.2.2.2.2.2.2.2.2.2.2.2.1 z1.2.2.2.2.2.2.2.2.2.2.2.2.2.2.2.2.2.1 z1.2.2.2.2.2.2.2.2.2.2.2.2.2.2.2.2.2.2.1 z1.2.2.2.2.2.2.2.2.2.2.2.2.2.2.2.2.2.2.2
  |.inr z2=>some (.inr (z2.1,z2.2.1,z2.2.2.1,z2.2.2.2.1,z2.2.2.2.2.1,z2.2.2.2.2.2.1,z2.2.2.2.2.2.2.1,z2.2.2.2.2.2.2.2.1,z2.2.2.2.2.2.2.2.2.1,z2.2.2.2.2.2.2.2.2.2.1,z2.2.2.2.2.2.2.2.2.2.2.1,z2.2.2.2.2.2.2.2.2.2.2.2.1,z2.2.2.2.2.2.2.2.2.2.2.2.2.1,z2.2.2.2.2.2.2.2.2.2.2.2.2.2.1,z2.2.2.2.2.2.2.2.2.2.2.2.2.2.2)))
 else some (.inl (av,aB,aC,aE,aG,aH,aI,aY,bM,bN,cQ,eJ,eK,eL))
def Jv (k:Nat):Nat→qSe
 |0,_,_,_,_,_,_,_,_,_,_,_,_,_,_,_,_,_,_,_,_=>none
 |n+1,aw,af,ah,ak,ag,av,aB,aC,aE,aG,aH,aI,aY,bM,bN,cQ,eJ,eK,eL,r3=>Fg k (Jv k n) aw af ah ak ag av aB aC aE aG aH aI aY bM bN cQ eJ eK eL r3
def NO (k:Nat)(au:List zK)(aA:EQ)(az:AC)(ax:EQ)(a1:List zB)(a2:Int):Option (Int×Int×Int×Int×Int×Int×Int×Int×Int×Int×Int×Int×Int×Int×Bool):=
 (Il k a1 a2).bind fun x0=>
 (Jv k k 0 au aA az ax 0 0 0 0 0 0 0 0 0 0 0 0 0 0 x0).bind fun z3=>
 match z3 with
 |.inl z4=>some (0,0,0,0,0,0,0,0,0,0,0,0,0,0,false)
 |.inr z5=>some (vP6 z5 z5.1)
abbrev qVm:Type:=(List zB)×(List zK)×EQ×AC×EQ×(List zB)
abbrev qOt:Type:=List zB→Int→List zK→EQ→AC→EQ→List zB→Option qVm
def Fh (k:Nat)(rec:qOt)(s1:List zB)(s2:Int)(af:List zK)(ah:EQ)(ak:AC)(ag:EQ)(r2:List zB):Option qVm:=
 (NO k af ah ak ag s1 s2).bind fun x0=>
 bif !x0.2.2.2.2.2.2.2.2.2.2.2.2.2.2 then some (s1,af,ah,ak,ag,r2)
 else(tv k af ah ak ag [(wD x0),(qRv x0)]).bind fun x1=>
 (mJ k s1 x0.1).bind fun x2=>
 (mJ k x2.1 x0.2.2.2.2.2.2.2.1).bind fun x3=>
 bif zO (r2.length + 2) 56 then (let y0:List zB:=(r2++[(wD x0),(qRv x0)])
  rec x3.1 s2 x1.1 x1.2.1 x1.2.2.1 x1.2.2.2.1 y0)
 else none
def Jw (k:Nat):Nat→qOt
 |0,_,_,_,_,_,_,_=>none
 |n+1,s1,s2,af,ah,ak,ag,r2=>Fh k (Jw k n) s1 s2 af ah ak ag r2
def NP (k:Nat)(au:List zK)(aA:EQ)(az:AC)(ax:EQ)(a1:List zB)(a2:Int):Option rp:=
 (Jw k k a1 a2 au aA az ax []).bind fun z=>
 some (gH z (z.1,z.2.2.2.2.2))
abbrev qIr:Type:=(List zB)×(List zK)×EQ×AC×EQ×(List zB)
abbrev qJp:Type:=List zB→Int→List zK→EQ→AC→EQ→List zB→Option qIr
def Fs (k:Nat)(rec:qJp)(s1:List zB)(s2:Int)(af:List zK)(ah:EQ)(ak:AC)(ag:EQ)(r2:List zB):Option qIr:=
 (NN k af ah ak ag s1 s2).bind fun x0=>
 (NP k x0.1 x0.2.1 x0.2.2.1 x0.2.2.2.1 x0.2.2.2.2.1 s2).bind fun x1=>
 bif zO (r2.length + x0.2.2.2.2.2.length) 56 then (bif zO ((r2 ++ x0.2.2.2.2.2).length + x1.2.2.2.2.2.length) 56 then (let y0:List zB:=((r2++x0.2.2.2.2.2)++x1.2.2.2.2.2)
   bif decide ((x1.2.2.2.2.2.length:Int)=0) then some (x1.2.2.2.2.1,(vP x1 y0))
   else rec x1.2.2.2.2.1 s2 x1.1 x1.2.1 x1.2.2.1 x1.2.2.2.1 y0)
  else none)
 else none
def Jz (k:Nat):Nat→qJp
 |0,_,_,_,_,_,_,_=>none
 |n+1,s1,s2,af,ah,ak,ag,r2=>Fs k (Jz k n) s1 s2 af ah ak ag r2
def JA (k:Nat)(au:List zK)(aA:EQ)(az:AC)(ax:EQ)(a1:List zB)(a2:Int):Option rp:=
 (Jz k k a1 a2 au aA az ax []).bind fun z=>
 some (gH z (z.1,z.2.2.2.2.2))
abbrev qGu:Type:=List zB
abbrev qQy:Type:=List zB→AC→Int→List zB→Option qGu
def Fk (k:Nat)(rec:qQy)(s0:List zB)(s1:AC)(s6:Int)(r0:List zB):Option qGu:=
 bif decide (s6 < (s0.length : Int)) then (bif (decide (0 ≤ s6)) && (decide (s6 ≤ (s0.length : Int))) then (bif zC s6 s0.length then ((sQ k (List.take s6.toNat s0) (s0.getD s6.toNat (0,0,0,0,0,0,0)).2.1).bind fun x0=>
    bif zC s6 s0.length then (bif decide ((s0.getD s6.toNat (0, 0, 0, 0, 0, 0, 0)).2.1 ≥ 0) then (bif zC s6 s0.length then (bif decide ((s0.getD s6.toNat (0, 0, 0, 0, 0, 0, 0)).2.1 < (s1.length : Int)) then (bif zC s6 s0.length then (bif zC (s0.getD s6.toNat (0, 0, 0, 0, 0, 0, 0)).2.1 s1.length then (bif decide ((x0.length : Int) < (s1.getD (s0.getD s6.toNat (0, 0, 0, 0, 0, 0, 0)).2.1.toNat 0)) then (bif zC s6 s0.length then (bif zO (r0.length + 1) 56 then (let y0:List zB:=(r0++[(s0.getD s6.toNat (0,0,0,0,0,0,0))])
             rec s0 s1 (zA (s6+1)) y0)
            else none)
           else none)
          else rec s0 s1 (zA (s6+1)) r0)
         else none)
        else none)
       else rec s0 s1 (zA (s6+1)) r0)
      else none)
     else rec s0 s1 (zA (s6+1)) r0)
    else none)
   else none)
  else none)
 else some r0
def Fj (k:Nat):Nat→qQy
 |0,_,_,_,_=>none
 |n+1,s0,s1,s6,r0=>Fk k (Fj k n) s0 s1 s6 r0
def Fi (k:Nat)(a0:List zB)(a1:AC):Option (List zB):=
 (Fj k k a0 a1 0 []).bind fun z=>
 some z
abbrev qKx:Type:=(List zK)×EQ×AC×EQ×(List zB)×AC
abbrev qVj:Type:=Int→List zK→EQ→AC→EQ→List zB→AC→Option qKx
def Fl (k:Nat)(rec:qVj)(aw:Int)(af:List zK)(ah:EQ)(ak:AC)(ag:EQ)(r1:List zB)(r2:AC):Option qKx:=
 bif decide (aw < (af.length : Int)) then ((sQ k r1 aw).bind fun x1=>
  bif zO (r2.length+1) 8 then(rec (zA (aw+1)) af ah ak ag r1 (r2++[(x1.length:Int)]))
  else none)
 else some (af,ah,ak,ag,r1,r2)
def AH (k:Nat):Nat→qVj
 |0,_,_,_,_,_,_,_=>none
 |n+1,aw,af,ah,ak,ag,r1,r2=>Fl k (AH k n) aw af ah ak ag r1 r2
abbrev qQ5:Type:=Int×(List zK)×EQ×AC×EQ×(List zB)×AC
abbrev qKu:Type:=Int→Int→List zK→EQ→AC→EQ→List zB→AC→AC→Option qQ5
def Fo (k:Nat)(rec:qKu)(aP bo:Int)(af:List zK)(ah:EQ)(ak:AC)(ag:EQ)(r1:List zB)(r2 r3:AC):Option qQ5:=
 bif decide (bo < (r3.length : Int)) then (bif zC bo r3.length then (bif zC (r3.getD bo.toNat 0) r2.length then (bif zC (r3.getD bo.toNat 0) r2.length then (let y0:AC:=(r2.set (r3.getD bo.toNat 0).toNat (zA ((r2.getD (r3.getD bo.toNat 0).toNat 0)-1)))
     rec aP (zA (bo+1)) af ah ak ag r1 y0 r3)
    else none)
   else none)
  else none)
 else some (aP,af,ah,ak,ag,r1,r2)
def Fm (k:Nat):Nat→qKu
 |0,_,_,_,_,_,_,_,_,_=>none
 |n+1,aP,bo,af,ah,ak,ag,r1,r2,r3=>Fo k (Fm k n) aP bo af ah ak ag r1 r2 r3
abbrev qU1:Type:=Int→List zK→EQ→AC→EQ→List zB→AC→Option (Int×AC)
def Fp (k:Nat)(rec:qU1)(aP:Int)(af:List zK)(ah:EQ)(ak:AC)(ag:EQ)(r1:List zB)(r2:AC):Option (Int×AC):=
 (Fi k r1 r2).bind fun x2=>
 (sN k af ah ak ag x2).bind fun x3=>
 bif decide ((x3.length:Int)=0) then some (aP,r2)
 else(Fm k k aP 0 af ah ak ag r1 r2 x3).bind fun z1=>
 rec (zA (z1.1+1)) z1.2.1 z1.2.2.1 z1.2.2.2.1 z1.2.2.2.2.1 z1.2.2.2.2.2.1 z1.2.2.2.2.2.2
def Jx (k:Nat):Nat→qU1
 |0,_,_,_,_,_,_,_=>none
 |n+1,aP,af,ah,ak,ag,r1,r2=>Fp k (Jx k n) aP af ah ak ag r1 r2
def NQ (k:Nat)(au:List zK)(aA:EQ)(az:AC)(ax:EQ)(a1:List zB)(a2:Int):Option (AC×Int):=
 (Dx k a1 a2).bind fun x0=>
 (AH k k 0 au aA az ax x0 []).bind fun z=>
 (Jx k k 1 z.1 z.2.1 z.2.2.1 z.2.2.2.1 z.2.2.2.2.1 z.2.2.2.2.2).bind fun z2=>
 some (z2.2,z2.1)
abbrev qH7:Type:=(List zB)×(List zB)×(List zK)×EQ×AC×EQ
abbrev qVi:Type:=List zB→Int→List zB→List zK→EQ→AC→EQ→Option qH7
def Fq (k:Nat)(rec:qVi)(s1:List zB)(bz:Int)(r1:List zB)(aY:List zK)(bM:EQ)(bN:AC)(cQ:EQ):Option qH7:=
 bif decide (bz < (r1.length : Int)) then (bif zC bz r1.length then ((mJ k s1 (r1.getD bz.toNat (0,0,0,0,0,0,0)).1).bind fun x4=>
   rec x4.1 (zA (bz+1)) r1 aY bM bN cQ)
  else none)
 else some (s1,r1,aY,bM,bN,cQ)
def AI (k:Nat):Nat→qVi
 |0,_,_,_,_,_,_,_=>none
 |n+1,s1,bz,r1,aY,bM,bN,cQ=>Fq k (AI k n) s1 bz r1 aY bM bN cQ
def Jy (k:Nat)(au:List zK)(aA:EQ)(az:AC)(ax:EQ)(a1:List zB)(a2:Int):Option rp:=
 (NQ k au aA az ax a1 a2).bind fun x0=>
 (Dx k a1 a2).bind fun x1=>
 (Fi k x1 x0.1).bind fun x2=>
 (yw k au aA az ax x2).bind fun x3=>
 bif !(decide (x3.2.2.2.2=0)) then some (au,aA,az,ax,a1,[])
 else(AI k k a1 0 x2 x3.1 x3.2.1 x3.2.2.1 x3.2.2.2.1).bind fun z=>
 some (zy z (z.1,z.2.1))
def NR (k:Nat)(au:List zK)(aA:EQ)(az:AC)(ax:EQ)(a1:List zB)(a2:Int)(a3:Bool):Option rp:=
 (JA k au aA az ax a1 a2).bind fun x0=>
 bif !a3 then some (x0.1,x0.2.1,x0.2.2.1,x0.2.2.2.1,x0.2.2.2.2.1,x0.2.2.2.2.2)
 else(Jy k x0.1 x0.2.1 x0.2.2.1 x0.2.2.2.1 x0.2.2.2.2.1 a2).bind fun x1=>
 bif decide ((x1.2.2.2.2.2.length:Int)=0) then some (x0.1,x0.2.1,x0.2.2.1,x0.2.2.2.1,x0.2.2.2.2.1,x0.2.2.2.2.2)
 else(JA k x1.1 x1.2.1 x1.2.2.1 x1.2.2.2.1 x1.2.2.2.2.1 a2).bind fun x2=>
 bif zO (x0.2.2.2.2.2.length + x1.2.2.2.2.2.length) 56 then (bif zO ((x0.2.2.2.2.2 ++ x1.2.2.2.2.2).length + x2.2.2.2.2.2.length) 56 then (let y0:List zB:=((x0.2.2.2.2.2++x1.2.2.2.2.2)++x2.2.2.2.2.2)
   some (oW x2 y0))
  else none)
 else none
abbrev qSp:Type:=List qA
abbrev qTt:Type:=List zB→Int→List qA→Option qSp
def Ew (k:Nat)(rec:qTt)(s0:List zB)(s4:Int)(r0:List qA):Option qSp:=
 bif decide (s4 < (s0.length : Int)) then (bif zC s4 s0.length then ((fq k 18 [(s0.getD s4.toNat (0,0,0,0,0,0,0)).1,(s0.getD s4.toNat (0,0,0,0,0,0,0)).2.1,(s0.getD s4.toNat (0,0,0,0,0,0,0)).2.2.1,(s0.getD s4.toNat (0,0,0,0,0,0,0)).2.2.2.1]).bind fun x0=>
   bif zO (r0.length + 2) 64 then (let y0:List qA:=(r0++[((s0.getD s4.toNat (0,0,0,0,0,0,0)).2.1,x0),((s0.getD s4.toNat (0,0,0,0,0,0,0)).2.2.1,x0)])
    rec s0 (zA (s4+1)) y0)
   else none)
  else none)
 else some r0
def IU (k:Nat):Nat→qTt
 |0,_,_,_=>none
 |n+1,s0,s4,r0=>Ew k (IU k n) s0 s4 r0
def M5 (k:Nat)(a0:List zB):Option (List qA):=
 (IU k k a0 0 []).bind fun z=>
 some z
def mK (k:Nat)(lq:Int)(oX:List zK)(oY:EQ)(oZ:AC)(o0:EQ)(o6:AC)(o9:EQ)(lr:List zB)(pb:AC)(pc:Int)(pf a1:Bool):Option PJ:=
 (NR k oX oY oZ o0 lr lq a1).bind fun x0=>
 (M5 k x0.2.2.2.2.2).bind fun x1=>
 some (lq,(vP x0 (o6,o9,x0.2.2.2.2.1,pb,pc,pf,x1)))
abbrev qWb:Type:=yT×vH×(List qA)
abbrev qIp:Type:=List zB→Int→yT→vH→List qA→Option qWb
def Ft (k:Nat)(rec:qIp)(s7:List zB)(s8:Int)(b0:yT)(b1:vH)(r2:List qA):Option qWb:=
 bif decide (s8 < (s7.length : Int)) then (bif zC s8 s7.length then (bif zC s8 s7.length then ((fq k 22 [(s7.getD s8.toNat (0,0,0,0,0,0,0)).1]).bind fun x1=>
    bif zO (r2.length + 1) 64 then (let y0:List qA:=(r2++[((s7.getD s8.toNat (0,0,0,0,0,0,0)).2.1,x1)])
     rec s7 (zA (s8+1)) b0 b1 y0)
    else none)
   else none)
  else none)
 else some (b0,b1,r2)
def tw (k:Nat):Nat→qIp:=yH (fun _ _ _ _ _=>none) (Ft k)
abbrev qOg:Type:=yT×vH×(List qA)
abbrev qOk:Type:=Int→yT→vH→List qA→Option qOg
def Fu (k:Nat)(rec:qOk)(s9:Int)(b0:yT)(b1:vH)(r2:List qA):Option qOg:=
 bif decide (s9 < (b0.2.1.length : Int)) then (bif zC s9 b0.2.1.length then ((fq k 23 [(b0.2.1.getD s9.toNat (0,0,0)).1]).bind fun x2=>
   bif zO (r2.length+1) 64 then(rec (zA (s9+1)) b0 b1 (r2++[(s9,x2)]))
   else none)
  else none)
 else some (b0,b1,r2)
def tx (k:Nat):Nat→qOk:=yH (fun _ _ _ _=>none) (Fu k)
abbrev qHr:Type:=yO×yT×vH×(List qA)
abbrev qUw:Type:=List zB→Int→yO→yT→vH→List qA→Option qHr
def Fv (k:Nat)(rec:qUw)(s7:List zB)(aw:Int)(b0:yO)(b1:yT)(b2:vH)(r3:List qA):Option qHr:=
 bif decide (aw < (s7.length : Int)) then (bif zC aw s7.length then ((Vz k (s7.getD aw.toNat (0,0,0,0,0,0,0)).1 (s7.getD aw.toNat (0,0,0,0,0,0,0)).2.1 (s7.getD aw.toNat (0,0,0,0,0,0,0)).2.2.1 (s7.getD aw.toNat (0,0,0,0,0,0,0)).2.2.2.1 (s7.getD aw.toNat (0,0,0,0,0,0,0)).2.2.2.2.1 (s7.getD aw.toNat (0,0,0,0,0,0,0)).2.2.2.2.2.1 (s7.getD aw.toNat (0,0,0,0,0,0,0)).2.2.2.2.2.2 b1.1).bind fun x3=>
   bif x3 then (bif zC aw s7.length then (bif zC aw s7.length then ((fq k 21 [(s7.getD aw.toNat (0,0,0,0,0,0,0)).1]).bind fun x4=>
      bif zO (r3.length + 1) 64 then (let y1:List qA:=(r3++[((s7.getD aw.toNat (0,0,0,0,0,0,0)).2.1,x4)])
       bif zC aw s7.length then ((mJ k b1.2.2.2.2.2.2.2.1 (s7.getD aw.toNat (0,0,0,0,0,0,0)).1).bind fun x5=>
        rec s7 (zA (aw+1)) b0 (iR b1 (x5.1,b1.2.2.2.2.2.2.2.2)) b2 y1)
       else none)
      else none)
     else none)
    else none)
   else rec s7 (zA (aw+1)) b0 b1 b2 r3)
  else none)
 else some (b0,b1,b2,r3)
def tz (k:Nat):Nat→qUw:=yH (fun _ _ _ _ _ _=>none) (Fv k)
def Fw (k:Nat)(a0:yO)(a1:yT):Option (yT×(List qA)):=
 bif a1.2.2.2.2.2.2.2.2.2.2 then some (a1,[])
 else(NT k a0 (zA (a1.1+1))).bind fun x0=>
 bif x0 then ((tw k k a1.2.2.2.2.2.2.2.1 0 ((zA (a1.1+1)),a1.2) (0,0,false) []).bind fun z=>
  (tx k k 0 z.1 z.2.1 z.2.2).bind fun z1=>
  some ((iR z1.1 ([],z1.1.2.2.2.2.2.2.2.2.1,z1.1.2.2.2.2.2.2.2.2.2.1,true)),z1.2.2))
 else(tz k k a1.2.2.2.2.2.2.2.1 0 a0 ((zA (a1.1+1)),a1.2) (0,0,false) []).bind fun z2=>
 (JB k z2.1 z2.2.1.1).bind fun x6=>
 (mK k z2.2.1.1 z2.2.1.2.1 z2.2.1.2.2.1 z2.2.1.2.2.2.1 z2.2.1.2.2.2.2.1 z2.2.1.2.2.2.2.2.1 z2.2.1.2.2.2.2.2.2.1 z2.2.1.2.2.2.2.2.2.2.1 z2.2.1.2.2.2.2.2.2.2.2.1 z2.2.1.2.2.2.2.2.2.2.2.2.1 z2.2.1.2.2.2.2.2.2.2.2.2.2 x6).bind fun x7=>
 bif zO (z2.2.2.2.length + x7.2.2.2.2.2.2.2.2.2.2.2.length) 64 then (let y2:List qA:=(z2.2.2.2++x7.2.2.2.2.2.2.2.2.2.2.2)
  some ((qW x7),y2))
 else none
def tq (k:Nat)(a0:tE)(a1:Int):Option Int:=
 bif decide (a1<0) then some (-1)
 else bif decide (a1≥a0.1) then some (-1)
 else some a1
def E7 (k:Nat)(a0:yO)(a1 a2:Int):Option Int:=
 bif decide (a1≥a0.2.2.2.1) then some 7
 else bif decide (a2 = 3) then (bif decide (a1≥a0.2.2.1) then some 7
  else some 0)
 else some 0
def AB (k:Nat)(a0:yO)(a1:Int)(a2:zB):Option Int:=
 bif decide (a2.1<1) then some 1
 else bif decide (a2.2.1<0) then some 1
 else bif decide (a2.2.1≥a0.1) then some 1
 else bif decide (a2.2.2.1<0) then some 1
 else bif decide (a2.2.2.1≥a0.1) then some 1
 else bif decide (a2.2.1=a2.2.2.1) then some 1
 else bif decide (a2.2.2.2.1<1) then some 1
 else bif decide (a2.2.2.2.1>1099511627776) then some 1
 else bif decide (a2.2.2.2.2.1<1) then some 1
 else bif decide (a2.2.2.2.2.1>3) then some 1
 else bif decide (a2.2.2.2.2.2.1<0) then some 1
 else bif decide (a2.2.2.2.2.2.1>a2.2.2.2.2.2.2) then some 1
 else bif decide (a2.2.2.2.2.2.2<a1) then some 1
 else bif decide (a2.2.2.2.2.2.2>1048576) then some 1
 else(E7 k a0 a1 a2.2.2.2.2.1).bind fun x0=>
 some x0
abbrev qYm:Type:=AC→Int→Int→Option (Unit⊕Bool)
def E4 (k:Nat)(rec:qYm)(s0:AC)(s1 s5:Int):Option (Unit⊕Bool):=
 bif decide (s5 < (s0.length : Int)) then (bif zC s5 s0.length then (bif decide ((s0.getD s5.toNat 0)=s1) then some (.inr true)
   else rec s0 s1 (zA (s5+1)))
  else none)
 else some (.inl ())
def E3 (k:Nat):Nat→qYm:=yH (fun _ _ _=>none) (E4 k)
def NG (k:Nat)(a0:AC)(a1:Int):Option Bool:=
 (E3 k k a0 a1 0).bind fun z=>
 match z with
 |.inl z1=>some false
 |.inr z2=>some z2
abbrev qJy:Type:=AC→Int→Int→Option (AC×Int×Int)
def E5 (k:Nat)(rec:qJy)(s0:AC)(s1 s6:Int):Option (AC×Int×Int):=
 bif decide (s6 < (s0.length : Int)) then (bif zC s6 s0.length then (bif decide ((s0.getD s6.toNat 0)<s1) then(rec s0 s1 (zA (s6+1)))
   else some (s0,s1,s6))
  else none)
 else some (s0,s1,s6)
def Jq (k:Nat):Nat→qJy:=yH (fun _ _ _=>none) (E5 k)
def AA (k:Nat)(a0:AC)(a1:Int):Option (AC×Int):=
 (NG k a0 a1).bind fun x0=>
 bif x0 then some (a0,6)
 else bif decide ((a0.length:Int)≥200) then some (a0,3)
 else(Jq k k a0 a1 0).bind fun z=>
 bif (decide (0 ≤ z.2.2)) && (decide (z.2.2 ≤ (z.1.length : Int))) then (bif zO (0 + (List.take z.2.2.toNat z.1).length) 8 then (bif zO ((List.take z.2.2.toNat z.1).length + 1) 8 then (bif (decide (0 ≤ z.2.2)) && (decide (z.2.2 ≤ (z.1.length : Int))) then (bif zO (((List.take z.2.2.toNat z.1) ++ [z.2.1]).length + (List.drop z.2.2.toNat z.1).length) 8 then (let y0:AC:=(((List.take z.2.2.toNat z.1)++[z.2.1])++(List.drop z.2.2.toNat z.1))
      some (y0,0))
     else none)
    else none)
   else none)
  else none)
 else none
def Jk (k:Nat)(bZ ba bq cn bH bT bJ gi cp dj dV dm hZ ic:Int):Option Bool:=
 bif decide (ba<cp) then some true
 else bif decide (ba=cp) then some (decide (bH≤dm))
 else some false
abbrev qQj:Type:=List zB→Int→Int→Int→Int→Int→Int→Int→Int→Option Int
def E0 (k:Nat)(rec:qQj)(s0:List zB)(s5 af ah ak ag aX bh bj:Int):Option Int:=
 bif decide (s5 < (s0.length : Int)) then (bif zC s5 s0.length then ((Jk k (s0.getD s5.toNat (0,0,0,0,0,0,0)).1 (s0.getD s5.toNat (0,0,0,0,0,0,0)).2.1 (s0.getD s5.toNat (0,0,0,0,0,0,0)).2.2.1 (s0.getD s5.toNat (0,0,0,0,0,0,0)).2.2.2.1 (s0.getD s5.toNat (0,0,0,0,0,0,0)).2.2.2.2.1 (s0.getD s5.toNat (0,0,0,0,0,0,0)).2.2.2.2.2.1 (s0.getD s5.toNat (0,0,0,0,0,0,0)).2.2.2.2.2.2 af ah ak ag aX bh bj).bind fun x0=>
   bif x0 then(rec s0 (zA (s5+1)) af ah ak ag aX bh bj)
   else some s5)
  else none)
 else some s5
def EZ (k:Nat):Nat→qQj
 |0,_,_,_,_,_,_,_,_,_=>none
 |n+1,s0,s5,af,ah,ak,ag,aX,bh,bj=>E0 k (EZ k n) s0 s5 af ah ak ag aX bh bj
def EY (k:Nat)(a0:List zB)(gi cp dj dV dm hZ ic:Int):Option Int:=
 (EZ k k a0 0 gi cp dj dV dm hZ ic).bind fun z=>
 some z
def Ay (k:Nat)(a0:List zB)(a1 aaH aaI aaJ aaK aaL aaM aaN:Int):Option (List zB):=
 bif (decide (0 ≤ a1)) && (decide (a1 ≤ (a0.length : Int))) then (bif zO (0 + (List.take a1.toNat a0).length) 56 then (bif zO ((List.take a1.toNat a0).length + 1) 56 then (let y0:List zB:=((List.take a1.toNat a0)++[(aaH,aaI,aaJ,aaK,aaL,aaM,aaN)])
    bif (decide (0 ≤ a1)) && (decide (a1 ≤ (a0.length : Int))) then (bif zO (y0.length+(List.drop a1.toNat a0).length) 56 then some (y0++(List.drop a1.toNat a0))
     else none)
    else none)
   else none)
  else none)
 else none
def Az (k:Nat)(a0:List zB)(gi cp dj dV dm hZ ic:Int):Option ((List zB)×Int):=
 (lS k a0 gi).bind fun x0=>
 bif decide (x0≥0) then some (a0,6)
 else bif decide ((a0.length:Int)≥40) then some (a0,3)
 else(EY k a0 gi cp dj dV dm hZ ic).bind fun x1=>
 (Ay k a0 x1 gi cp dj dV dm hZ ic).bind fun x2=>
 some (x2,0)
def NI (k:Nat)(a0:pg)(a1:J7):Option (Int×tE):=
 (tq k (yC a0 ([],a0.2.2.2.2.2.2.2.2.2.2.2.2.2.2.2.2.2)) a1.2.1).bind fun x0=>
 bif decide (a1.2.2.2.1 ≥ 1) then (bif decide (a1.2.2.2.1 ≤ 3) then ((AB k (yF a0) a0.2.2.2.2.2.1 (a1.1,a0.2.2.2.2.2.2.2.2.2.2.2.2.2.2.2.2.1,x0,a1.2.2)).bind fun x1=>
   bif !(decide (x1=0)) then some (x1,(yC a0 ([],a0.2.2.2.2.2.2.2.2.2.2.2.2.2.2.2.2.2)))
   else(AA k a0.2.2.2.2.2.2.2.2.2.2.2.2.2.1 a1.1).bind fun x2=>
   bif !(decide (x2.2=0)) then some (x2.2,(yC a0 ([],a0.2.2.2.2.2.2.2.2.2.2.2.2.2.2.2.2.2)))
   else(Az k a0.2.2.2.2.2.2.2.2.2.2.2.2.1 a1.1 a0.2.2.2.2.2.2.2.2.2.2.2.2.2.2.2.2.1 x0 a1.2.2.1 a1.2.2.2.1 a1.2.2.2.2.1 a1.2.2.2.2.2).bind fun x3=>
   bif !(decide (x3.2=0)) then some (x3.2,(yC a0 ([],a0.2.2.2.2.2.2.2.2.2.2.2.2.2.2.2.2.2)))
   else some (0,(iV a0 (x3.1,x2.1,a0.2.2.2.2.2.2.2.2.2.2.2.2.2.2.1,a0.2.2.2.2.2.2.2.2.2.2.2.2.2.2.2.1,a0.2.2.2.2.2.2.2.2.2.2.2.2.2.2.2.2.1,[],a1.1))))
  else(AB k (yF a0) a0.2.2.2.2.2.1 (a1.1,a0.2.2.2.2.2.2.2.2.2.2.2.2.2.2.2.2.1,x0,a1.2.2.1,0,a1.2.2.2.2)).bind fun x4=>
  bif !(decide (x4=0)) then some (x4,(yC a0 ([],a0.2.2.2.2.2.2.2.2.2.2.2.2.2.2.2.2.2)))
  else(AA k a0.2.2.2.2.2.2.2.2.2.2.2.2.2.1 a1.1).bind fun x5=>
  bif !(decide (x5.2=0)) then some (x5.2,(yC a0 ([],a0.2.2.2.2.2.2.2.2.2.2.2.2.2.2.2.2.2)))
  else(Az k a0.2.2.2.2.2.2.2.2.2.2.2.2.1 a1.1 a0.2.2.2.2.2.2.2.2.2.2.2.2.2.2.2.2.1 x0 a1.2.2.1 0 a1.2.2.2.2.1 a1.2.2.2.2.2).bind fun x6=>
  bif !(decide (x6.2=0)) then some (x6.2,(yC a0 ([],a0.2.2.2.2.2.2.2.2.2.2.2.2.2.2.2.2.2)))
  else some (0,(iV a0 (x6.1,x5.1,a0.2.2.2.2.2.2.2.2.2.2.2.2.2.2.1,a0.2.2.2.2.2.2.2.2.2.2.2.2.2.2.2.1,a0.2.2.2.2.2.2.2.2.2.2.2.2.2.2.2.2.1,[],a1.1))))
 else(AB k (yF a0) a0.2.2.2.2.2.1 (a1.1,a0.2.2.2.2.2.2.2.2.2.2.2.2.2.2.2.2.1,x0,a1.2.2.1,0,a1.2.2.2.2)).bind fun x7=>
 bif !(decide (x7=0)) then some (x7,(yC a0 ([],a0.2.2.2.2.2.2.2.2.2.2.2.2.2.2.2.2.2)))
 else(AA k a0.2.2.2.2.2.2.2.2.2.2.2.2.2.1 a1.1).bind fun x8=>
 bif !(decide (x8.2=0)) then some (x8.2,(yC a0 ([],a0.2.2.2.2.2.2.2.2.2.2.2.2.2.2.2.2.2)))
 else(Az k a0.2.2.2.2.2.2.2.2.2.2.2.2.1 a1.1 a0.2.2.2.2.2.2.2.2.2.2.2.2.2.2.2.2.1 x0 a1.2.2.1 0 a1.2.2.2.2.1 a1.2.2.2.2.2).bind fun x9=>
 bif !(decide (x9.2=0)) then some (x9.2,(yC a0 ([],a0.2.2.2.2.2.2.2.2.2.2.2.2.2.2.2.2.2)))
 else some (0,(iV a0 (x9.1,x8.1,a0.2.2.2.2.2.2.2.2.2.2.2.2.2.2.1,a0.2.2.2.2.2.2.2.2.2.2.2.2.2.2.2.1,a0.2.2.2.2.2.2.2.2.2.2.2.2.2.2.2.2.1,[],a1.1)))
def vAy (k:Nat)(a0:tE)(a1:Int):Option (zB×Bool):=
 (lS k a0.2.2.2.2.2.2.2.2.2.2.2.2.1 a1).bind fun x0=>
 bif decide (x0<0) then some ((0,0,0,0,0,0,0),false)
 else bif zC x0 a0.2.2.2.2.2.2.2.2.2.2.2.2.1.length then (bif !(decide ((a0.2.2.2.2.2.2.2.2.2.2.2.2.1.getD x0.toNat (0,0,0,0,0,0,0)).2.1=a0.2.2.2.2.2.2.2.2.2.2.2.2.2.2.2.2.1)) then some ((0,0,0,0,0,0,0),false)
  else bif zC x0 a0.2.2.2.2.2.2.2.2.2.2.2.2.1.length then some ((a0.2.2.2.2.2.2.2.2.2.2.2.2.1.getD x0.toNat (0,0,0,0,0,0,0)),true)
  else none)
 else none
abbrev qOh:Type:=(List zB)×Int×zB
abbrev qHu:Type:=List zB→Int→zB→Option qOh
def E2 (k:Nat)(rec:qHu)(s6:List zB)(s9:Int)(b0:zB):Option qOh:=
 bif decide (s9 < (s6.length : Int)) then (bif zC s9 s6.length then ((Jk k b0.1 b0.2.1 b0.2.2.1 b0.2.2.2.1 b0.2.2.2.2.1 b0.2.2.2.2.2.1 b0.2.2.2.2.2.2 (s6.getD s9.toNat (0,0,0,0,0,0,0)).1 (s6.getD s9.toNat (0,0,0,0,0,0,0)).2.1 (s6.getD s9.toNat (0,0,0,0,0,0,0)).2.2.1 (s6.getD s9.toNat (0,0,0,0,0,0,0)).2.2.2.1 (s6.getD s9.toNat (0,0,0,0,0,0,0)).2.2.2.2.1 (s6.getD s9.toNat (0,0,0,0,0,0,0)).2.2.2.2.2.1 (s6.getD s9.toNat (0,0,0,0,0,0,0)).2.2.2.2.2.2).bind fun x1=>
   bif !x1 then(rec s6 (zA (s9+1)) b0)
   else some (s6,s9,b0))
  else none)
 else some (s6,s9,b0)
def E1 (k:Nat):Nat→qHu:=yH (fun _ _ _=>none) (E2 k)
def Jo (k:Nat)(a0:List zB)(a1:Int):Option ((List zB)×Int):=
 (mJ k a0 a1).bind fun x0=>
 bif !(decide (x0.2.2.2.2.2.2.2.2=0)) then some (a0,x0.2.2.2.2.2.2.2.2)
 else(E1 k k x0.1 0 (DT x0)).bind fun z=>
 (Ay k z.1 z.2.1 z.2.2.1 z.2.2.2.1 z.2.2.2.2.1 z.2.2.2.2.2.1 z.2.2.2.2.2.2.1 z.2.2.2.2.2.2.2.1 z.2.2.2.2.2.2.2.2).bind fun x2=>
 some (x2,0)
def Jn (k:Nat)(a0:List zB)(a1:Int):Option ((List zB)×Int):=
 (mJ k a0 a1).bind fun x0=>
 bif !(decide (x0.2.2.2.2.2.2.2.2=0)) then some (a0,x0.2.2.2.2.2.2.2.2)
 else(EY k x0.1 x0.2.1 x0.2.2.1 x0.2.2.2.1 x0.2.2.2.2.1 x0.2.2.2.2.2.1 x0.2.2.2.2.2.2.1 x0.2.2.2.2.2.2.2.1).bind fun x1=>
 (Ay k x0.1 x1 x0.2.1 x0.2.2.1 x0.2.2.2.1 x0.2.2.2.2.1 x0.2.2.2.2.2.1 x0.2.2.2.2.2.2.1 x0.2.2.2.2.2.2.2.1).bind fun x2=>
 some (x2,0)
def Jm (k:Nat)(a0:List zB)(a1 a2:Int):Option ((List zB)×Int):=
 (mJ k a0 a1).bind fun x0=>
 bif !(decide (x0.2.2.2.2.2.2.2.2=0)) then some (a0,x0.2.2.2.2.2.2.2.2)
 else(EY k x0.1 x0.2.1 x0.2.2.1 x0.2.2.2.1 x0.2.2.2.2.1 a2 x0.2.2.2.2.2.2.1 x0.2.2.2.2.2.2.2.1).bind fun x1=>
 (Ay k x0.1 x1 x0.2.1 x0.2.2.1 x0.2.2.2.1 x0.2.2.2.2.1 a2 x0.2.2.2.2.2.2.1 x0.2.2.2.2.2.2.2.1).bind fun x2=>
 some (x2,0)
def AF (k:Nat)(a0:pg)(a1:Int)(a2:J7):Option (Int×tE):=
 (vAy k (yC a0 ([],a0.2.2.2.2.2.2.2.2.2.2.2.2.2.2.2.2.2)) a2.1).bind fun x0=>
 bif !x0.2 then some (4,(yC a0 ([],a0.2.2.2.2.2.2.2.2.2.2.2.2.2.2.2.2.2)))
 else bif decide (a1 = 2) then ((mJ k a0.2.2.2.2.2.2.2.2.2.2.2.2.1 a2.1).bind fun x1=>
  (fq k 20 [a2.1]).bind fun x2=>
  some (0,(iV a0 (x1.1,(PK a0 ([(a0.2.2.2.2.2.2.2.2.2.2.2.2.2.2.2.2.1,x2)],a0.2.2.2.2.2.2.2.2.2.2.2.2.2.2.2.2.2))))))
 else bif decide (a1 = 3) then (bif decide (a2.2.1 = 0) then ((Jo k a0.2.2.2.2.2.2.2.2.2.2.2.2.1 a2.1).bind fun x3=>
   some (0,(iV a0 (x3.1,(PK a0 ([],a0.2.2.2.2.2.2.2.2.2.2.2.2.2.2.2.2.2))))))
  else bif decide (a2.2.1 = 1) then ((Jn k a0.2.2.2.2.2.2.2.2.2.2.2.2.1 a2.1).bind fun x4=>
   some (0,(iV a0 (x4.1,(PK a0 ([],a0.2.2.2.2.2.2.2.2.2.2.2.2.2.2.2.2.2))))))
  else some (1,(yC a0 ([],a0.2.2.2.2.2.2.2.2.2.2.2.2.2.2.2.2.2))))
 else bif decide (a2.2.1<1) then some (1,(yC a0 ([],a0.2.2.2.2.2.2.2.2.2.2.2.2.2.2.2.2.2)))
 else bif decide (a2.2.1>3) then some (1,(yC a0 ([],a0.2.2.2.2.2.2.2.2.2.2.2.2.2.2.2.2.2)))
 else(E7 k (yF a0) a0.2.2.2.2.2.1 a2.2.1).bind fun x5=>
 bif !(decide (x5=0)) then some (x5,(yC a0 ([],a0.2.2.2.2.2.2.2.2.2.2.2.2.2.2.2.2.2)))
 else(Jm k a0.2.2.2.2.2.2.2.2.2.2.2.2.1 a2.1 a2.2.1).bind fun x6=>
 some (0,(iV a0 (x6.1,(PK a0 ([],a0.2.2.2.2.2.2.2.2.2.2.2.2.2.2.2.2.2)))))
def AG (k:Nat)(a0:pg)(a1:Int)(a2:J7):Option (Int×tE):=
 (nC k a0.2.2.2.2.2.2.1 a0.2.2.2.2.2.2.2.1 a0.2.2.2.2.2.2.2.2.1 a0.2.2.2.2.2.2.2.2.2.1).bind fun x0=>
 bif decide (a1 = 5) then ((tq k (yC a0 ([],a0.2.2.2.2.2.2.2.2.2.2.2.2.2.2.2.2.2)) a2.1).bind fun x1=>
  bif decide (x1<0) then some (1,(yC a0 ([],a0.2.2.2.2.2.2.2.2.2.2.2.2.2.2.2.2.2)))
  else bif decide (x1=a0.2.2.2.2.2.2.2.2.2.2.2.2.2.2.2.2.1) then some (1,(yC a0 ([],a0.2.2.2.2.2.2.2.2.2.2.2.2.2.2.2.2.2)))
  else bif decide (a2.2.1<(-1)) then some (1,(yC a0 ([],a0.2.2.2.2.2.2.2.2.2.2.2.2.2.2.2.2.2)))
  else bif decide (a2.2.1>1152921504606846976) then some (1,(yC a0 ([],a0.2.2.2.2.2.2.2.2.2.2.2.2.2.2.2.2.2)))
  else bif zC a0.2.2.2.2.2.2.2.2.2.2.2.2.2.2.2.2.1 x0.2.1.length then (bif zC x1 (x0.2.1.getD a0.2.2.2.2.2.2.2.2.2.2.2.2.2.2.2.2.1.toNat []).length then (let y0:EQ:=(x0.2.1.set a0.2.2.2.2.2.2.2.2.2.2.2.2.2.2.2.2.1.toNat ((x0.2.1.getD a0.2.2.2.2.2.2.2.2.2.2.2.2.2.2.2.2.1.toNat []).set x1.toNat a2.2.1))
    some (0,(wY a0 (x0.1,y0,x0.2.2.1,x0.2.2.2,(qNe a0 ([],a0.2.2.2.2.2.2.2.2.2.2.2.2.2.2.2.2.2))))))
   else none)
  else none)
 else bif decide (a1 = 6) then (bif decide (a2.1<(-1)) then some (1,(yC a0 ([],a0.2.2.2.2.2.2.2.2.2.2.2.2.2.2.2.2.2)))
  else bif decide (a2.1>1152921504606846976) then some (1,(yC a0 ([],a0.2.2.2.2.2.2.2.2.2.2.2.2.2.2.2.2.2)))
  else bif zC a0.2.2.2.2.2.2.2.2.2.2.2.2.2.2.2.2.1 x0.2.2.1.length then (let y1:AC:=(x0.2.2.1.set a0.2.2.2.2.2.2.2.2.2.2.2.2.2.2.2.2.1.toNat a2.1)
   some (0,(wY a0 (x0.1,x0.2.1,y1,x0.2.2.2,(qNe a0 ([],a0.2.2.2.2.2.2.2.2.2.2.2.2.2.2.2.2.2))))))
  else none)
 else bif decide (a2.1<0) then some (1,(yC a0 ([],a0.2.2.2.2.2.2.2.2.2.2.2.2.2.2.2.2.2)))
 else bif decide (a2.1>1152921504606846976) then some (1,(yC a0 ([],a0.2.2.2.2.2.2.2.2.2.2.2.2.2.2.2.2.2)))
 else bif zC a0.2.2.2.2.2.2.2.2.2.2.2.2.2.2.2.2.1 x0.1.length then (let y2:List zK:=(x0.1.set a0.2.2.2.2.2.2.2.2.2.2.2.2.2.2.2.2.1.toNat ((x0.1.getD a0.2.2.2.2.2.2.2.2.2.2.2.2.2.2.2.2.1.toNat (0,0,0)).1,(x0.1.getD a0.2.2.2.2.2.2.2.2.2.2.2.2.2.2.2.2.1.toNat (0,0,0)).2.1,a2.1))
  some (0,(wY a0 (y2,x0.2.1,x0.2.2.1,x0.2.2.2,(qNe a0 ([],a0.2.2.2.2.2.2.2.2.2.2.2.2.2.2.2.2.2))))))
 else none
def tt (k:Nat)(a0:AC)(a1 a2:Int):Option AC:=
 bif zO (0 + a0.length) 8 then (bif decide (a1 ≥ 0) then (bif decide (a1 < (a0.length : Int)) then (bif zC a1 a0.length then some (a0.set a1.toNat a2)
    else none)
   else some a0)
  else some a0)
 else none
def NC (k:Nat)(a0:Int):Option AC:=
 some [(yJ .i64 a0 65535),(yJ .i64 (shr .i64 a0 16) 65535),(yJ .i64 (shr .i64 a0 32) 65535),(yJ .i64 (shr .i64 a0 48) 65535)]
def yYw (k:Nat)(rec:Int→AC→Option AC)(s3:Int)(r0:AC):Option AC:=
 bif decide ((zA (s3 + 1)) < (r0.length : Int)) then (bif zC (zA (s3 + 1)) r0.length then (bif zC s3 r0.length then (bif zC (zA (s3 + 1)) r0.length then (let y0:AC:=(r0.set (zA (s3+1)).toNat (zA ((r0.getD (zA (s3+1)).toNat 0)+(shr .i64 (r0.getD s3.toNat 0) 16))))
     bif zC s3 y0.length then (bif zC s3 y0.length then(rec (zA (s3+1)) (y0.set s3.toNat (yJ .i64 (y0.getD s3.toNat 0) 65535)))
      else none)
     else none)
    else none)
   else none)
  else none)
 else some r0
def qQx (k:Nat):Nat→Int→AC→Option AC:=yH (fun _ _=>none) (yYw k)
def ER (k:Nat)(a0:AC):Option AC:=
 (qQx k k 0 a0).bind fun z=>
 some z
abbrev VQ:Type:=Int×Int×AC×AC
abbrev VO:Type:=Int→Int→Int→AC→AC→Option VQ
def yK0 (k:Nat)(rec:VO)(s1 s7 s8:Int)(r0 r1:AC):Option VQ:=
 bif decide (s8 < 4) then (bif !(decide ((IntKind.wrap .u64 ((zA (16 * s8)))) < 0)) then (bif zC (zA (s7 + s8)) r1.length then (bif zC s7 r0.length then (bif zC (zA (s7 + s8)) r1.length then (let y0:AC:=(r1.set (zA (s7+s8)).toNat (zA ((r1.getD (zA (s7+s8)).toNat 0)+(zA ((r0.getD s7.toNat 0)*(yJ .i64 (shr .i64 s1 (IntKind.wrap .u64 ((zA (16*s8))))) 65535))))))
      rec s1 s7 (zA (s8+1)) r0 y0)
     else none)
    else none)
   else none)
  else none)
 else some (s1,s7,r0,r1)
def VR (k:Nat):Nat→VO:=yH (fun _ _ _ _ _=>none) (yK0 k)
abbrev VT:Type:=Int→Int→AC→AC→Option AC
def qZs (k:Nat)(rec:VT)(s1 s7:Int)(r0 r1:AC):Option AC:=
 bif decide (s7 < 4) then ((VR k k s1 s7 0 r0 r1).bind fun z=>
  rec z.1 (zA (z.2.1+1)) z.2.2.1 z.2.2.2)
 else some r1
def Nt (k:Nat):Nat→VT:=yH (fun _ _ _ _=>none) (qZs k)
def NB (k:Nat)(a0 a1:Int):Option AC:=
 (NC k a0).bind fun x0=>
 (Nt k k a1 0 x0 [0,0,0,0,0,0,0,0,0]).bind fun z1=>
 (ER k z1).bind fun x1=>
 some x1
def vAd (k:Nat)(rec:Int→Int→AC→Option AC)(s1 s5:Int)(r0:AC):Option AC:=
 bif decide (s5 < (r0.length : Int)) then (bif zC s5 r0.length then (bif zC s5 r0.length then(rec s1 (zA (s5+1)) (r0.set s5.toNat (zA ((r0.getD s5.toNat 0)*s1))))
   else none)
  else none)
 else some r0
def Nr (k:Nat):Nat→Int→Int→AC→Option AC:=yH (fun _ _ _=>none) (vAd k)
def Nq (k:Nat)(a0:AC)(a1:Int):Option AC:=
 (Nr k k a1 0 a0).bind fun z=>
 (ER k z).bind fun x0=>
 some x0
abbrev VY:Type:=Int→Int→Int→AC→Option AC
def qZ9 (k:Nat)(rec:VY)(s1 s6 s7:Int)(r0:AC):Option AC:=
 bif decide (s7 ≥ 0) then (bif zC s7 r0.length then (bif !(decide (s1 = 0)) then (bif zC s7 r0.length then (let y0:AC:=(r0.set s7.toNat (zA (Int.tdiv (zA ((shl .i64 s6 16)+(r0.getD s7.toNat 0))) s1)))
     bif !(decide (s1=0)) then(rec s1 (Int.tmod (zA ((shl .i64 s6 16)+(r0.getD s7.toNat 0))) s1) (zA (s7-1)) y0)
     else none)
    else none)
   else none)
  else none)
 else some r0
def Je (k:Nat):Nat→VY:=yH (fun _ _ _ _=>none) (qZ9 k)
abbrev VZ:Type:=Int→AC→Option (AC⊕jW)
def yPb (k:Nat)(rec:VZ)(s9:Int)(r0:AC):Option (AC⊕jW):=
 bif decide (s9 < (r0.length : Int)) then (bif zC s9 r0.length then (bif !(decide ((r0.getD s9.toNat 0)=0)) then some (.inr (0,false))
   else rec (zA (s9+1)) r0)
  else none)
 else some (.inl r0)
def ES (k:Nat):Nat→VZ:=yH (fun _ _=>none) (yPb k)
def Ns (k:Nat)(a0:AC)(a1:Int):Option jW:=
 (Je k k a1 0 (zA ((a0.length:Int)-1)) a0).bind fun z=>
 (ES k k 4 z).bind fun z1=>
 match z1 with
 | .inl z2 => bif zC 3 z2.length then (bif decide ((z2.getD 3 0)≥32768) then some (0,false)
   else bif zC 3 z2.length then (bif zC 2 z2.length then (bif zC 1 z2.length then (bif zC 0 z2.length then some ((wO .i64 (wO .i64 (wO .i64 (shl .i64 (z2.getD 3 0) 48) (shl .i64 (z2.getD 2 0) 32)) (shl .i64 (z2.getD 1 0) 16)) (z2.getD 0 0)),true)
      else none)
     else none)
    else none)
   else none)
  else none
 |.inr z3=>some (z3.1,z3.2)
def ND (k:Nat)(a0 a1 a2:Int):Option jW:=
 bif decide (a0<0) then some (0,false)
 else bif decide (a1<0) then some (0,false)
 else bif decide (a2<0) then some (0,false)
 else bif decide (a2>10000) then some (0,false)
 else(NB k a0 a1).bind fun x0=>
 (Nq k x0 (zA (10000-a2))).bind fun x1=>
 (Ns k x1 10000).bind fun x2=>
 some (x2.1,x2.2)
def EW (k:Nat)(a0 a1:Int):Option jW:=
 bif decide (a1 > 0) then (bif decide (a0>(zA (9223372036854775807-a1))) then some (0,false)
  else bif decide (a1 < 0) then (bif decide (a0<(zA ((-9223372036854775808)-a1))) then some (0,false)
   else some ((zA (a0+a1)),true))
  else some ((zA (a0+a1)),true))
 else bif decide (a1 < 0) then (bif decide (a0<(zA ((-9223372036854775808)-a1))) then some (0,false)
  else some ((zA (a0+a1)),true))
 else some ((zA (a0+a1)),true)
abbrev V5:Type:=List vJ→AC→AC→Int→Int→Option (Int⊕jW)
def EX (k:Nat)(rec:V5)(s0:List vJ)(s1 s2:AC)(s8 s9:Int):Option (Int⊕jW):=
 bif decide (s9 < (s0.length : Int)) then (bif zC s9 s1.length then (bif zC s9 s2.length then (bif zC s9 s0.length then ((ND k (s1.getD s9.toNat 0) (s2.getD s9.toNat 0) (s0.getD s9.toNat (0,0)).2).bind fun x0=>
     (EW k s8 x0.1).bind fun x1=>
     bif !x0.2 then some (.inr (0,false))
     else bif !x1.2 then some (.inr (0,false))
     else rec s0 s1 s2 x1.1 (zA (s9+1)))
    else none)
   else none)
  else none)
 else some (.inl s8)
def Jl (k:Nat):Nat→V5:=yH (fun _ _ _ _ _=>none) (EX k)
def Ax (k:Nat)(a0:List vJ)(a1 a2:AC):Option jW:=
 bif !(decide ((a1.length:Int)=(a0.length:Int))) then some (0,false)
 else bif !(decide ((a2.length:Int)=(a0.length:Int))) then some (0,false)
 else(Jl k k a0 a1 a2 0 0).bind fun z=>
 match z with
 |.inl z1=>some (z1,true)
 |.inr z2=>some (z2.1,z2.2)
def NJ (k:Nat)(a0:pg)(a1 a2:Int):Option (Int×tE):=
 bif decide (a1<0) then some (1,(yC a0 ([],a0.2.2.2.2.2.2.2.2.2.2.2.2.2.2.2.2.2)))
 else bif decide (a1≥(a0.2.1.length:Int)) then some (1,(yC a0 ([],a0.2.2.2.2.2.2.2.2.2.2.2.2.2.2.2.2.2)))
 else bif decide (a2<0) then some (1,(yC a0 ([],a0.2.2.2.2.2.2.2.2.2.2.2.2.2.2.2.2.2)))
 else bif decide (a2>1099511627776) then some (1,(yC a0 ([],a0.2.2.2.2.2.2.2.2.2.2.2.2.2.2.2.2.2)))
 else bif zC a0.2.2.2.2.2.2.2.2.2.2.2.2.2.2.2.2.1 a0.2.2.2.2.2.2.2.2.2.2.2.1.length then ((tt k (a0.2.2.2.2.2.2.2.2.2.2.2.1.getD a0.2.2.2.2.2.2.2.2.2.2.2.2.2.2.2.2.1.toNat []) a1 a2).bind fun x0=>
  (Ax k a0.2.1 a0.2.2.2.2.2.2.2.2.2.2.1 x0).bind fun x1=>
  bif !x1.2 then some (8,(yC a0 ([],a0.2.2.2.2.2.2.2.2.2.2.2.2.2.2.2.2.2)))
  else bif decide (x1.1>1152921504606846976) then some (8,(yC a0 ([],a0.2.2.2.2.2.2.2.2.2.2.2.2.2.2.2.2.2)))
  else(nC k a0.2.2.2.2.2.2.1 a0.2.2.2.2.2.2.2.1 a0.2.2.2.2.2.2.2.2.1 a0.2.2.2.2.2.2.2.2.2.1).bind fun x2=>
  bif zC a0.2.2.2.2.2.2.2.2.2.2.2.2.2.2.2.2.1 x2.1.length then (bif decide (x1.1 < (x2.1.getD a0.2.2.2.2.2.2.2.2.2.2.2.2.2.2.2.2.1.toNat (0, 0, 0)).2.1) then (bif decide ((zA ((x2.1.getD a0.2.2.2.2.2.2.2.2.2.2.2.2.2.2.2.2.1.toNat (0,0,0)).1+x1.1))<0) then some (9,(yC a0 ([],a0.2.2.2.2.2.2.2.2.2.2.2.2.2.2.2.2.2)))
    else bif zC a0.2.2.2.2.2.2.2.2.2.2.2.2.2.2.2.2.1 x2.1.length then (let y0:List zK:=(x2.1.set a0.2.2.2.2.2.2.2.2.2.2.2.2.2.2.2.2.1.toNat ((x2.1.getD a0.2.2.2.2.2.2.2.2.2.2.2.2.2.2.2.2.1.toNat (0,0,0)).1,x1.1,(x2.1.getD a0.2.2.2.2.2.2.2.2.2.2.2.2.2.2.2.2.1.toNat (0,0,0)).2.2))
     bif zO (0 + a0.2.2.2.2.2.2.2.2.2.2.2.1.length) 24 then (bif zC a0.2.2.2.2.2.2.2.2.2.2.2.2.2.2.2.2.1 a0.2.2.2.2.2.2.2.2.2.2.2.1.length then (let y1:EQ:=(a0.2.2.2.2.2.2.2.2.2.2.2.1.set a0.2.2.2.2.2.2.2.2.2.2.2.2.2.2.2.2.1.toNat x0)
       some (0,(wY a0 (y0,x2.2.1,x2.2.2.1,x2.2.2.2,a0.2.2.2.2.2.2.2.2.2.2.1,y1,(yUe a0 ([],a0.2.2.2.2.2.2.2.2.2.2.2.2.2.2.2.2.2))))))
      else none)
     else none)
    else none)
   else bif zC a0.2.2.2.2.2.2.2.2.2.2.2.2.2.2.2.2.1 x2.1.length then (let y2:List zK:=(x2.1.set a0.2.2.2.2.2.2.2.2.2.2.2.2.2.2.2.2.1.toNat ((x2.1.getD a0.2.2.2.2.2.2.2.2.2.2.2.2.2.2.2.2.1.toNat (0,0,0)).1,x1.1,(x2.1.getD a0.2.2.2.2.2.2.2.2.2.2.2.2.2.2.2.2.1.toNat (0,0,0)).2.2))
    bif zO (0 + a0.2.2.2.2.2.2.2.2.2.2.2.1.length) 24 then (bif zC a0.2.2.2.2.2.2.2.2.2.2.2.2.2.2.2.2.1 a0.2.2.2.2.2.2.2.2.2.2.2.1.length then (let y3:EQ:=(a0.2.2.2.2.2.2.2.2.2.2.2.1.set a0.2.2.2.2.2.2.2.2.2.2.2.2.2.2.2.2.1.toNat x0)
      some (0,(wY a0 (y2,x2.2.1,x2.2.2.1,x2.2.2.2,a0.2.2.2.2.2.2.2.2.2.2.1,y3,(yUe a0 ([],a0.2.2.2.2.2.2.2.2.2.2.2.2.2.2.2.2.2))))))
     else none)
    else none)
   else none)
  else none)
 else none
def E8 (k:Nat)(a0:zK)(a1:Int):Option (zK×Int):=
 (EW k a0.1 a1).bind fun x0=>
 bif !x0.2 then some (a0,8)
 else(HB k x0.1 a0.2.1 a0.2.2).bind fun x1=>
 bif !x1 then some (a0,8)
 else some ((x0.1,a0.2),0)
def E9 (k:Nat)(a0:pg)(a1:Bool)(a2 a3:Int):Option (Int×tE):=
 (tq k (yC a0 ([],a0.2.2.2.2.2.2.2.2.2.2.2.2.2.2.2.2.2)) a2).bind fun x0=>
 bif decide (x0<0) then some (1,(yC a0 ([],a0.2.2.2.2.2.2.2.2.2.2.2.2.2.2.2.2.2)))
 else bif decide (a3<1) then some (1,(yC a0 ([],a0.2.2.2.2.2.2.2.2.2.2.2.2.2.2.2.2.2)))
 else bif decide (a3>1099511627776) then some (1,(yC a0 ([],a0.2.2.2.2.2.2.2.2.2.2.2.2.2.2.2.2.2)))
 else(nC k a0.2.2.2.2.2.2.1 a0.2.2.2.2.2.2.2.1 a0.2.2.2.2.2.2.2.2.1 a0.2.2.2.2.2.2.2.2.2.1).bind fun x1=>
 bif a1 then (bif zC x0 x1.1.length then ((E8 k (x1.1.getD x0.toNat (0,0,0)) a3).bind fun x2=>
   bif decide ((zA (a0.2.2.2.2.2.2.2.2.2.2.2.2.2.2.1+a3))>1152921504606846976) then some (8,(yC a0 ([],a0.2.2.2.2.2.2.2.2.2.2.2.2.2.2.2.2.2)))
   else bif !(decide (x2.2=0)) then some (8,(yC a0 ([],a0.2.2.2.2.2.2.2.2.2.2.2.2.2.2.2.2.2)))
   else bif zC x0 x1.1.length then some (0,(wY a0 ((x1.1.set x0.toNat x2.1),x1.2.1,x1.2.2.1,x1.2.2.2,(FY a0 ((zA (a0.2.2.2.2.2.2.2.2.2.2.2.2.2.2.1+a3)),a0.2.2.2.2.2.2.2.2.2.2.2.2.2.2.2.1,a0.2.2.2.2.2.2.2.2.2.2.2.2.2.2.2.2.1,[],a0.2.2.2.2.2.2.2.2.2.2.2.2.2.2.2.2.2)))))
   else none)
  else none)
 else bif zC x0 x1.1.length then (bif decide ((zA ((zA ((x1.1.getD x0.toNat (0,0,0)).1+(x1.1.getD x0.toNat (0,0,0)).2.1))-(x1.1.getD x0.toNat (0,0,0)).2.2))<a3) then some (9,(yC a0 ([],a0.2.2.2.2.2.2.2.2.2.2.2.2.2.2.2.2.2)))
  else bif decide (a0.2.2.2.2.2.2.2.2.2.2.2.2.2.2.1<a3) then some (9,(yC a0 ([],a0.2.2.2.2.2.2.2.2.2.2.2.2.2.2.2.2.2)))
  else bif zC x0 x1.1.length then (let y0:List zK:=(x1.1.set x0.toNat ((zA ((x1.1.getD x0.toNat (0,0,0)).1-a3)),(x1.1.getD x0.toNat (0,0,0)).2))
   some (0,(wY a0 (y0,x1.2.1,x1.2.2.1,x1.2.2.2,(FY a0 ((zA (a0.2.2.2.2.2.2.2.2.2.2.2.2.2.2.1-a3)),a0.2.2.2.2.2.2.2.2.2.2.2.2.2.2.2.1,a0.2.2.2.2.2.2.2.2.2.2.2.2.2.2.2.2.1,[],a0.2.2.2.2.2.2.2.2.2.2.2.2.2.2.2.2.2))))))
  else none)
 else none
abbrev Wg:Type:=(pg×AC×(List zK)×EQ×AC×EQ)⊕(Int×pg)
abbrev Wd:Type:=Int→pg→AC→List zK→EQ→AC→EQ→Option Wg
def Fa (k:Nat)(rec:Wd)(s9:Int)(b0:pg)(r1:AC)(r3:List zK)(m4:EQ)(r5:AC)(m6:EQ):Option Wg:=
 bif decide (s9 < (r3.length : Int)) then (bif zC s9 b0.2.2.2.2.2.2.2.2.2.2.2.1.length then ((Ax k b0.2.1 r1 (b0.2.2.2.2.2.2.2.2.2.2.2.1.getD s9.toNat [])).bind fun x2=>
   bif !x2.2 then some (.inr (8,b0))
   else bif decide (x2.1>1152921504606846976) then some (.inr (8,b0))
   else bif zC s9 r3.length then (let y0:List zK:=(r3.set s9.toNat ((r3.getD s9.toNat (0,0,0)).1,x2.1,(r3.getD s9.toNat (0,0,0)).2.2))
    rec (zA (s9+1)) b0 r1 y0 m4 r5 m6)
   else none)
  else none)
 else some (.inl (b0,r1,r3,m4,r5,m6))
def tu (k:Nat):Nat→Wd:=yH (fun _ _ _ _ _ _ _=>none) (Fa k)
def NK (k:Nat)(a0:pg)(a1 a2:Int):Option (Int×tE):=
 bif decide (a1<0) then some (1,(yC a0 ([],a0.2.2.2.2.2.2.2.2.2.2.2.2.2.2.2.2.2)))
 else bif decide (a1≥(a0.2.1.length:Int)) then some (1,(yC a0 ([],a0.2.2.2.2.2.2.2.2.2.2.2.2.2.2.2.2.2)))
 else bif decide (a2<0) then some (1,(yC a0 ([],a0.2.2.2.2.2.2.2.2.2.2.2.2.2.2.2.2.2)))
 else bif decide (a2>1048576) then some (1,(yC a0 ([],a0.2.2.2.2.2.2.2.2.2.2.2.2.2.2.2.2.2)))
 else(tt k a0.2.2.2.2.2.2.2.2.2.2.1 a1 a2).bind fun x0=>
 (nC k a0.2.2.2.2.2.2.1 a0.2.2.2.2.2.2.2.1 a0.2.2.2.2.2.2.2.2.1 a0.2.2.2.2.2.2.2.2.2.1).bind fun x1=>
 (tu k k 0 a0 x0 x1.1 x1.2.1 x1.2.2.1 x1.2.2.2).bind fun z=>
 match z with
 |.inl z1=>some (0,(wY z1.1 (zy z1 (z1.2.1,(yO6 z1.1 ([],z1.1.2.2.2.2.2.2.2.2.2.2.2.2.2.2.2.2.2))))))
 |.inr z2=>some (yM4 z2 ([],z2.2.2.2.2.2.2.2.2.2.2.2.2.2.2.2.2.2.2))
def wh (k:Nat)(a0:pg)(a1:zB):Option (Int×tE):=
 bif decide (a1.1 = 1) then ((NI k a0 a1.2).bind fun x0=>
  some (x0.1,x0.2))
 else bif decide (a1.1 = 2) then ((AF k a0 a1.1 a1.2).bind fun x1=>
  some (x1.1,x1.2))
 else bif decide (a1.1 = 3) then ((AF k a0 a1.1 a1.2).bind fun x2=>
  some (x2.1,x2.2))
 else bif decide (a1.1 = 4) then ((AF k a0 a1.1 a1.2).bind fun x3=>
  some (x3.1,x3.2))
 else bif decide (a1.1 = 5) then ((AG k a0 a1.1 a1.2).bind fun x4=>
  some (x4.1,x4.2))
 else bif decide (a1.1 = 6) then ((AG k a0 a1.1 a1.2).bind fun x5=>
  some (x5.1,x5.2))
 else bif decide (a1.1 = 7) then ((AG k a0 a1.1 a1.2).bind fun x6=>
  some (x6.1,x6.2))
 else bif decide (a1.1 = 8) then ((NJ k a0 a1.2.1 a1.2.2.1).bind fun x7=>
  some (x7.1,x7.2))
 else bif decide (a1.1 = 10) then ((E9 k a0 (decide (a1.1=10)) a1.2.1 a1.2.2.1).bind fun x8=>
  some (x8.1,x8.2))
 else bif decide (a1.1 = 11) then ((E9 k a0 (decide (a1.1=10)) a1.2.1 a1.2.2.1).bind fun x9=>
  some (x9.1,x9.2))
 else bif decide (a1.1 = 12) then ((NK k a0 a1.2.1 a1.2.2.1).bind fun dC=>
  some (dC.1,dC.2))
 else some (0,(yC a0 ([],a0.2.2.2.2.2.2.2.2.2.2.2.2.2.2.2.2.2)))
def JC (k:Nat)(a0:yO)(a1:yT)(a2:qA):Option (yT×(List qA)×Int):=
 (AJ k a0 a2).bind fun x0=>
 bif !x0 then some (a1,[],5)
 else bif a1.2.2.2.2.2.2.2.2.2.2 then (bif !(decide (a2.2.1=9)) then some (a1,[],7)
  else bif decide (a2.2.1 = 9) then (bif zC a2.1 a1.2.1.length then ((sQ k a1.2.2.2.2.2.2.2.1 a2.1).bind fun x1=>
    (fq k 17 [(a1.2.1.getD a2.1.toNat (0,0,0)).1,(a1.2.1.getD a2.1.toNat (0,0,0)).2.1,(a1.2.1.getD a2.1.toNat (0,0,0)).2.2,(x1.length:Int),a1.1]).bind fun x2=>
    some (a1,[(a2.1,x2)],0))
   else none)
  else bif decide (a2.2.1 = 14) then ((Fw k a0 a1).bind fun x3=>
   some (x3.1,x3.2,0))
  else(wh k (wS a0 (vU a1 (a2.1,0))) a2.2).bind fun x4=>
  bif !(decide (x4.1=0)) then some (a1,[],x4.1)
  else bif !(decide (a2.1 = (-1))) then ((fq k 15 []).bind fun x5=>
   (mK k x4.2.2.2.2.2.2.1 x4.2.2.2.2.2.2.2.1 x4.2.2.2.2.2.2.2.2.1 x4.2.2.2.2.2.2.2.2.2.1 x4.2.2.2.2.2.2.2.2.2.2.1 x4.2.2.2.2.2.2.2.2.2.2.2.1 x4.2.2.2.2.2.2.2.2.2.2.2.2.1 x4.2.2.2.2.2.2.2.2.2.2.2.2.2.1 x4.2.2.2.2.2.2.2.2.2.2.2.2.2.2.1 x4.2.2.2.2.2.2.2.2.2.2.2.2.2.2.2.1 x4.2.2.2.2.2.2.2.2.2.2.2.2.2.2.2.2.1 (decide (a2.2.1=13))).bind fun x6=>
   bif zO (1 + x4.2.2.2.2.2.2.2.2.2.2.2.2.2.2.2.2.2.2.1.length) 64 then (let y0:List qA:=([(a2.1,x5)]++x4.2.2.2.2.2.2.2.2.2.2.2.2.2.2.2.2.2.2.1)
    bif zO (y0.length + x6.2.2.2.2.2.2.2.2.2.2.2.length) 64 then (bif decide (x4.2.2.2.2.2.2.2.2.2.2.2.2.2.2.2.2.2.2.2 > 0) then ((lS k x6.2.2.2.2.2.2.2.1 x4.2.2.2.2.2.2.2.2.2.2.2.2.2.2.2.2.2.2.2).bind fun x7=>
      bif decide (x7 ≥ 0) then ((fq k 19 [x4.2.2.2.2.2.2.2.2.2.2.2.2.2.2.2.2.2.2.2]).bind fun x8=>
       bif zO ((y0 ++ x6.2.2.2.2.2.2.2.2.2.2.2).length + 1) 64 then (let y1:List qA:=((y0++x6.2.2.2.2.2.2.2.2.2.2.2)++[(a2.1,x8)])
        some ((qW x6),y1,0))
       else none)
      else some ((qW x6),(y0++x6.2.2.2.2.2.2.2.2.2.2.2),0))
     else some ((qW x6),(y0++x6.2.2.2.2.2.2.2.2.2.2.2),0))
    else none)
   else none)
  else(mK k x4.2.2.2.2.2.2.1 x4.2.2.2.2.2.2.2.1 x4.2.2.2.2.2.2.2.2.1 x4.2.2.2.2.2.2.2.2.2.1 x4.2.2.2.2.2.2.2.2.2.2.1 x4.2.2.2.2.2.2.2.2.2.2.2.1 x4.2.2.2.2.2.2.2.2.2.2.2.2.1 x4.2.2.2.2.2.2.2.2.2.2.2.2.2.1 x4.2.2.2.2.2.2.2.2.2.2.2.2.2.2.1 x4.2.2.2.2.2.2.2.2.2.2.2.2.2.2.2.1 x4.2.2.2.2.2.2.2.2.2.2.2.2.2.2.2.2.1 (decide (a2.2.1=13))).bind fun x9=>
  bif zO x4.2.2.2.2.2.2.2.2.2.2.2.2.2.2.2.2.2.2.1.length 64 then (let y2:List qA:=x4.2.2.2.2.2.2.2.2.2.2.2.2.2.2.2.2.2.2.1
   bif zO (y2.length + x9.2.2.2.2.2.2.2.2.2.2.2.length) 64 then (bif decide (x4.2.2.2.2.2.2.2.2.2.2.2.2.2.2.2.2.2.2.2 > 0) then ((lS k x9.2.2.2.2.2.2.2.1 x4.2.2.2.2.2.2.2.2.2.2.2.2.2.2.2.2.2.2.2).bind fun dC=>
     bif decide (dC ≥ 0) then ((fq k 19 [x4.2.2.2.2.2.2.2.2.2.2.2.2.2.2.2.2.2.2.2]).bind fun gg=>
      bif zO ((y2 ++ x9.2.2.2.2.2.2.2.2.2.2.2).length + 1) 64 then (let y3:List qA:=((y2++x9.2.2.2.2.2.2.2.2.2.2.2)++[(a2.1,gg)])
       some ((qW x9),y3,0))
      else none)
     else some ((qW x9),(y2++x9.2.2.2.2.2.2.2.2.2.2.2),0))
    else some ((qW x9),(y2++x9.2.2.2.2.2.2.2.2.2.2.2),0))
   else none)
  else none)
 else bif decide (a2.2.1 = 9) then (bif zC a2.1 a1.2.1.length then ((sQ k a1.2.2.2.2.2.2.2.1 a2.1).bind fun mP=>
   (fq k 17 [(a1.2.1.getD a2.1.toNat (0,0,0)).1,(a1.2.1.getD a2.1.toNat (0,0,0)).2.1,(a1.2.1.getD a2.1.toNat (0,0,0)).2.2,(mP.length:Int),a1.1]).bind fun mQ=>
   some (a1,[(a2.1,mQ)],0))
  else none)
 else bif decide (a2.2.1 = 14) then ((Fw k a0 a1).bind fun ph=>
  some (ph.1,ph.2,0))
 else(wh k (wS a0 (vU a1 (a2.1,0))) a2.2).bind fun bO=>
 bif !(decide (bO.1=0)) then some (a1,[],bO.1)
 else bif !(decide (a2.1 = (-1))) then ((fq k 15 []).bind fun w9=>
  (mK k bO.2.2.2.2.2.2.1 bO.2.2.2.2.2.2.2.1 bO.2.2.2.2.2.2.2.2.1 bO.2.2.2.2.2.2.2.2.2.1 bO.2.2.2.2.2.2.2.2.2.2.1 bO.2.2.2.2.2.2.2.2.2.2.2.1 bO.2.2.2.2.2.2.2.2.2.2.2.2.1 bO.2.2.2.2.2.2.2.2.2.2.2.2.2.1 bO.2.2.2.2.2.2.2.2.2.2.2.2.2.2.1 bO.2.2.2.2.2.2.2.2.2.2.2.2.2.2.2.1 bO.2.2.2.2.2.2.2.2.2.2.2.2.2.2.2.2.1 (decide (a2.2.1=13))).bind fun gj=>
  bif zO (1 + bO.2.2.2.2.2.2.2.2.2.2.2.2.2.2.2.2.2.2.1.length) 64 then (let y4:List qA:=([(a2.1,w9)]++bO.2.2.2.2.2.2.2.2.2.2.2.2.2.2.2.2.2.2.1)
   bif zO (y4.length + gj.2.2.2.2.2.2.2.2.2.2.2.length) 64 then (bif decide (bO.2.2.2.2.2.2.2.2.2.2.2.2.2.2.2.2.2.2.2 > 0) then ((lS k gj.2.2.2.2.2.2.2.1 bO.2.2.2.2.2.2.2.2.2.2.2.2.2.2.2.2.2.2.2).bind fun xa=>
     bif decide (xa ≥ 0) then ((fq k 19 [bO.2.2.2.2.2.2.2.2.2.2.2.2.2.2.2.2.2.2.2]).bind fun FZ=>
      bif zO ((y4 ++ gj.2.2.2.2.2.2.2.2.2.2.2).length + 1) 64 then (let y5:List qA:=((y4++gj.2.2.2.2.2.2.2.2.2.2.2)++[(a2.1,FZ)])
       some ((qW gj),y5,0))
      else none)
     else some ((qW gj),(y4++gj.2.2.2.2.2.2.2.2.2.2.2),0))
    else some ((qW gj),(y4++gj.2.2.2.2.2.2.2.2.2.2.2),0))
   else none)
  else none)
 else(mK k bO.2.2.2.2.2.2.1 bO.2.2.2.2.2.2.2.1 bO.2.2.2.2.2.2.2.2.1 bO.2.2.2.2.2.2.2.2.2.1 bO.2.2.2.2.2.2.2.2.2.2.1 bO.2.2.2.2.2.2.2.2.2.2.2.1 bO.2.2.2.2.2.2.2.2.2.2.2.2.1 bO.2.2.2.2.2.2.2.2.2.2.2.2.2.1 bO.2.2.2.2.2.2.2.2.2.2.2.2.2.2.1 bO.2.2.2.2.2.2.2.2.2.2.2.2.2.2.2.1 bO.2.2.2.2.2.2.2.2.2.2.2.2.2.2.2.2.1 (decide (a2.2.1=13))).bind fun iW=>
 bif zO bO.2.2.2.2.2.2.2.2.2.2.2.2.2.2.2.2.2.2.1.length 64 then (let y6:List qA:=bO.2.2.2.2.2.2.2.2.2.2.2.2.2.2.2.2.2.2.1
  bif zO (y6.length + iW.2.2.2.2.2.2.2.2.2.2.2.length) 64 then (bif decide (bO.2.2.2.2.2.2.2.2.2.2.2.2.2.2.2.2.2.2.2 > 0) then ((lS k iW.2.2.2.2.2.2.2.1 bO.2.2.2.2.2.2.2.2.2.2.2.2.2.2.2.2.2.2.2).bind fun tF=>
    bif decide (tF ≥ 0) then ((fq k 19 [bO.2.2.2.2.2.2.2.2.2.2.2.2.2.2.2.2.2.2.2]).bind fun PM=>
     bif zO ((y6 ++ iW.2.2.2.2.2.2.2.2.2.2.2).length + 1) 64 then (let y7:List qA:=((y6++iW.2.2.2.2.2.2.2.2.2.2.2)++[(a2.1,PM)])
      some ((qW iW),y7,0))
     else none)
    else some ((qW iW),(y6++iW.2.2.2.2.2.2.2.2.2.2.2),0))
   else some ((qW iW),(y6++iW.2.2.2.2.2.2.2.2.2.2.2),0))
  else none)
 else none
abbrev Wl:Type:=AC→AC→Int→Option (Unit⊕Bool)
def CO (k:Nat)(rec:Wl)(s0 s1:AC)(s5:Int):Option (Unit⊕Bool):=
 bif decide (s5 < (s0.length : Int)) then (bif zC s5 s0.length then (bif zC s5 s1.length then (bif !(decide ((s0.getD s5.toNat 0)=(s1.getD s5.toNat 0))) then some (.inr false)
    else rec s0 s1 (zA (s5+1)))
   else none)
  else none)
 else some (.inl ())
def HT (k:Nat):Nat→Wl
 |0,_,_,_=>none
 |n+1,s0,s1,s5=>CO k (HT k n) s0 s1 s5
def sJ (k:Nat)(a0 a1:AC):Option Bool:=
 bif !(decide ((a0.length:Int)=(a1.length:Int))) then some false
 else(HT k k a0 a1 0).bind fun z=>
 match z with
 |.inl z1=>some true
 |.inr z2=>some z2
abbrev Wo:Type:=EQ→EQ→Int→Option (Unit⊕Bool)
def CP (k:Nat)(rec:Wo)(s0 s1:EQ)(s5:Int):Option (Unit⊕Bool):=
 bif decide (s5 < (s0.length : Int)) then (bif zC s5 s0.length then (bif zC s5 s1.length then ((sJ k (s0.getD s5.toNat []) (s1.getD s5.toNat [])).bind fun x0=>
    bif !x0 then some (.inr false)
    else rec s0 s1 (zA (s5+1)))
   else none)
  else none)
 else some (.inl ())
def HU (k:Nat):Nat→Wo
 |0,_,_,_=>none
 |n+1,s0,s1,s5=>CP k (HU k n) s0 s1 s5
def yt (k:Nat)(a0 a1:EQ):Option Bool:=
 bif !(decide ((a0.length:Int)=(a1.length:Int))) then some false
 else(HU k k a0 a1 0).bind fun z=>
 match z with
 |.inl z1=>some true
 |.inr z2=>some z2
abbrev Wr:Type:=Int→List zK→EQ→AC→EQ→List zK→EQ→AC→EQ→Option (Unit⊕Bool)
def CQ (k:Nat)(rec:Wr)(s5:Int)(af:List zK)(ah:EQ)(ak:AC)(ag:EQ)(av:List zK)(aB:EQ)(aC:AC)(aE:EQ):Option (Unit⊕Bool):=
 bif decide (s5 < (af.length : Int)) then (bif zC s5 af.length then (bif zC s5 av.length then (bif !((decide ((af.getD s5.toNat (0,0,0)).1=(av.getD s5.toNat (0,0,0)).1))&&((decide ((af.getD s5.toNat (0,0,0)).2.1=(av.getD s5.toNat (0,0,0)).2.1))&&(decide ((af.getD s5.toNat (0,0,0)).2.2=(av.getD s5.toNat (0,0,0)).2.2)))) then some (.inr false)
    else rec (zA (s5+1)) af ah ak ag av aB aC aE)
   else none)
  else none)
 else some (.inl ())
def HW (k:Nat):Nat→Wr
 |0,_,_,_,_,_,_,_,_,_=>none
 |n+1,s5,af,ah,ak,ag,av,aB,aC,aE=>CQ k (HW k n) s5 af ah ak ag av aB aC aE
def HV (k:Nat)(au:List zK)(aA:EQ)(az:AC)(ax:EQ)(cR:List zK)(ie:EQ)(ig:AC)(ij:EQ):Option Bool:=
 bif !(decide ((au.length:Int)=(cR.length:Int))) then some false
 else(yt k aA ie).bind fun x0=>
 bif !x0 then some false
 else(yt k ax ij).bind fun x1=>
 bif !x1 then some false
 else(sJ k az ig).bind fun x2=>
 bif !x2 then some false
 else(HW k k 0 au aA az ax cR ie ig ij).bind fun z=>
 match z with
 |.inl z1=>some true
 |.inr z2=>some z2
abbrev Wt:Type:=List zB→List zB→Int→Option (Unit⊕Bool)
def Fz (k:Nat)(rec:Wt)(s0 s1:List zB)(s5:Int):Option (Unit⊕Bool):=
 bif decide (s5 < (s0.length : Int)) then (bif zC s5 s0.length then (bif zC s5 s1.length then (bif !((decide ((s0.getD s5.toNat (0,0,0,0,0,0,0)).1=(s1.getD s5.toNat (0,0,0,0,0,0,0)).1))&&((decide ((s0.getD s5.toNat (0,0,0,0,0,0,0)).2.1=(s1.getD s5.toNat (0,0,0,0,0,0,0)).2.1))&&((decide ((s0.getD s5.toNat (0,0,0,0,0,0,0)).2.2.1=(s1.getD s5.toNat (0,0,0,0,0,0,0)).2.2.1))&&((decide ((s0.getD s5.toNat (0,0,0,0,0,0,0)).2.2.2.1=(s1.getD s5.toNat (0,0,0,0,0,0,0)).2.2.2.1))&&((decide ((s0.getD s5.toNat (0,0,0,0,0,0,0)).2.2.2.2.1=(s1.getD s5.toNat (0,0,0,0,0,0,0)).2.2.2.2.1))&&((decide ((s0.getD s5.toNat (0,0,0,0,0,0,0)).2.2.2.2.2.1=(s1.getD s5.toNat (0,0,0,0,0,0,0)).2.2.2.2.2.1))&&(decide ((s0.getD s5.toNat (0,0,0,0,0,0,0)).2.2.2.2.2.2=(s1.getD s5.toNat (0,0,0,0,0,0,0)).2.2.2.2.2.2)))))))) then some (.inr false)
    else rec s0 s1 (zA (s5+1)))
   else none)
  else none)
 else some (.inl ())
def JE (k:Nat):Nat→Wt
 |0,_,_,_=>none
 |n+1,s0,s1,s5=>Fz k (JE k n) s0 s1 s5
def JD (k:Nat)(a0 a1:List zB):Option Bool:=
 bif !(decide ((a0.length:Int)=(a1.length:Int))) then some false
 else(JE k k a0 a1 0).bind fun z=>
 match z with
 |.inl z1=>some true
 |.inr z2=>some z2
def FA (k:Nat)(a0 a1:yT):Option Bool:=
 bif decide (a0.1 = a1.1) then (bif decide (a0.2.2.2.2.2.2.2.2.2.1 = a1.2.2.2.2.2.2.2.2.2.1) then (bif nR a0.2.2.2.2.2.2.2.2.2.2 a1.2.2.2.2.2.2.2.2.2.2 then ((HV k a0.2.1 a0.2.2.1 a0.2.2.2.1 a0.2.2.2.2.1 a1.2.1 a1.2.2.1 a1.2.2.2.1 a1.2.2.2.2.1).bind fun x0=>
    bif x0 then ((sJ k a0.2.2.2.2.2.1 a1.2.2.2.2.2.1).bind fun x1=>
     bif x1 then ((yt k a0.2.2.2.2.2.2.1 a1.2.2.2.2.2.2.1).bind fun x2=>
      bif x2 then ((JD k a0.2.2.2.2.2.2.2.1 a1.2.2.2.2.2.2.2.1).bind fun x3=>
       bif x3 then ((sJ k a0.2.2.2.2.2.2.2.2.1 a1.2.2.2.2.2.2.2.2.1).bind fun x4=>
        some x4)
       else some false)
      else some false)
     else some false)
    else some false)
   else some false)
  else some false)
 else some false
abbrev Wz:Type:=AC×Int×AC
abbrev Wx:Type:=AC→Int→Int→AC→Option Wz
def N2 (k:Nat)(rec:Wx)(s0:AC)(s4 s5:Int)(r0:AC):Option Wz:=
 bif decide (s5 ≥ 0) then (bif zC s4 s0.length then (bif !(decide ((IntKind.wrap .u64 (s5)) < 0)) then (bif zO (r0.length+1) 1 then(rec s0 s4 (zA (s5-8)) (r0++[(IntKind.wrap .u8 ((shr .u64 (IntKind.wrap .u64 ((s0.getD s4.toNat 0))) (IntKind.wrap .u64 (s5)))))]))
    else none)
   else none)
  else none)
 else some (s0,s4,r0)
def FB (k:Nat):Nat→Wx:=yH (fun _ _ _ _=>none) (N2 k)
abbrev WA:Type:=AC→Int→AC→Option AC
def FC (k:Nat)(rec:WA)(s0:AC)(s4:Int)(r0:AC):Option AC:=
 bif decide (s4 < (s0.length : Int)) then ((FB k k s0 s4 56 r0).bind fun z=>
  rec z.1 (zA (z.2.1+1)) z.2.2)
 else some r0
def AP (k:Nat):Nat→WA:=yH (fun _ _ _=>none) (FC k)
def N1 (k:Nat)(a0:AC):Option AC:=
 (AP k k a0 0 []).bind fun z1=>
 some z1
def N3 (k:Nat)(a0:zB):Option AC:=
 (tA k a0).bind fun x0=>
 bif !x0 then some []
 else(Cp k a0.1).bind fun x1=>
 bif (decide (0 ≤ x1)) && (decide (x1 ≤ 6)) then ((N1 k (qZ [a0.2.1,a0.2.2.1,a0.2.2.2.1,a0.2.2.2.2.1,a0.2.2.2.2.2.1,a0.2.2.2.2.2.2] 0 (x1.toNat-0))).bind fun x2=>
  bif zO (1+x2.length) 1 then some ([(IntKind.wrap .u8 (a0.1))]++x2)
  else none)
 else none
def AQ (k:Nat)(a0:Int):Option yO:=
 bif decide ((yJ .i64 a0 3)=1) then some (4,[(100,1000),(7,0)],12,20,100)
 else bif decide ((yJ .i64 a0 3)=2) then some (3,[],20,20,4)
 else bif decide ((yJ .i64 a0 3)=3) then some (3,[(100,1000),(7,0)],0,6,1)
 else some (3,[(100,1000),(7,0)],12,20,4)
def N4 (k:Nat)(a0:qA):Option tG:=
 (N3 k a0.2).bind fun x0=>
 some (1,a0.1,x0,0,0)
def VL (k:Nat):Option Bool:=
 (AQ k 0).bind fun x0=>
 (Av k x0 20000 10 []).bind fun x1=>
 bif x1.2.2.2.2.2.2.2.2.2.2.2.2.2 then ((AQ k 0).bind fun x2=>
  (JF k x2).bind fun x3=>
  (FA k (vSy x1) x3).bind fun x4=>
  bif x4 then (bif decide ((zA ((x1.1.length : Int) + (x1.2.1.length : Int))) = 0) then ((AQ k 0).bind fun x5=>
    (Av k x5 (-1) 10 []).bind fun x6=>
    some (!x6.2.2.2.2.2.2.2.2.2.2.2.2.2))
   else some false)
  else some false)
 else some false
abbrev WJ:Type:=Int×(List qA)×(Int×Int×Int×Int)×(List vJ)×(List tG)
abbrev WI:Type:=Int→List qA→Int→(Int×Int×Int×Int)→List vJ→List tG→Option WJ
def FE (k:Nat)(rec:WI)(s1:Int)(s2:List qA)(s9:Int)(b0:(Int×Int×Int×Int))(r1:List vJ)(r2:List tG):Option WJ:=
 bif decide (s9 < (s2.length : Int)) then (bif zC s9 s2.length then ((N4 k (s2.getD s9.toNat (0,0,0,0,0,0,0,0))).bind fun x1=>
   bif zO (r2.length+1) 56 then(rec s1 s2 (zA (s9+1)) b0 r1 (r2++[x1]))
   else none)
  else none)
 else some (s1,s2,b0,r1,r2)
def FD (k:Nat):Nat→WI:=yH (fun _ _ _ _ _ _=>none) (FE k)
abbrev WL:Type:=((List qA)×qVl×(List (List qA))×(List qA)×yT)⊕Bool
abbrev WK:Type:=List qA→Int→(Int×Int×Int×Int)→List vJ→qVl→List (List qA)→List qA→yT→Option WL
def FG (k:Nat)(rec:WK)(s2:List qA)(bR:Int)(b0:(Int×Int×Int×Int))(r1:List vJ)(b2:qVl)(r3:List (List qA))(r4:List qA)(b5:yT):Option WL:=
 bif decide (bR < (r4.length : Int)) then (bif zC bR r4.length then ((JC k (b0.1,r1,b0.2) b5 (r4.getD bR.toNat (0,0,0,0,0,0,0,0))).bind fun x4=>
   bif !(decide (x4.2.2=0)) then some (.inr false)
   else rec s2 (zA (bR+1)) b0 r1 b2 r3 r4 x4.1)
  else none)
 else some (.inl (s2,b2,r3,r4,b5))
def FF (k:Nat):Nat→WK:=yH (fun _ _ _ _ _ _ _ _=>none) (FG k)
def N5 (k:Nat)(a0 a1:Int)(a2:List qA):Option Bool:=
 bif decide ((a2.length:Int)>60) then some true
 else bif decide (a1<1) then some true
 else bif decide (a1>100) then some true
 else(AQ k a0).bind fun x0=>
 (FD k k a1 a2 0 (x0.1,x0.2.2) x0.2.1 []).bind fun z=>
 (Av k (z.2.2.1.1,z.2.2.2.1,z.2.2.1.2) 200000 z.1 z.2.2.2.2).bind fun x2=>
 (JF k (z.2.2.1.1,z.2.2.2.1,z.2.2.1.2)).bind fun x3=>
 (FF k k z.2.1 0 z.2.2.1 z.2.2.2.1 x2.2.2 x2.1 x2.2.1 x3).bind fun z1=>
 match z1 with
 | .inl z2 => bif z2.2.1.2.2.2.2.2.2.2.2.2.2.2 then (bif decide ((z2.2.2.1.length : Int) = (z2.1.length : Int)) then ((FA k (qW z2.2.1) z2.2.2.2.2).bind fun x5=>
    bif x5 then ((VL k).bind fun x6=>
     some x6)
    else some false)
   else some false)
  else some false
 |.inr z3=>some z3
end Go.Ab.Gi
