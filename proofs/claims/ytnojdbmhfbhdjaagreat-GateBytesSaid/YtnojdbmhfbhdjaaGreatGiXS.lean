/- part 5 -/
import Derived.Test.YtnojdbmhfbhdjaaGreatGiXSa
set_option linter.unusedVariables false
set_option maxRecDepth 100000
namespace Go.Ab.Gi
abbrev qOp:Type:=Int×Bool×(List zD)×(List zD)×(List zD)
abbrev qT3:Type:=Int→Bool→Int→List zD→List zD→List zD→Option qOp
def FY (k:Nat)(rec:qT3)(s7:Int)(s9:Bool)(av:Int)(r0 r1 r2:List zD):Option qOp:=
 cond (decide (av<r2.length)) (cond s9 (cond (zB av r2.length) (rec s7 (decide ((r2.getD av.toNat (0,0,0,0,0,0,0)).2.2.2.2.1=3)) (zA (av+1)) r0 r1 r2) none)<|rec s7 false (zA (av+1)) r0 r1 r2)<|some (s7,s9,r0,r1,r2)
def FX (k:Nat):Nat→qT3
 |0,_,_,_,_,_,_=>none
 |n+1,s7,s9,av,r0,r1,r2=>FY k (FX k n) s7 s9 av r0 r1 r2
abbrev qX9:Type:=Int→List zD→List zD→Option qZc
def FZ (k:Nat)(rec:qX9)(s7:Int)(r0 r1:List zD):Option qZc:=
 cond (decide (s7<r0.length)) (cond (zB s7 r0.length) ((uI k r0 (r0.getD s7.toNat (0,0,0,0,0,0,0)).2.1).bind fun x1=>(FX k k s7 true 0 r0 r1 x1).bind fun z=>cond (zB 0 z.2.2.2.2.length) (cond (zB z.1 z.2.2.1.length) (cond ((decide ((z.2.2.2.2.getD 0 (0,0,0,0,0,0,0)).1=(z.2.2.1.getD z.1.toNat (0,0,0,0,0,0,0)).1))&&((decide ((z.2.2.2.2.getD 0 (0,0,0,0,0,0,0)).2.1=(z.2.2.1.getD z.1.toNat (0,0,0,0,0,0,0)).2.1))&&((decide ((z.2.2.2.2.getD 0 (0,0,0,0,0,0,0)).2.2.1=(z.2.2.1.getD z.1.toNat (0,0,0,0,0,0,0)).2.2.1))&&((decide ((z.2.2.2.2.getD 0 (0,0,0,0,0,0,0)).2.2.2.1=(z.2.2.1.getD z.1.toNat (0,0,0,0,0,0,0)).2.2.2.1))&&((decide ((z.2.2.2.2.getD 0 (0,0,0,0,0,0,0)).2.2.2.2.1=(z.2.2.1.getD z.1.toNat (0,0,0,0,0,0,0)).2.2.2.2.1))&&((decide ((z.2.2.2.2.getD 0 (0,0,0,0,0,0,0)).2.2.2.2.2.1=(z.2.2.1.getD z.1.toNat (0,0,0,0,0,0,0)).2.2.2.2.2.1))&&(decide ((z.2.2.2.2.getD 0 (0,0,0,0,0,0,0)).2.2.2.2.2.2=(z.2.2.1.getD z.1.toNat (0,0,0,0,0,0,0)).2.2.2.2.2.2)))))))) (cond (zB z.1 z.2.2.1.length) (cond (zM (z.2.2.2.1.length+1) 56) (let y0:List zD:=(z.2.2.2.1++[(z.2.2.1.getD z.1.toNat (0,0,0,0,0,0,0))])
        rec (zA (z.1+1)) z.2.2.1 y0) none) none)<|cond z.2.1 (cond (zB z.1 z.2.2.1.length) (cond (zM (z.2.2.2.1.length+1) 56) (let y1:List zD:=(z.2.2.2.1++[(z.2.2.1.getD z.1.toNat (0,0,0,0,0,0,0))])
        rec (zA (z.1+1)) z.2.2.1 y1) none) none)<|rec (zA (z.1+1)) z.2.2.1 z.2.2.2.1) none) none) none)<|some r1
def Lu (k:Nat):Nat→qX9
 |0,_,_,_=>none
 |n+1,s7,r0,r1=>FZ k (Lu k n) s7 r0 r1
def Lt (k:Nat)(a0:List zD)(a1:Int):Option (List zD):=
 (FU k a0 a1).bind fun x0=>(Lu k k 0 x0 []).bind fun z1=>some z1
def PV (k:Nat)(au:List zJ)(aB:EQ)(aA:AC)(ax:EQ)(ij ct dC eE dD jb jc:Int):Option Bool:=
 cond (decide (ct≥0)) (cond (decide (ct<au.length)) (cond (decide (dC≥0)) (cond (decide (dC<au.length)) (cond (!(decide (ct=dC))) (cond (decide (eE≥1)) (cond (decide (eE≤1099511627776)) (cond (decide (dD≥1)) (some (decide (dD≤3)))<|some false)<|some false)<|some false)<|some false)<|some false)<|some false)<|some false)<|some false
abbrev qLj:Type:=List zD→Int→List zJ→EQ→AC→EQ→Option qO6
def Fo (k:Nat)(rec:qLj)(s1:List zD)(s5:Int)(af:List zJ)(ah:EQ)(aj:AC)(ag:EQ):Option qO6:=
 cond (decide (s5<s1.length)) (cond (zB s5 s1.length) ((PV k af ah aj ag (s1.getD s5.toNat (0,0,0,0,0,0,0)).1 (s1.getD s5.toNat (0,0,0,0,0,0,0)).2.1 (s1.getD s5.toNat (0,0,0,0,0,0,0)).2.2.1 (s1.getD s5.toNat (0,0,0,0,0,0,0)).2.2.2.1 (s1.getD s5.toNat (0,0,0,0,0,0,0)).2.2.2.2.1 (s1.getD s5.toNat (0,0,0,0,0,0,0)).2.2.2.2.2.1 (s1.getD s5.toNat (0,0,0,0,0,0,0)).2.2.2.2.2.2).bind fun x0=>cond (!x0) (some (.inr false))<|rec s1 (zA (s5+1)) af ah aj ag) none)<|some (.inl s1)
def K6 (k:Nat):Nat→qLj
 |0,_,_,_,_,_,_=>none
 |n+1,s1,s5,af,ah,aj,ag=>Fo k (K6 k n) s1 s5 af ah aj ag
def K5 (k:Nat)(au:List zJ)(aB:EQ)(aA:AC)(ax:EQ)(a1:List zD):Option Bool:=
 (K6 k k a1 0 au aB aA ax).bind fun z=>match z with
 |.inl z1=>some (decide ((z1.length:Int)≤64))
 |.inr z2=>some z2
abbrev qW0:Type:=EQ→Int→EQ→Option EQ
def Ff (k:Nat)(rec:qW0)(s0:EQ)(s4:Int)(m0:EQ):Option EQ:=
 cond (decide (s4<s0.length)) (cond (zB s4 s0.length) (cond (zM (0+(s0.getD s4.toNat []).length) 8) (cond (zM (m0.length+1) 24) (rec s0 (zA (s4+1)) (m0++[(s0.getD s4.toNat [])])) none) none) none)<|some m0
def KT (k:Nat):Nat→qW0
 |0,_,_,_=>none
 |n+1,s0,s4,m0=>Ff k (KT k n) s0 s4 m0
def KU (k:Nat)(a0:EQ):Option EQ:=
 (KT k k a0 0 []).bind fun z=>some z
def pn (k:Nat)(au:List zJ)(aB:EQ)(aA:AC)(ax:EQ):Option AH:=
 cond (zM (0+au.length) 24) ((KU k aB).bind fun x0=>cond (zM (0+aA.length) 8) ((KU k ax).bind fun x1=>some (au,x0,aA,x1)) none) none
abbrev yC0:Type:=List zD→Int→Int→Int→Int→Option vX
def Fu (k:Nat)(rec:yC0)(s0:List zD)(s1 s6 s7 s8:Int):Option vX:=
 cond (decide (s8<s0.length)) (cond (zB s8 s0.length) (cond (!(decide ((s0.getD s8.toNat (0,0,0,0,0,0,0)).2.1=s1))) (rec s0 s1 s6 s7 (zA (s8+1)))<|cond (zB s8 s0.length) (cond (decide ((s0.getD s8.toNat (0,0,0,0,0,0,0)).2.2.2.2.1=3)) (cond (zB s8 s0.length) (rec s0 s1 (zA (s6+(s0.getD s8.toNat (0,0,0,0,0,0,0)).2.2.2.1)) s7 (zA (s8+1))) none)<|cond (zB s8 s0.length) (rec s0 s1 s6 (zA (s7+(s0.getD s8.toNat (0,0,0,0,0,0,0)).2.2.2.1)) (zA (s8+1))) none) none) none)<|some (s6,s7)
def K9 (k:Nat):Nat→yC0
 |0,_,_,_,_,_=>none
 |n+1,s0,s1,s6,s7,s8=>Fu k (K9 k n) s0 s1 s6 s7 s8
def K8 (k:Nat)(a0:List zD)(a1:Int):Option vX:=
 (K9 k k a0 a1 0 0 0).bind fun z=>some (z.1,z.2)
def P3 (k:Nat)(a0:List zD)(a1:Int):Option Int:=
 (K8 k a0 a1).bind fun x0=>some x0.2
def La (k:Nat)(je jg fu a1:Int):Option Int:=
 cond (decide (a1≥fu)) (some 0)<|some (zA (fu-a1))
abbrev qXc:Type:=List zD→Int→Int→Int→Int→Option Int
def Ft (k:Nat)(rec:qXc)(s0:List zD)(s1 s2 s7 s8:Int):Option Int:=
 cond (decide (s8<s0.length)) (cond (zB s8 s0.length) (cond (decide ((s0.getD s8.toNat (0,0,0,0,0,0,0)).2.1=s1)) (cond (zB s8 s0.length) (cond (decide ((s0.getD s8.toNat (0,0,0,0,0,0,0)).2.2.1=s2)) (cond (zB s8 s0.length) (rec s0 s1 s2 (zA (s7+(s0.getD s8.toNat (0,0,0,0,0,0,0)).2.2.2.1)) (zA (s8+1))) none)<|rec s0 s1 s2 s7 (zA (s8+1))) none)<|rec s0 s1 s2 s7 (zA (s8+1))) none)<|some s7
def K7 (k:Nat):Nat→qXc
 |0,_,_,_,_,_=>none
 |n+1,s0,s1,s2,s7,s8=>Ft k (K7 k n) s0 s1 s2 s7 s8
def xO (k:Nat)(a0:List zD)(a1 a2:Int):Option Int:=
 (K7 k k a0 a1 a2 0 0).bind fun z=>some z
def P1 (k:Nat)(a0:List zD)(a1 a2:Int):Option Int:=
 (xO k a0 a1 a2).bind fun x0=>(xO k a0 a2 a1).bind fun x1=>some (zA (x0-x1))
abbrev qW5:Type:=EQ→Int→Int→Option (Unit⊕Bool)
def EY (k:Nat)(rec:qW5)(s0:EQ)(s1 s5:Int):Option (Unit⊕Bool):=
 cond (decide (s5<s1)) (cond (zB s5 s0.length) (cond (!(decide (((s0.getD s5.toNat []).length:Int)=s1))) (some (.inr false))<|rec s0 s1 (zA (s5+1))) none)<|some (.inl ())
def KL (k:Nat):Nat→qW5
 |0,_,_,_=>none
 |n+1,s0,s1,s5=>EY k (KL k n) s0 s1 s5
def KK (k:Nat)(a0:EQ)(a1:Int):Option Bool:=
 cond (!(decide ((a0.length:Int)=a1))) (some false)<|(KL k k a0 a1 0).bind fun z=>match z with
 |.inl z1=>some true
 |.inr z2=>some z2
def KI (k:Nat)(je jg fu:Int):Option Bool:=
 cond (decide (je>(-4611686018427387904))) (cond (decide (je<4611686018427387904)) (cond (decide (jg≥0)) (cond (decide (jg≤2305843009213693952)) (cond (decide (fu≥0)) (some (decide (fu≤2305843009213693952)))<|some false)<|some false)<|some false)<|some false)<|some false
def KJ (k:Nat)(a0:Int):Option Bool:=
 cond (decide (a0≥(-1))) (some (decide (a0≤2305843009213693952)))<|some false
abbrev qLw:Type:=(Int×Int×(List zJ)×EQ×AC×EQ)⊕Bool
abbrev qRu:Type:=Int→Int→Int→List zJ→EQ→AC→EQ→Option qLw
def E0 (k:Nat)(rec:qRu)(s3 s4 s5:Int)(af:List zJ)(ah:EQ)(aj:AC)(ag:EQ):Option qLw:=
 cond (decide (s5<s3)) (cond (zB s4 ah.length) (cond (zB s5 (ah.getD s4.toNat []).length) ((KJ k ((ah.getD s4.toNat []).getD s5.toNat 0)).bind fun x4=>cond (!x4) (some (.inr false))<|cond (zB s4 ag.length) (cond (zB s5 (ag.getD s4.toNat []).length) (cond (decide (((ag.getD s4.toNat []).getD s5.toNat 0)≤(-72057594037927936))) (some (.inr false))<|cond (zB s4 ag.length) (cond (zB s5 (ag.getD s4.toNat []).length) (cond (decide (((ag.getD s4.toNat []).getD s5.toNat 0)≥72057594037927936)) (some (.inr false))<|cond (zB s4 ag.length) (cond (zB s5 (ag.getD s4.toNat []).length) (cond (zB s5 ag.length) (cond (zB s4 (ag.getD s5.toNat []).length) (cond (!(decide (((ag.getD s4.toNat []).getD s5.toNat 0)=(zA (0-((ag.getD s5.toNat []).getD s4.toNat 0)))))) (some (.inr false))<|rec s3 s4 (zA (s5+1)) af ah aj ag) none) none) none) none) none) none) none) none) none) none)<|some (.inl (s3,s4,af,ah,aj,ag))
def EZ (k:Nat):Nat→qRu
 |0,_,_,_,_,_,_,_=>none
 |n+1,s3,s4,s5,af,ah,aj,ag=>E0 k (EZ k n) s3 s4 s5 af ah aj ag
abbrev qT0:Type:=Int→Int→List zJ→EQ→AC→EQ→Option (Unit⊕Bool)
def E2 (k:Nat)(rec:qT0)(s3 s4:Int)(af:List zJ)(ah:EQ)(aj:AC)(ag:EQ):Option (Unit⊕Bool):=
 cond (decide (s4<s3)) (cond (zB s4 af.length) ((KI k (af.getD s4.toNat (0,0,0)).1 (af.getD s4.toNat (0,0,0)).2.1 (af.getD s4.toNat (0,0,0)).2.2).bind fun x2=>cond (!x2) (some (.inr false))<|cond (zB s4 aj.length) ((KJ k (aj.getD s4.toNat 0)).bind fun x3=>cond (!x3) (some (.inr false))<|(EZ k k s3 s4 0 af ah aj ag).bind fun z=>match z with
    |.inl z1=>rec z1.1 (zA (z1.2.1+1)) z1.2.2.1 z1.2.2.2.1 z1.2.2.2.2.1 z1.2.2.2.2.2
    |.inr z2=>some (.inr z2)) none) none)<|some (.inl ())
def E1 (k:Nat):Nat→qT0
 |0,_,_,_,_,_,_=>none
 |n+1,s3,s4,af,ah,aj,ag=>E2 k (E1 k n) s3 s4 af ah aj ag
def E3 (k:Nat)(au:List zJ)(aB:EQ)(aA:AC)(ax:EQ):Option Bool:=
 cond (decide ((au.length:Int)<1)) (some false)<|cond (decide ((au.length:Int)>6)) (some false)<|(KK k aB (au.length:Int)).bind fun x0=>cond (!x0) (some false)<|(KK k ax (au.length:Int)).bind fun x1=>cond (!x1) (some false)<|cond (!(decide ((aA.length:Int)=(au.length:Int)))) (some false)<|(E1 k k (au.length:Int) 0 au aB aA ax).bind fun z3=>match z3 with
 |.inl z4=>some true
 |.inr z5=>some z5
abbrev qXp:Type:=(List zD)×Int×(List zJ)×EQ×AC×EQ×(List zJ)×EQ×AC×EQ
abbrev qWw:Type:=List zD→Int→Int→List zJ→EQ→AC→EQ→List zJ→EQ→AC→EQ→Option qXp
def Fw (k:Nat)(rec:qWw)(s1:List zD)(s7 s8:Int)(af:List zJ)(ah:EQ)(aj:AC)(ag:EQ)(r3:List zJ)(m4:EQ)(r5:AC)(m6:EQ):Option qXp:=
 cond (decide (s8<r3.length)) ((P1 k s1 s7 s8).bind fun x4=>cond (zB s7 r3.length) (cond (zB s7 r3.length) (let y1:List zJ:=(r3.set s7.toNat ((zA ((r3.getD s7.toNat (0,0,0)).1-x4)),(r3.getD s7.toNat (0,0,0)).2))
    cond (zB s7 m6.length) (cond (zB s7 m6.length) (cond (zB s8 (m6.getD s7.toNat []).length) (cond (zB s8 (m6.getD s7.toNat []).length) (let y2:EQ:=(m6.set s7.toNat ((m6.getD s7.toNat []).set s8.toNat (zA (((m6.getD s7.toNat []).getD s8.toNat 0)+x4))))
        rec s1 s7 (zA (s8+1)) af ah aj ag y1 m4 r5 y2) none) none) none) none) none) none)<|some (s1,s7,af,ah,aj,ag,r3,m4,r5,m6)
def Fv (k:Nat):Nat→qWw
 |0,_,_,_,_,_,_,_,_,_,_,_=>none
 |n+1,s1,s7,s8,af,ah,aj,ag,r3,m4,r5,m6=>Fw k (Fv k n) s1 s7 s8 af ah aj ag r3 m4 r5 m6
abbrev qM1:Type:=List zD→Int→List zJ→EQ→AC→EQ→List zJ→EQ→AC→EQ→Option qVj
def Fy (k:Nat)(rec:qM1)(s1:List zD)(s7:Int)(af:List zJ)(ah:EQ)(aj:AC)(ag:EQ)(r3:List zJ)(m4:EQ)(r5:AC)(m6:EQ):Option qVj:=
 cond (decide (s7<r3.length)) (cond (zB s7 r3.length) ((P3 k s1 s7).bind fun x2=>(La k (r3.getD s7.toNat (0,0,0)).1 (r3.getD s7.toNat (0,0,0)).2.1 (r3.getD s7.toNat (0,0,0)).2.2 x2).bind fun x3=>cond (zB s7 r3.length) (let y0:List zJ:=(r3.set s7.toNat ((r3.getD s7.toNat (0,0,0)).1,(r3.getD s7.toNat (0,0,0)).2.1,x3))
    (Fv k k s1 s7 0 af ah aj ag y0 m4 r5 m6).bind fun z=>rec z.1 (zA (z.2.1+1)) z.2.2.1 z.2.2.2.1 z.2.2.2.2.1 z.2.2.2.2.2.1 z.2.2.2.2.2.2.1 z.2.2.2.2.2.2.2.1 z.2.2.2.2.2.2.2.2.1 z.2.2.2.2.2.2.2.2.2) none) none)<|some (af,ah,aj,ag,r3,m4,r5,m6)
def Fx (k:Nat):Nat→qM1
 |0,_,_,_,_,_,_,_,_,_,_=>none
 |n+1,s1,s7,af,ah,aj,ag,r3,m4,r5,m6=>Fy k (Fx k n) s1 s7 af ah aj ag r3 m4 r5 m6
def BV (k:Nat)(au:List zJ)(aB:EQ)(aA:AC)(ax:EQ)(a1:List zD):Option ((List zJ)×EQ×AC×EQ×Int):=
 (K5 k au aB aA ax a1).bind fun x0=>cond (!x0) (some (au,aB,aA,ax,1))<|(pn k au aB aA ax).bind fun x1=>(Fx k k a1 0 au aB aA ax x1.1 x1.2.1 x1.2.2.1 x1.2.2.2).bind fun z1=>(E3 k z1.2.2.2.2.1 z1.2.2.2.2.2.1 z1.2.2.2.2.2.2.1 z1.2.2.2.2.2.2.2).bind fun x5=>cond (!x5) (some (vV z1 8))<|some (yWs z1 0)
abbrev qR1:Type:=Int→Int→Int→List zJ→EQ→AC→EQ→Option Int
def FA (k:Nat)(rec:qR1)(s1 s5 s6:Int)(af:List zJ)(ah:EQ)(aj:AC)(ag:EQ):Option Int:=
 cond (zB s1 ag.length) (cond (decide (s6<(ag.getD s1.toNat []).length)) (cond (zB s1 ag.length) (cond (zB s6 (ag.getD s1.toNat []).length) (rec s1 (zA (s5+((ag.getD s1.toNat []).getD s6.toNat 0))) (zA (s6+1)) af ah aj ag) none) none)<|some s5) none
def Fz (k:Nat):Nat→qR1
 |0,_,_,_,_,_,_,_=>none
 |n+1,s1,s5,s6,af,ah,aj,ag=>FA k (Fz k n) s1 s5 s6 af ah aj ag
def P6 (k:Nat)(au:List zJ)(aB:EQ)(aA:AC)(ax:EQ)(a1:Int):Option Int:=
 (Fz k k a1 0 0 au aB aA ax).bind fun z=>some z
abbrev qXt:Type:=(Int×Int×Int×Int×Int×(List zJ)×EQ×AC×EQ)⊕Bool
abbrev qTf:Type:=List zD→Int→Int→Int→Int→Int→Int→List zJ→EQ→AC→EQ→Option qXt
def FC (k:Nat)(rec:qTf)(s1:List zD)(s2 s7 s8 s9 av aP:Int)(af:List zJ)(ah:EQ)(aj:AC)(ag:EQ):Option qXt:=
 cond (decide (aP<af.length)) ((xO k s1 s2 aP).bind fun x2=>(xO k s1 aP s2).bind fun x3=>(xO k s1 s2 aP).bind fun x4=>cond (decide (x4>0)) (cond (zB s2 ah.length) (cond (zB aP (ah.getD s2.toNat []).length) (cond (!(decide (((ah.getD s2.toNat []).getD aP.toNat 0)=(-1)))) (cond (zB s2 ag.length) (cond (zB aP (ag.getD s2.toNat []).length) (cond (zB s2 ah.length) (cond (zB aP (ah.getD s2.toNat []).length) (cond (decide ((zA (((ag.getD s2.toNat []).getD aP.toNat 0)+(zA (x2-x3))))>((ah.getD s2.toNat []).getD aP.toNat 0))) (some (.inr true))<|rec s1 s2 s7 s8 (zA (s9-(zA (x2-x3)))) (zA (av+(zA (x2-x3)))) (zA (aP+1)) af ah aj ag) none) none) none) none)<|rec s1 s2 s7 s8 (zA (s9-(zA (x2-x3)))) (zA (av+(zA (x2-x3)))) (zA (aP+1)) af ah aj ag) none) none)<|rec s1 s2 s7 s8 (zA (s9-(zA (x2-x3)))) (zA (av+(zA (x2-x3)))) (zA (aP+1)) af ah aj ag)<|some (.inl (s2,s7,s8,s9,av,af,ah,aj,ag))
def sN (k:Nat):Nat→qTf
 |0,_,_,_,_,_,_,_,_,_,_,_=>none
 |n+1,s1,s2,s7,s8,s9,av,aP,af,ah,aj,ag=>FC k (sN k n) s1 s2 s7 s8 s9 av aP af ah aj ag
def P9 (k:Nat)(au:List zJ)(aB:EQ)(aA:AC)(ax:EQ)(a1:List zD)(a2:Int):Option Bool:=
 (K8 k a1 a2).bind fun x0=>cond (decide ((zA (x0.1+x0.2))=0)) (some false)<|cond (zB a2 au.length) (cond (zB a2 au.length) ((P6 k au aB aA ax a2).bind fun x1=>(sN k k a1 a2 x0.1 x0.2 (zA ((au.getD a2.toNat (0,0,0)).1+(au.getD a2.toNat (0,0,0)).2.1)) x1 0 au aB aA ax).bind fun z=>match z with
   |.inl z1=>cond (decide (z1.2.2.2.1<0)) (some true)<|cond (decide (z1.2.1>0)) (cond (zB z1.1 z1.2.2.2.2.2.1.length) ((La k (z1.2.2.2.2.2.1.getD z1.1.toNat (0,0,0)).1 (z1.2.2.2.2.2.1.getD z1.1.toNat (0,0,0)).2.1 (z1.2.2.2.2.2.1.getD z1.1.toNat (0,0,0)).2.2 z1.2.2.1).bind fun x5=>cond (decide (z1.2.2.2.1<x5)) (some true)<|cond (zB z1.1 z1.2.2.2.2.2.2.2.1.length) (cond (!(decide ((z1.2.2.2.2.2.2.2.1.getD z1.1.toNat 0)=(-1)))) (cond (zB z1.1 z1.2.2.2.2.2.2.2.1.length) (some (decide (z1.2.2.2.2.1>(z1.2.2.2.2.2.2.2.1.getD z1.1.toNat 0)))) none)<|some false) none) none)<|cond (zB z1.1 z1.2.2.2.2.2.2.2.1.length) (cond (!(decide ((z1.2.2.2.2.2.2.2.1.getD z1.1.toNat 0)=(-1)))) (cond (zB z1.1 z1.2.2.2.2.2.2.2.1.length) (some (decide (z1.2.2.2.2.1>(z1.2.2.2.2.2.2.2.1.getD z1.1.toNat 0)))) none)<|some false)<|none
   |.inr z2=>some z2) none) none
abbrev qXr:Type:=List zD→Int→List zJ→EQ→AC→EQ→AC→Option AC
def sQ (k:Nat)(rec:qXr)(s1:List zD)(s6:Int)(af:List zJ)(ah:EQ)(aj:AC)(ag:EQ)(r1:AC):Option AC:=
 cond (decide (s6<af.length)) ((P9 k af ah aj ag s1 s6).bind fun x0=>cond x0 (cond (zM (r1.length+1) 8) (rec s1 (zA (s6+1)) af ah aj ag (r1++[s6])) none)<|rec s1 (zA (s6+1)) af ah aj ag r1)<|some r1
def uG (k:Nat):Nat→qXr
 |0,_,_,_,_,_,_,_=>none
 |n+1,s1,s6,af,ah,aj,ag,r1=>sQ k (uG k n) s1 s6 af ah aj ag r1
def uF (k:Nat)(au:List zJ)(aB:EQ)(aA:AC)(ax:EQ)(a1:List zD):Option AC:=
 (uG k k a1 0 au aB aA ax []).bind fun z=>some z
def Ld (k:Nat)(au:List zJ)(aB:EQ)(aA:AC)(ax:EQ)(a1:List zD):Option Bool:=
 (K5 k au aB aA ax a1).bind fun x0=>cond x0 ((uF k au aB aA ax a1).bind fun x1=>some (decide ((x1.length:Int)=0)))<|some false
def vr (k:Nat)(au:List zJ)(aB:EQ)(aA:AC)(ax:EQ)(a1:List zD):Option ((List zJ)×EQ×AC×EQ×Bool):=
 (BV k au aB aA ax a1).bind fun x0=>cond (decide (x0.2.2.2.2=0)) ((Ld k au aB aA ax a1).bind fun x1=>some (vV x0 x1))<|some (vV x0 false)
abbrev qLy:Type:=zD⊕(Bool×Int×Int×Int×Int×Int×Int×Int)
abbrev qTd:Type:=Int→List zJ→EQ→AC→EQ→Int→Int→Int→Int→Int→Int→Int→List zD→Option qLy
def Ii (k:Nat)(rec:qTd)(s9:Int)(af:List zJ)(ah:EQ)(aj:AC)(ag:EQ)(aw aD aE aG aJ aK aL:Int)(r2:List zD):Option qLy:=
 cond (decide (s9<r2.length)) (cond (((decide (0≤s9))&&(decide (s9≤(zA (s9+1)))))&&(decide ((zA (s9+1))≤r2.length))) ((vr k af ah aj ag (qM r2 (0+s9.toNat) ((zA (s9+1)).toNat-s9.toNat))).bind fun x1=>cond x1.2.2.2.2 (cond (zB s9 r2.length) (some (.inr (true,(r2.getD s9.toNat (0,0,0,0,0,0,0)).1,(r2.getD s9.toNat (0,0,0,0,0,0,0)).2.1,(r2.getD s9.toNat (0,0,0,0,0,0,0)).2.2.1,(r2.getD s9.toNat (0,0,0,0,0,0,0)).2.2.2.1,(r2.getD s9.toNat (0,0,0,0,0,0,0)).2.2.2.2.1,(r2.getD s9.toNat (0,0,0,0,0,0,0)).2.2.2.2.2.1,(r2.getD s9.toNat (0,0,0,0,0,0,0)).2.2.2.2.2.2))) none)<|rec (zA (s9+1)) af ah aj ag aw aD aE aG aJ aK aL r2) none)<|some (.inl (aw,aD,aE,aG,aJ,aK,aL))
def M4 (k:Nat):Nat→qTd
 |0,_,_,_,_,_,_,_,_,_,_,_,_,_=>none
 |n+1,s9,af,ah,aj,ag,aw,aD,aE,aG,aJ,aK,aL,r2=>Ii k (M4 k n) s9 af ah aj ag aw aD aE aG aJ aK aL r2
def RF (k:Nat)(au:List zJ)(aB:EQ)(aA:AC)(ax:EQ)(a1:List zD)(a2:Int):Option (Int×Int×Int×Int×Int×Int×Int×Bool):=
 (Lt k a1 a2).bind fun x0=>(M4 k k 0 au aB aA ax 0 0 0 0 0 0 0 x0).bind fun z=>match z with
 |.inl z1=>some (0,0,0,0,0,0,0,false)
 |.inr z2=>some (yKg z2 z2.1)
abbrev qU8:Type:=List zD→Int→List zJ→EQ→AC→EQ→List zD→Option yDo
def Ij (k:Nat)(rec:qU8)(s1:List zD)(s2:Int)(af:List zJ)(ah:EQ)(aj:AC)(ag:EQ)(r2:List zD):Option yDo:=
 (RF k af ah aj ag s1 s2).bind fun x0=>cond (!x0.2.2.2.2.2.2.2) (some (s1,af,ah,aj,ag,r2))<|(vr k af ah aj ag [(vO x0)]).bind fun x1=>(ou k s1 x0.1).bind fun x2=>cond (zM (r2.length+1) 56) (let y0:List zD:=(r2++[(vO x0)])
  rec x2.1 s2 x1.1 x1.2.1 x1.2.2.1 x1.2.2.2.1 y0) none
def M5 (k:Nat):Nat→qU8
 |0,_,_,_,_,_,_,_=>none
 |n+1,s1,s2,af,ah,aj,ag,r2=>Ij k (M5 k n) s1 s2 af ah aj ag r2
def RG (k:Nat)(au:List zJ)(aB:EQ)(aA:AC)(ax:EQ)(a1:List zD)(a2:Int):Option tA:=
 (M5 k k a1 a2 au aB aA ax []).bind fun z=>some (iK z (z.1,z.2.2.2.2.2))
abbrev qRr:Type:=(Int×(List zJ)×EQ×AC×EQ×Int×Int×Int×Int×Int×Int×Int×Int×Int×Int×Int×Int×Int×Int×(List zD))⊕(Bool×Int×Int×Int×Int×Int×Int×Int×Int×Int×Int×Int×Int×Int×Int)
abbrev yEw:Type:=Int→Int→List zJ→EQ→AC→EQ→Int→Int→Int→Int→Int→Int→Int→Int→Int→Int→Int→Int→Int→Int→List zD→Option qRr
def Ik (k:Nat)(rec:yEw)(av aP:Int)(af:List zJ)(ah:EQ)(aj:AC)(ag:EQ)(aw aD aE aG aJ aK aL bc bV bW cV fw fx fy:Int)(r3:List zD):Option qRr:=
 cond (decide (aP<r3.length)) (cond (zB av r3.length) (cond (zB aP r3.length) (cond (!(decide ((r3.getD aP.toNat (0,0,0,0,0,0,0)).2.1=(r3.getD av.toNat (0,0,0,0,0,0,0)).2.2.1))) (rec av (zA (aP+1)) af ah aj ag aw aD aE aG aJ aK aL bc bV bW cV fw fx fy r3)<|cond (!(decide ((r3.getD aP.toNat (0,0,0,0,0,0,0)).2.2.1=(r3.getD av.toNat (0,0,0,0,0,0,0)).2.1))) (rec av (zA (aP+1)) af ah aj ag aw aD aE aG aJ aK aL bc bV bW cV fw fx fy r3)<|cond (decide ((r3.getD av.toNat (0,0,0,0,0,0,0)).2.1≥(r3.getD aP.toNat (0,0,0,0,0,0,0)).2.1)) (rec av (zA (aP+1)) af ah aj ag aw aD aE aG aJ aK aL bc bV bW cV fw fx fy r3)<|(vr k af ah aj ag [(r3.getD av.toNat (0,0,0,0,0,0,0)),(r3.getD aP.toNat (0,0,0,0,0,0,0))]).bind fun x1=>cond x1.2.2.2.2 (some (.inr (true,(gh (r3.getD av.toNat (0,0,0,0,0,0,0)) ((r3.getD aP.toNat (0,0,0,0,0,0,0)).1,(r3.getD aP.toNat (0,0,0,0,0,0,0)).2.1,(r3.getD aP.toNat (0,0,0,0,0,0,0)).2.2.1,(r3.getD aP.toNat (0,0,0,0,0,0,0)).2.2.2.1,(r3.getD aP.toNat (0,0,0,0,0,0,0)).2.2.2.2.1,(r3.getD aP.toNat (0,0,0,0,0,0,0)).2.2.2.2.2.1,(r3.getD aP.toNat (0,0,0,0,0,0,0)).2.2.2.2.2.2)))))<|rec av (zA (aP+1)) af ah aj ag aw aD aE aG aJ aK aL bc bV bW cV fw fx fy r3) none) none)<|some (.inl (av,af,ah,aj,ag,aw,aD,aE,aG,aJ,aK,aL,bc,bV,bW,cV,fw,fx,fy,r3))
def M7 (k:Nat):Nat→yEw
 |0,_,_,_,_,_,_,_,_,_,_,_,_,_,_,_,_,_,_,_,_,_=>none
 |n+1,av,aP,af,ah,aj,ag,aw,aD,aE,aG,aJ,aK,aL,bc,bV,bW,cV,fw,fx,fy,r3=>Ik k (M7 k n) av aP af ah aj ag aw aD aE aG aJ aK aL bc bV bW cV fw fx fy r3
abbrev qNo:Type:=(Int×Int×Int×Int×Int×Int×Int×Int×Int×Int×Int×Int×Int×Int)⊕(Bool×Int×Int×Int×Int×Int×Int×Int×Int×Int×Int×Int×Int×Int×Int)
abbrev qY4:Type:=Int→List zJ→EQ→AC→EQ→Int→Int→Int→Int→Int→Int→Int→Int→Int→Int→Int→Int→Int→Int→List zD→Option qNo
def Il (k:Nat)(rec:qY4)(av:Int)(af:List zJ)(ah:EQ)(aj:AC)(ag:EQ)(aw aD aE aG aJ aK aL bc bV bW cV fw fx fy:Int)(r3:List zD):Option qNo:=
 cond (decide (av<r3.length)) ((M7 k k av 0 af ah aj ag aw aD aE aG aJ aK aL bc bV bW cV fw fx fy r3).bind fun z=>match z with
  |.inl z1=>rec (zA (z1.1+1)) z1.2.1 z1.2.2.1 z1.2.2.2.1 z1.2.2.2.2.1 z1.2.2.2.2.2.1 z1.2.2.2.2.2.2.1 z1.2.2.2.2.2.2.2.1 z1.2.2.2.2.2.2.2.2.1 z1.2.2.2.2.2.2.2.2.2.1 z1.2.2.2.2.2.2.2.2.2.2.1 z1.2.2.2.2.2.2.2.2.2.2.2.1 z1.2.2.2.2.2.2.2.2.2.2.2.2.1 z1.2.2.2.2.2.2.2.2.2.2.2.2.2.1 z1.2.2.2.2.2.2.2.2.2.2.2.2.2.2.1 z1.2.2.2.2.2.2.2.2.2.2.2.2.2.2.2.1 z1.2.2.2.2.2.2.2.2.2.2.2.2.2.2.2.2.1 z1.2.2.2.2.2.2.2.2.2.2.2.2.2.2.2.2.2.1 z1.2.2.2.2.2.2.2.2.2.2.2.2.2.2.2.2.2.2.1 z1.2.2.2.2.2.2.2.2.2.2.2.2.2.2.2.2.2.2.2
  |.inr z2=>some (.inr (z2.1,z2.2.1,z2.2.2.1,z2.2.2.2.1,z2.2.2.2.2.1,z2.2.2.2.2.2.1,z2.2.2.2.2.2.2.1,z2.2.2.2.2.2.2.2.1,z2.2.2.2.2.2.2.2.2.1,z2.2.2.2.2.2.2.2.2.2.1,z2.2.2.2.2.2.2.2.2.2.2.1,z2.2.2.2.2.2.2.2.2.2.2.2.1,z2.2.2.2.2.2.2.2.2.2.2.2.2.1,z2.2.2.2.2.2.2.2.2.2.2.2.2.2.1,z2.2.2.2.2.2.2.2.2.2.2.2.2.2.2)))<|some (.inl (aw,aD,aE,aG,aJ,aK,aL,bc,bV,bW,cV,fw,fx,fy))
def M8 (k:Nat):Nat→qY4
 |0,_,_,_,_,_,_,_,_,_,_,_,_,_,_,_,_,_,_,_,_=>none
 |n+1,av,af,ah,aj,ag,aw,aD,aE,aG,aJ,aK,aL,bc,bV,bW,cV,fw,fx,fy,r3=>Il k (M8 k n) av af ah aj ag aw aD aE aG aJ aK aL bc bV bW cV fw fx fy r3
def RH (k:Nat)(au:List zJ)(aB:EQ)(aA:AC)(ax:EQ)(a1:List zD)(a2:Int):Option (Int×Int×Int×Int×Int×Int×Int×Int×Int×Int×Int×Int×Int×Int×Bool):=
 (Lt k a1 a2).bind fun x0=>(M8 k k 0 au aB aA ax 0 0 0 0 0 0 0 0 0 0 0 0 0 0 x0).bind fun z3=>match z3 with
 |.inl z4=>some (0,0,0,0,0,0,0,0,0,0,0,0,0,0,false)
 |.inr z5=>some (vU2 z5 z5.1)
def Im (k:Nat)(rec:qU8)(s1:List zD)(s2:Int)(af:List zJ)(ah:EQ)(aj:AC)(ag:EQ)(r2:List zD):Option yDo:=
 (RH k af ah aj ag s1 s2).bind fun x0=>cond (!x0.2.2.2.2.2.2.2.2.2.2.2.2.2.2) (some (s1,af,ah,aj,ag,r2))<|(vr k af ah aj ag [(vO x0),(qR2 x0)]).bind fun x1=>(ou k s1 x0.1).bind fun x2=>(ou k x2.1 x0.2.2.2.2.2.2.2.1).bind fun x3=>cond (zM (r2.length+2) 56) (let y0:List zD:=(r2++[(vO x0),(qR2 x0)])
  rec x3.1 s2 x1.1 x1.2.1 x1.2.2.1 x1.2.2.2.1 y0) none
def M9 (k:Nat):Nat→qU8
 |0,_,_,_,_,_,_,_=>none
 |n+1,s1,s2,af,ah,aj,ag,r2=>Im k (M9 k n) s1 s2 af ah aj ag r2
def RI (k:Nat)(au:List zJ)(aB:EQ)(aA:AC)(ax:EQ)(a1:List zD)(a2:Int):Option tA:=
 (M9 k k a1 a2 au aB aA ax []).bind fun z=>some (iK z (z.1,z.2.2.2.2.2))
def Ix (k:Nat)(rec:qU8)(s1:List zD)(s2:Int)(af:List zJ)(ah:EQ)(aj:AC)(ag:EQ)(r2:List zD):Option yDo:=
 (RG k af ah aj ag s1 s2).bind fun x0=>(RI k x0.1 x0.2.1 x0.2.2.1 x0.2.2.2.1 x0.2.2.2.2.1 s2).bind fun x1=>cond (zM (r2.length+x0.2.2.2.2.2.length) 56) (cond (zM ((r2++x0.2.2.2.2.2).length+x1.2.2.2.2.2.length) 56) (let y0:List zD:=((r2++x0.2.2.2.2.2)++x1.2.2.2.2.2)
   cond (decide ((x1.2.2.2.2.2.length:Int)=0)) (some (x1.2.2.2.2.1,(vV x1 y0)))<|rec x1.2.2.2.2.1 s2 x1.1 x1.2.1 x1.2.2.1 x1.2.2.2.1 y0) none) none
def Nc (k:Nat):Nat→qU8
 |0,_,_,_,_,_,_,_=>none
 |n+1,s1,s2,af,ah,aj,ag,r2=>Ix k (Nc k n) s1 s2 af ah aj ag r2
def Nd (k:Nat)(au:List zJ)(aB:EQ)(aA:AC)(ax:EQ)(a1:List zD)(a2:Int):Option tA:=
 (Nc k k a1 a2 au aB aA ax []).bind fun z=>some (iK z (z.1,z.2.2.2.2.2))
abbrev qYz:Type:=List zD→AC→Int→List zD→Option qZc
def Iq (k:Nat)(rec:qYz)(s0:List zD)(s1:AC)(s6:Int)(r0:List zD):Option qZc:=
 cond (decide (s6<s0.length)) (cond ((decide (0≤s6))&&(decide (s6≤s0.length))) (cond (zB s6 s0.length) ((uI k (List.take s6.toNat s0) (s0.getD s6.toNat (0,0,0,0,0,0,0)).2.1).bind fun x0=>cond (zB s6 s0.length) (cond (decide ((s0.getD s6.toNat (0,0,0,0,0,0,0)).2.1≥0)) (cond (zB s6 s0.length) (cond (decide ((s0.getD s6.toNat (0,0,0,0,0,0,0)).2.1<s1.length)) (cond (zB s6 s0.length) (cond (zB (s0.getD s6.toNat (0,0,0,0,0,0,0)).2.1 s1.length) (cond (decide ((x0.length : Int)<(s1.getD (s0.getD s6.toNat (0,0,0,0,0,0,0)).2.1.toNat 0))) (cond (zB s6 s0.length) (cond (zM (r0.length+1) 56) (let y0:List zD:=(r0++[(s0.getD s6.toNat (0,0,0,0,0,0,0))])
             rec s0 s1 (zA (s6+1)) y0) none) none)<|rec s0 s1 (zA (s6+1)) r0) none) none)<|rec s0 s1 (zA (s6+1)) r0) none)<|rec s0 s1 (zA (s6+1)) r0) none) none) none)<|some r0
def Ip (k:Nat):Nat→qYz
 |0,_,_,_,_=>none
 |n+1,s0,s1,s6,r0=>Iq k (Ip k n) s0 s1 s6 r0
def Io (k:Nat)(a0:List zD)(a1:AC):Option (List zD):=
 (Ip k k a0 a1 0 []).bind fun z=>some z
abbrev qRs:Type:=(List zJ)×EQ×AC×EQ×(List zD)×AC
abbrev yBc:Type:=Int→List zJ→EQ→AC→EQ→List zD→AC→Option qRs
def Ir (k:Nat)(rec:yBc)(av:Int)(af:List zJ)(ah:EQ)(aj:AC)(ag:EQ)(r1:List zD)(r2:AC):Option qRs:=
 cond (decide (av<af.length)) ((uI k r1 av).bind fun x1=>cond (zM (r2.length+1) 8) (rec (zA (av+1)) af ah aj ag r1 (r2++[(x1.length:Int)])) none)<|some (af,ah,aj,ag,r1,r2)
def CU (k:Nat):Nat→yBc
 |0,_,_,_,_,_,_,_=>none
 |n+1,av,af,ah,aj,ag,r1,r2=>Ir k (CU k n) av af ah aj ag r1 r2
abbrev qLn:Type:=Int×(List zJ)×EQ×AC×EQ×(List zD)×AC
abbrev yD4:Type:=Int→Int→List zJ→EQ→AC→EQ→List zD→AC→AC→Option qLn
def Iu (k:Nat)(rec:yD4)(aP bm:Int)(af:List zJ)(ah:EQ)(aj:AC)(ag:EQ)(r1:List zD)(r2 r3:AC):Option qLn:=
 cond (decide (bm<r3.length)) (cond (zB bm r3.length) (cond (zB (r3.getD bm.toNat 0) r2.length) (cond (zB (r3.getD bm.toNat 0) r2.length) (let y0:AC:=(r2.set (r3.getD bm.toNat 0).toNat (zA ((r2.getD (r3.getD bm.toNat 0).toNat 0)-1)))
     rec aP (zA (bm+1)) af ah aj ag r1 y0 r3) none) none) none)<|some (aP,af,ah,aj,ag,r1,r2)
def Is (k:Nat):Nat→yD4
 |0,_,_,_,_,_,_,_,_,_=>none
 |n+1,aP,bm,af,ah,aj,ag,r1,r2,r3=>Iu k (Is k n) aP bm af ah aj ag r1 r2 r3
abbrev qX3:Type:=Int→List zJ→EQ→AC→EQ→List zD→AC→Option (Int×AC)
def Iv (k:Nat)(rec:qX3)(aP:Int)(af:List zJ)(ah:EQ)(aj:AC)(ag:EQ)(r1:List zD)(r2:AC):Option (Int×AC):=
 (Io k r1 r2).bind fun x2=>(uF k af ah aj ag x2).bind fun x3=>cond (decide ((x3.length:Int)=0)) (some (aP,r2))<|(Is k k aP 0 af ah aj ag r1 r2 x3).bind fun z1=>rec (zA (z1.1+1)) z1.2.1 z1.2.2.1 z1.2.2.2.1 z1.2.2.2.2.1 z1.2.2.2.2.2.1 z1.2.2.2.2.2.2
def Na (k:Nat):Nat→qX3
 |0,_,_,_,_,_,_,_=>none
 |n+1,aP,af,ah,aj,ag,r1,r2=>Iv k (Na k n) aP af ah aj ag r1 r2
def RJ (k:Nat)(au:List zJ)(aB:EQ)(aA:AC)(ax:EQ)(a1:List zD)(a2:Int):Option (AC×Int):=
 (FU k a1 a2).bind fun x0=>(CU k k 0 au aB aA ax x0 []).bind fun z=>(Na k k 1 z.1 z.2.1 z.2.2.1 z.2.2.2.1 z.2.2.2.2.1 z.2.2.2.2.2).bind fun z2=>some (z2.2,z2.1)
abbrev qP5:Type:=(List zD)×(List zD)×(List zJ)×EQ×AC×EQ
abbrev yBi:Type:=List zD→Int→List zD→List zJ→EQ→AC→EQ→Option qP5
def Iw (k:Nat)(rec:yBi)(s1:List zD)(bh:Int)(r1:List zD)(bc:List zJ)(bV:EQ)(bW:AC)(cV:EQ):Option qP5:=
 cond (decide (bh<r1.length)) (cond (zB bh r1.length) ((ou k s1 (r1.getD bh.toNat (0,0,0,0,0,0,0)).1).bind fun x4=>rec x4.1 (zA (bh+1)) r1 bc bV bW cV) none)<|some (s1,r1,bc,bV,bW,cV)
def CV (k:Nat):Nat→yBi
 |0,_,_,_,_,_,_,_=>none
 |n+1,s1,bh,r1,bc,bV,bW,cV=>Iw k (CV k n) s1 bh r1 bc bV bW cV
def Nb (k:Nat)(au:List zJ)(aB:EQ)(aA:AC)(ax:EQ)(a1:List zD)(a2:Int):Option tA:=
 (RJ k au aB aA ax a1 a2).bind fun x0=>(FU k a1 a2).bind fun x1=>(Io k x1 x0.1).bind fun x2=>(BV k au aB aA ax x2).bind fun x3=>cond (!(decide (x3.2.2.2.2=0))) (some (au,aB,aA,ax,a1,[]))<|(CV k k a1 0 x2 x3.1 x3.2.1 x3.2.2.1 x3.2.2.2.1).bind fun z=>some (Cx z (z.1,z.2.1))
def RK (k:Nat)(au:List zJ)(aB:EQ)(aA:AC)(ax:EQ)(a1:List zD)(a2:Int)(a3:Bool):Option tA:=
 (Nd k au aB aA ax a1 a2).bind fun x0=>cond (!a3) (some (x0.1,x0.2.1,x0.2.2.1,x0.2.2.2.1,x0.2.2.2.2.1,x0.2.2.2.2.2))<|(Nb k x0.1 x0.2.1 x0.2.2.1 x0.2.2.2.1 x0.2.2.2.2.1 a2).bind fun x1=>cond (decide ((x1.2.2.2.2.2.length:Int)=0)) (some (x0.1,x0.2.1,x0.2.2.1,x0.2.2.2.1,x0.2.2.2.2.1,x0.2.2.2.2.2))<|(Nd k x1.1 x1.2.1 x1.2.2.1 x1.2.2.2.1 x1.2.2.2.2.1 a2).bind fun x2=>cond (zM (x0.2.2.2.2.2.length+x1.2.2.2.2.2.length) 56) (cond (zM ((x0.2.2.2.2.2++x1.2.2.2.2.2).length+x2.2.2.2.2.2.length) 56) (let y0:List zD:=((x0.2.2.2.2.2++x1.2.2.2.2.2)++x2.2.2.2.2.2)
   some (gg x2 y0)) none) none
abbrev qP9:Type:=List zD→Int→List qJ→Option qUl
def GR (k:Nat)(rec:qP9)(s0:List zD)(s4:Int)(r0:List qJ):Option qUl:=
 cond (decide (s4<s0.length)) (cond (zB s4 s0.length) ((eZ k 18 [(s0.getD s4.toNat (0,0,0,0,0,0,0)).1,(s0.getD s4.toNat (0,0,0,0,0,0,0)).2.1,(s0.getD s4.toNat (0,0,0,0,0,0,0)).2.2.1,(s0.getD s4.toNat (0,0,0,0,0,0,0)).2.2.2.1]).bind fun x0=>cond (zM (r0.length+2) 64) (let y0:List qJ:=(r0++[((s0.getD s4.toNat (0,0,0,0,0,0,0)).2.1,x0),((s0.getD s4.toNat (0,0,0,0,0,0,0)).2.2.1,x0)])
    rec s0 (zA (s4+1)) y0) none) none)<|some r0
def L7 (k:Nat):Nat→qP9
 |0,_,_,_=>none
 |n+1,s0,s4,r0=>GR k (L7 k n) s0 s4 r0
def QQ (k:Nat)(a0:List zD):Option (List qJ):=
 (L7 k k a0 0 []).bind fun z=>some z
def ow (k:Nat)(mC:Int)(rq:List zJ)(rr:EQ)(ru:AC)(rz:EQ)(rA:AC)(rC:EQ)(mD:List zD)(rD:AC)(rE:Int)(rF a1:Bool):Option Tp:=
 (RK k rq rr ru rz mD mC a1).bind fun x0=>(QQ k x0.2.2.2.2.2).bind fun x1=>some (mC,(vV x0 (rA,rC,x0.2.2.2.2.1,rD,rE,rF,x1)))
abbrev qU7:Type:=qV×yQ×(List qJ)
abbrev qXe:Type:=List zD→Int→qV→yQ→List qJ→Option qU7
def Iy (k:Nat)(rec:qXe)(s7:List zD)(s8:Int)(b0:qV)(b1:yQ)(r2:List qJ):Option qU7:=
 cond (decide (s8<s7.length)) (cond (zB s8 s7.length) (cond (zB s8 s7.length) ((eZ k 22 [(s7.getD s8.toNat (0,0,0,0,0,0,0)).1]).bind fun x1=>cond (zM (r2.length+1) 64) (let y0:List qJ:=(r2++[((s7.getD s8.toNat (0,0,0,0,0,0,0)).2.1,x1)])
     rec s7 (zA (s8+1)) b0 b1 y0) none) none) none)<|some (b0,b1,r2)
def zo (k:Nat):Nat→qXe:=qW (fun _ _ _ _ _=>none) (Iy k)
abbrev qY5:Type:=Int→qV→yQ→List qJ→Option qU7
def Iz (k:Nat)(rec:qY5)(s9:Int)(b0:qV)(b1:yQ)(r2:List qJ):Option qU7:=
 cond (decide (s9<b0.2.1.length)) (cond (zB s9 b0.2.1.length) ((eZ k 23 [(b0.2.1.getD s9.toNat (0,0,0)).1]).bind fun x2=>cond (zM (r2.length+1) 64) (rec (zA (s9+1)) b0 b1 (r2++[(s9,x2)])) none) none)<|some (b0,b1,r2)
def zp (k:Nat):Nat→qY5:=qW (fun _ _ _ _=>none) (Iz k)
abbrev qXf:Type:=yA×qV×yQ×(List qJ)
abbrev yE7:Type:=List zD→Int→yA→qV→yQ→List qJ→Option qXf
def IA (k:Nat)(rec:yE7)(s7:List zD)(av:Int)(b0:yA)(b1:qV)(b2:yQ)(r3:List qJ):Option qXf:=
 cond (decide (av<s7.length)) (cond (zB av s7.length) ((yD7 k (s7.getD av.toNat (0,0,0,0,0,0,0)).1 (s7.getD av.toNat (0,0,0,0,0,0,0)).2.1 (s7.getD av.toNat (0,0,0,0,0,0,0)).2.2.1 (s7.getD av.toNat (0,0,0,0,0,0,0)).2.2.2.1 (s7.getD av.toNat (0,0,0,0,0,0,0)).2.2.2.2.1 (s7.getD av.toNat (0,0,0,0,0,0,0)).2.2.2.2.2.1 (s7.getD av.toNat (0,0,0,0,0,0,0)).2.2.2.2.2.2 b1.1).bind fun x3=>cond x3 (cond (zB av s7.length) (cond (zB av s7.length) ((eZ k 21 [(s7.getD av.toNat (0,0,0,0,0,0,0)).1]).bind fun x4=>cond (zM (r3.length+1) 64) (let y1:List qJ:=(r3++[((s7.getD av.toNat (0,0,0,0,0,0,0)).2.1,x4)])
       cond (zB av s7.length) ((ou k b1.2.2.2.2.2.2.2.1 (s7.getD av.toNat (0,0,0,0,0,0,0)).1).bind fun x5=>rec s7 (zA (av+1)) b0 (kk b1 (x5.1,b1.2.2.2.2.2.2.2.2)) b2 y1) none) none) none) none)<|rec s7 (zA (av+1)) b0 b1 b2 r3) none)<|some (b0,b1,b2,r3)
def vt (k:Nat):Nat→yE7:=qW (fun _ _ _ _ _ _=>none) (IA k)
def IB (k:Nat)(a0:yA)(a1:qV):Option (qV×(List qJ)):=
 cond a1.2.2.2.2.2.2.2.2.2.2 (some (a1,[]))<|(RM k a0 (zA (a1.1+1))).bind fun x0=>cond x0 ((zo k k a1.2.2.2.2.2.2.2.1 0 ((zA (a1.1+1)),a1.2) (0,0,false) []).bind fun z=>(zp k k 0 z.1 z.2.1 z.2.2).bind fun z1=>some ((kk z1.1 ([],z1.1.2.2.2.2.2.2.2.2.1,z1.1.2.2.2.2.2.2.2.2.2.1,true)),z1.2.2))<|(vt k k a1.2.2.2.2.2.2.2.1 0 a0 ((zA (a1.1+1)),a1.2) (0,0,false) []).bind fun z2=>(Nf k z2.1 z2.2.1.1).bind fun x6=>(ow k z2.2.1.1 z2.2.1.2.1 z2.2.1.2.2.1 z2.2.1.2.2.2.1 z2.2.1.2.2.2.2.1 z2.2.1.2.2.2.2.2.1 z2.2.1.2.2.2.2.2.2.1 z2.2.1.2.2.2.2.2.2.2.1 z2.2.1.2.2.2.2.2.2.2.2.1 z2.2.1.2.2.2.2.2.2.2.2.2.1 z2.2.1.2.2.2.2.2.2.2.2.2.2 x6).bind fun x7=>cond (zM (z2.2.2.2.length+x7.2.2.2.2.2.2.2.2.2.2.2.length) 64) (let y2:List qJ:=(z2.2.2.2++x7.2.2.2.2.2.2.2.2.2.2.2)
  some ((qO x7),y2)) none
def vn (k:Nat)(a0:vy)(a1:Int):Option Int:=
 cond (decide (a1<0)) (some (-1))<|cond (decide (a1≥a0.1)) (some (-1))<|some a1
def Ic (k:Nat)(a0:yA)(a1 a2:Int):Option Int:=
 cond (decide (a1≥a0.2.2.2.1)) (some 7)<|cond (decide (a2=3)) (cond (decide (a1≥a0.2.2.1)) (some 7)<|some 0)<|some 0
def CP (k:Nat)(a0:yA)(a1:Int)(a2:zD):Option Int:=
 cond (decide (a2.1<1)) (some 1)<|cond (decide (a2.2.1<0)) (some 1)<|cond (decide (a2.2.1≥a0.1)) (some 1)<|cond (decide (a2.2.2.1<0)) (some 1)<|cond (decide (a2.2.2.1≥a0.1)) (some 1)<|cond (decide (a2.2.1=a2.2.2.1)) (some 1)<|cond (decide (a2.2.2.2.1<1)) (some 1)<|cond (decide (a2.2.2.2.1>1099511627776)) (some 1)<|cond (decide (a2.2.2.2.2.1<1)) (some 1)<|cond (decide (a2.2.2.2.2.1>3)) (some 1)<|cond (decide (a2.2.2.2.2.2.1<0)) (some 1)<|cond (decide (a2.2.2.2.2.2.1>a2.2.2.2.2.2.2)) (some 1)<|cond (decide (a2.2.2.2.2.2.2<a1)) (some 1)<|cond (decide (a2.2.2.2.2.2.2>1048576)) (some 1)<|(Ic k a0 a1 a2.2.2.2.2.1).bind fun x0=>some x0
def tj (k:Nat)(rec:qOd)(s0:AC)(s1 s5:Int):Option (Unit⊕Bool):=
 cond (decide (s5<s0.length)) (cond (zB s5 s0.length) (cond (decide ((s0.getD s5.toNat 0)=s1)) (some (.inr true))<|rec s0 s1 (zA (s5+1))) none)<|some (.inl ())
def th (k:Nat):Nat→qOd:=qW (fun _ _ _=>none) (tj k)
def CC (k:Nat)(a0:AC)(a1:Int):Option Bool:=
 (th k k a0 a1 0).bind fun z=>match z with
 |.inl z1=>some false
 |.inr z2=>some z2
abbrev qX6:Type:=AC→Int→Int→Option (AC×Int×Int)
def Ia (k:Nat)(rec:qX6)(s0:AC)(s1 s6:Int):Option (AC×Int×Int):=
 cond (decide (s6<s0.length)) (cond (zB s6 s0.length) (cond (decide ((s0.getD s6.toNat 0)<s1)) (rec s0 s1 (zA (s6+1)))<|some (s0,s1,s6)) none)<|some (s0,s1,s6)
def M3 (k:Nat):Nat→qX6:=qW (fun _ _ _=>none) (Ia k)
def CO (k:Nat)(a0:AC)(a1:Int):Option (AC×Int):=
 (CC k a0 a1).bind fun x0=>cond x0 (some (a0,6))<|cond (decide ((a0.length:Int)≥200)) (some (a0,3))<|(M3 k k a0 a1 0).bind fun z=>cond ((decide (0≤z.2.2))&&(decide (z.2.2≤z.1.length))) (cond (zM (0+(List.take z.2.2.toNat z.1).length) 8) (cond (zM ((List.take z.2.2.toNat z.1).length+1) 8) (cond ((decide (0≤z.2.2))&&(decide (z.2.2≤z.1.length))) (cond (zM (((List.take z.2.2.toNat z.1)++[z.2.1]).length+(List.drop z.2.2.toNat z.1).length) 8) (let y0:AC:=(((List.take z.2.2.toNat z.1)++[z.2.1])++(List.drop z.2.2.toNat z.1))
      some (y0,0)) none) none) none) none) none
def HI (k:Nat)(cf bj bB cw bN ca bR ij ct dC eE dD jb jc:Int):Option Bool:=
 cond (decide (bj<ct)) (some true)<|cond (decide (bj=ct)) (some (decide (bN≤dD)))<|some false
abbrev qO1:Type:=List zD→Int→Int→Int→Int→Int→Int→Int→Int→Option Int
def H8 (k:Nat)(rec:qO1)(s0:List zD)(s5 af ah aj ag ba bp bq:Int):Option Int:=
 cond (decide (s5<s0.length)) (cond (zB s5 s0.length) ((HI k (s0.getD s5.toNat (0,0,0,0,0,0,0)).1 (s0.getD s5.toNat (0,0,0,0,0,0,0)).2.1 (s0.getD s5.toNat (0,0,0,0,0,0,0)).2.2.1 (s0.getD s5.toNat (0,0,0,0,0,0,0)).2.2.2.1 (s0.getD s5.toNat (0,0,0,0,0,0,0)).2.2.2.2.1 (s0.getD s5.toNat (0,0,0,0,0,0,0)).2.2.2.2.2.1 (s0.getD s5.toNat (0,0,0,0,0,0,0)).2.2.2.2.2.2 af ah aj ag ba bp bq).bind fun x0=>cond x0 (rec s0 (zA (s5+1)) af ah aj ag ba bp bq)<|some s5) none)<|some s5
def H7 (k:Nat):Nat→qO1
 |0,_,_,_,_,_,_,_,_,_=>none
 |n+1,s0,s5,af,ah,aj,ag,ba,bp,bq=>H8 k (H7 k n) s0 s5 af ah aj ag ba bp bq
def H6 (k:Nat)(a0:List zD)(ij ct dC eE dD jb jc:Int):Option Int:=
 (H7 k k a0 0 ij ct dC eE dD jb jc).bind fun z=>some z
def CM (k:Nat)(a0:List zD)(a1 agt agu agv agw agx agy agz:Int):Option (List zD):=
 cond ((decide (0≤a1))&&(decide (a1≤a0.length))) (cond (zM (0+(List.take a1.toNat a0).length) 56) (cond (zM ((List.take a1.toNat a0).length+1) 56) (let y0:List zD:=((List.take a1.toNat a0)++[(agt,agu,agv,agw,agx,agy,agz)])
    cond ((decide (0≤a1))&&(decide (a1≤a0.length))) (cond (zM (y0.length+(List.drop a1.toNat a0).length) 56) (some (y0++(List.drop a1.toNat a0))) none) none) none) none) none
def CN (k:Nat)(a0:List zD)(ij ct dC eE dD jb jc:Int):Option ((List zD)×Int):=
 (mq k a0 ij).bind fun x0=>cond (decide (x0≥0)) (some (a0,6))<|cond (decide ((a0.length:Int)≥40)) (some (a0,3))<|(H6 k a0 ij ct dC eE dD jb jc).bind fun x1=>(CM k a0 x1 ij ct dC eE dD jb jc).bind fun x2=>some (x2,0)
def RA (k:Nat)(a0:rG)(a1:NT):Option (Int×vy):=
 (vn k (yH a0 ([],a0.2.2.2.2.2.2.2.2.2.2.2.2.2.2.2.2.2)) a1.2.1).bind fun x0=>cond (decide (a1.2.2.2.1≥1)) (cond (decide (a1.2.2.2.1≤3)) ((CP k (qZ a0) a0.2.2.2.2.2.1 (a1.1,a0.2.2.2.2.2.2.2.2.2.2.2.2.2.2.2.2.1,x0,a1.2.2)).bind fun x1=>cond (!(decide (x1=0))) (some (x1,(yH a0 ([],a0.2.2.2.2.2.2.2.2.2.2.2.2.2.2.2.2.2))))<|(CO k a0.2.2.2.2.2.2.2.2.2.2.2.2.2.1 a1.1).bind fun x2=>cond (!(decide (x2.2=0))) (some (x2.2,(yH a0 ([],a0.2.2.2.2.2.2.2.2.2.2.2.2.2.2.2.2.2))))<|(CN k a0.2.2.2.2.2.2.2.2.2.2.2.2.1 a1.1 a0.2.2.2.2.2.2.2.2.2.2.2.2.2.2.2.2.1 x0 a1.2.2.1 a1.2.2.2.1 a1.2.2.2.2.1 a1.2.2.2.2.2).bind fun x3=>cond (!(decide (x3.2=0))) (some (x3.2,(yH a0 ([],a0.2.2.2.2.2.2.2.2.2.2.2.2.2.2.2.2.2))))<|some (0,(kt a0 (x3.1,x2.1,a0.2.2.2.2.2.2.2.2.2.2.2.2.2.2.1,a0.2.2.2.2.2.2.2.2.2.2.2.2.2.2.2.1,a0.2.2.2.2.2.2.2.2.2.2.2.2.2.2.2.2.1,[],a1.1))))<|(CP k (qZ a0) a0.2.2.2.2.2.1 (a1.1,a0.2.2.2.2.2.2.2.2.2.2.2.2.2.2.2.2.1,x0,a1.2.2.1,0,a1.2.2.2.2)).bind fun x4=>cond (!(decide (x4=0))) (some (x4,(yH a0 ([],a0.2.2.2.2.2.2.2.2.2.2.2.2.2.2.2.2.2))))<|(CO k a0.2.2.2.2.2.2.2.2.2.2.2.2.2.1 a1.1).bind fun x5=>cond (!(decide (x5.2=0))) (some (x5.2,(yH a0 ([],a0.2.2.2.2.2.2.2.2.2.2.2.2.2.2.2.2.2))))<|(CN k a0.2.2.2.2.2.2.2.2.2.2.2.2.1 a1.1 a0.2.2.2.2.2.2.2.2.2.2.2.2.2.2.2.2.1 x0 a1.2.2.1 0 a1.2.2.2.2.1 a1.2.2.2.2.2).bind fun x6=>cond (!(decide (x6.2=0))) (some (x6.2,(yH a0 ([],a0.2.2.2.2.2.2.2.2.2.2.2.2.2.2.2.2.2))))<|some (0,(kt a0 (x6.1,x5.1,a0.2.2.2.2.2.2.2.2.2.2.2.2.2.2.1,a0.2.2.2.2.2.2.2.2.2.2.2.2.2.2.2.1,a0.2.2.2.2.2.2.2.2.2.2.2.2.2.2.2.2.1,[],a1.1))))<|(CP k (qZ a0) a0.2.2.2.2.2.1 (a1.1,a0.2.2.2.2.2.2.2.2.2.2.2.2.2.2.2.2.1,x0,a1.2.2.1,0,a1.2.2.2.2)).bind fun x7=>cond (!(decide (x7=0))) (some (x7,(yH a0 ([],a0.2.2.2.2.2.2.2.2.2.2.2.2.2.2.2.2.2))))<|(CO k a0.2.2.2.2.2.2.2.2.2.2.2.2.2.1 a1.1).bind fun x8=>cond (!(decide (x8.2=0))) (some (x8.2,(yH a0 ([],a0.2.2.2.2.2.2.2.2.2.2.2.2.2.2.2.2.2))))<|(CN k a0.2.2.2.2.2.2.2.2.2.2.2.2.1 a1.1 a0.2.2.2.2.2.2.2.2.2.2.2.2.2.2.2.2.1 x0 a1.2.2.1 0 a1.2.2.2.2.1 a1.2.2.2.2.2).bind fun x9=>cond (!(decide (x9.2=0))) (some (x9.2,(yH a0 ([],a0.2.2.2.2.2.2.2.2.2.2.2.2.2.2.2.2.2))))<|some (0,(kt a0 (x9.1,x8.1,a0.2.2.2.2.2.2.2.2.2.2.2.2.2.2.1,a0.2.2.2.2.2.2.2.2.2.2.2.2.2.2.2.1,a0.2.2.2.2.2.2.2.2.2.2.2.2.2.2.2.2.1,[],a1.1)))
def yTz (k:Nat)(a0:vy)(a1:Int):Option (zD×Bool):=
 (mq k a0.2.2.2.2.2.2.2.2.2.2.2.2.1 a1).bind fun x0=>cond (decide (x0<0)) (some ((0,0,0,0,0,0,0),false))<|cond (zB x0 a0.2.2.2.2.2.2.2.2.2.2.2.2.1.length) (cond (!(decide ((a0.2.2.2.2.2.2.2.2.2.2.2.2.1.getD x0.toNat (0,0,0,0,0,0,0)).2.1=a0.2.2.2.2.2.2.2.2.2.2.2.2.2.2.2.2.1))) (some ((0,0,0,0,0,0,0),false))<|cond (zB x0 a0.2.2.2.2.2.2.2.2.2.2.2.2.1.length) (some ((a0.2.2.2.2.2.2.2.2.2.2.2.2.1.getD x0.toNat (0,0,0,0,0,0,0)),true)) none) none
def H9 (k:Nat)(rec:qUh)(s6:List zD)(s9:Int)(b0:zD):Option yBj:=
 cond (decide (s9<s6.length)) (cond (zB s9 s6.length) ((HI k b0.1 b0.2.1 b0.2.2.1 b0.2.2.2.1 b0.2.2.2.2.1 b0.2.2.2.2.2.1 b0.2.2.2.2.2.2 (s6.getD s9.toNat (0,0,0,0,0,0,0)).1 (s6.getD s9.toNat (0,0,0,0,0,0,0)).2.1 (s6.getD s9.toNat (0,0,0,0,0,0,0)).2.2.1 (s6.getD s9.toNat (0,0,0,0,0,0,0)).2.2.2.1 (s6.getD s9.toNat (0,0,0,0,0,0,0)).2.2.2.2.1 (s6.getD s9.toNat (0,0,0,0,0,0,0)).2.2.2.2.2.1 (s6.getD s9.toNat (0,0,0,0,0,0,0)).2.2.2.2.2.2).bind fun x1=>cond (!x1) (rec s6 (zA (s9+1)) b0)<|some (s6,s9,b0)) none)<|some (s6,s9,b0)
def MZ (k:Nat):Nat→qUh:=qW (fun _ _ _=>none) (H9 k)
def MX (k:Nat)(a0:List zD)(a1:Int):Option ((List zD)×Int):=
 (ou k a0 a1).bind fun x0=>cond (!(decide (x0.2.2.2.2.2.2.2.2=0))) (some (a0,x0.2.2.2.2.2.2.2.2))<|(MZ k k x0.1 0 (Sv x0)).bind fun z=>(CM k z.1 z.2.1 z.2.2.1 z.2.2.2.1 z.2.2.2.2.1 z.2.2.2.2.2.1 z.2.2.2.2.2.2.1 z.2.2.2.2.2.2.2.1 z.2.2.2.2.2.2.2.2).bind fun x2=>some (x2,0)
def MW (k:Nat)(a0:List zD)(a1:Int):Option ((List zD)×Int):=
 (ou k a0 a1).bind fun x0=>cond (!(decide (x0.2.2.2.2.2.2.2.2=0))) (some (a0,x0.2.2.2.2.2.2.2.2))<|(H6 k x0.1 x0.2.1 x0.2.2.1 x0.2.2.2.1 x0.2.2.2.2.1 x0.2.2.2.2.2.1 x0.2.2.2.2.2.2.1 x0.2.2.2.2.2.2.2.1).bind fun x1=>(CM k x0.1 x1 x0.2.1 x0.2.2.1 x0.2.2.2.1 x0.2.2.2.2.1 x0.2.2.2.2.2.1 x0.2.2.2.2.2.2.1 x0.2.2.2.2.2.2.2.1).bind fun x2=>some (x2,0)
def MV (k:Nat)(a0:List zD)(a1 a2:Int):Option ((List zD)×Int):=
 (ou k a0 a1).bind fun x0=>cond (!(decide (x0.2.2.2.2.2.2.2.2=0))) (some (a0,x0.2.2.2.2.2.2.2.2))<|(H6 k x0.1 x0.2.1 x0.2.2.1 x0.2.2.2.1 x0.2.2.2.2.1 a2 x0.2.2.2.2.2.2.1 x0.2.2.2.2.2.2.2.1).bind fun x1=>(CM k x0.1 x1 x0.2.1 x0.2.2.1 x0.2.2.2.1 x0.2.2.2.2.1 a2 x0.2.2.2.2.2.2.1 x0.2.2.2.2.2.2.2.1).bind fun x2=>some (x2,0)
def CR (k:Nat)(a0:rG)(a1:Int)(a2:NT):Option (Int×vy):=
 (yTz k (yH a0 ([],a0.2.2.2.2.2.2.2.2.2.2.2.2.2.2.2.2.2)) a2.1).bind fun x0=>cond (!x0.2) (some (4,(yH a0 ([],a0.2.2.2.2.2.2.2.2.2.2.2.2.2.2.2.2.2))))<|cond (decide (a1=2)) ((ou k a0.2.2.2.2.2.2.2.2.2.2.2.2.1 a2.1).bind fun x1=>(eZ k 20 [a2.1]).bind fun x2=>some (0,(kt a0 (x1.1,(Tq a0 ([(a0.2.2.2.2.2.2.2.2.2.2.2.2.2.2.2.2.1,x2)],a0.2.2.2.2.2.2.2.2.2.2.2.2.2.2.2.2.2))))))<|cond (decide (a1=3)) (cond (decide (a2.2.1=0)) ((MX k a0.2.2.2.2.2.2.2.2.2.2.2.2.1 a2.1).bind fun x3=>some (0,(kt a0 (x3.1,(Tq a0 ([],a0.2.2.2.2.2.2.2.2.2.2.2.2.2.2.2.2.2))))))<|cond (decide (a2.2.1=1)) ((MW k a0.2.2.2.2.2.2.2.2.2.2.2.2.1 a2.1).bind fun x4=>some (0,(kt a0 (x4.1,(Tq a0 ([],a0.2.2.2.2.2.2.2.2.2.2.2.2.2.2.2.2.2))))))<|some (1,(yH a0 ([],a0.2.2.2.2.2.2.2.2.2.2.2.2.2.2.2.2.2))))<|cond (decide (a2.2.1<1)) (some (1,(yH a0 ([],a0.2.2.2.2.2.2.2.2.2.2.2.2.2.2.2.2.2))))<|cond (decide (a2.2.1>3)) (some (1,(yH a0 ([],a0.2.2.2.2.2.2.2.2.2.2.2.2.2.2.2.2.2))))<|(Ic k (qZ a0) a0.2.2.2.2.2.1 a2.2.1).bind fun x5=>cond (!(decide (x5=0))) (some (x5,(yH a0 ([],a0.2.2.2.2.2.2.2.2.2.2.2.2.2.2.2.2.2))))<|(MV k a0.2.2.2.2.2.2.2.2.2.2.2.2.1 a2.1 a2.2.1).bind fun x6=>some (0,(kt a0 (x6.1,(Tq a0 ([],a0.2.2.2.2.2.2.2.2.2.2.2.2.2.2.2.2.2)))))
def CT (k:Nat)(a0:rG)(a1:Int)(a2:NT):Option (Int×vy):=
 (pn k a0.2.2.2.2.2.2.1 a0.2.2.2.2.2.2.2.1 a0.2.2.2.2.2.2.2.2.1 a0.2.2.2.2.2.2.2.2.2.1).bind fun x0=>cond (decide (a1=5)) ((vn k (yH a0 ([],a0.2.2.2.2.2.2.2.2.2.2.2.2.2.2.2.2.2)) a2.1).bind fun x1=>cond (decide (x1<0)) (some (1,(yH a0 ([],a0.2.2.2.2.2.2.2.2.2.2.2.2.2.2.2.2.2))))<|cond (decide (x1=a0.2.2.2.2.2.2.2.2.2.2.2.2.2.2.2.2.1)) (some (1,(yH a0 ([],a0.2.2.2.2.2.2.2.2.2.2.2.2.2.2.2.2.2))))<|cond (decide (a2.2.1<(-1))) (some (1,(yH a0 ([],a0.2.2.2.2.2.2.2.2.2.2.2.2.2.2.2.2.2))))<|cond (decide (a2.2.1>1152921504606846976)) (some (1,(yH a0 ([],a0.2.2.2.2.2.2.2.2.2.2.2.2.2.2.2.2.2))))<|cond (zB a0.2.2.2.2.2.2.2.2.2.2.2.2.2.2.2.2.1 x0.2.1.length) (cond (zB x1 (x0.2.1.getD a0.2.2.2.2.2.2.2.2.2.2.2.2.2.2.2.2.1.toNat []).length) (let y0:EQ:=(x0.2.1.set a0.2.2.2.2.2.2.2.2.2.2.2.2.2.2.2.2.1.toNat ((x0.2.1.getD a0.2.2.2.2.2.2.2.2.2.2.2.2.2.2.2.2.1.toNat []).set x1.toNat a2.2.1))
    some (0,(jH a0 (x0.1,y0,x0.2.2.1,x0.2.2.2,(qXx a0 ([],a0.2.2.2.2.2.2.2.2.2.2.2.2.2.2.2.2.2)))))) none) none)<|cond (decide (a1=6)) (cond (decide (a2.1<(-1))) (some (1,(yH a0 ([],a0.2.2.2.2.2.2.2.2.2.2.2.2.2.2.2.2.2))))<|cond (decide (a2.1>1152921504606846976)) (some (1,(yH a0 ([],a0.2.2.2.2.2.2.2.2.2.2.2.2.2.2.2.2.2))))<|cond (zB a0.2.2.2.2.2.2.2.2.2.2.2.2.2.2.2.2.1 x0.2.2.1.length) (let y1:AC:=(x0.2.2.1.set a0.2.2.2.2.2.2.2.2.2.2.2.2.2.2.2.2.1.toNat a2.1)
   some (0,(jH a0 (x0.1,x0.2.1,y1,x0.2.2.2,(qXx a0 ([],a0.2.2.2.2.2.2.2.2.2.2.2.2.2.2.2.2.2)))))) none)<|cond (decide (a2.1<0)) (some (1,(yH a0 ([],a0.2.2.2.2.2.2.2.2.2.2.2.2.2.2.2.2.2))))<|cond (decide (a2.1>1152921504606846976)) (some (1,(yH a0 ([],a0.2.2.2.2.2.2.2.2.2.2.2.2.2.2.2.2.2))))<|cond (zB a0.2.2.2.2.2.2.2.2.2.2.2.2.2.2.2.2.1 x0.1.length) (let y2:List zJ:=(x0.1.set a0.2.2.2.2.2.2.2.2.2.2.2.2.2.2.2.2.1.toNat ((x0.1.getD a0.2.2.2.2.2.2.2.2.2.2.2.2.2.2.2.2.1.toNat (0,0,0)).1,(x0.1.getD a0.2.2.2.2.2.2.2.2.2.2.2.2.2.2.2.2.1.toNat (0,0,0)).2.1,a2.1))
  some (0,(jH a0 (y2,x0.2.1,x0.2.2.1,x0.2.2.2,(qXx a0 ([],a0.2.2.2.2.2.2.2.2.2.2.2.2.2.2.2.2.2)))))) none
def vp (k:Nat)(a0:AC)(a1 a2:Int):Option AC:=
 cond (zM (0+a0.length) 8) (cond (decide (a1≥0)) (cond (decide (a1<a0.length)) (cond (zB a1 a0.length) (some (a0.set a1.toNat a2)) none)<|some a0)<|some a0) none
def Rl (k:Nat)(a0:Int):Option AC:=
 some [(yP .i64 a0 65535),(yP .i64 (shr .i64 a0 16) 65535),(yP .i64 (shr .i64 a0 32) 65535),(yP .i64 (shr .i64 a0 48) 65535)]
def vIo (k:Nat)(rec:Int→AC→Option AC)(s3:Int)(r0:AC):Option AC:=
 cond (decide ((zA (s3+1))<r0.length)) (cond (zB (zA (s3+1)) r0.length) (cond (zB s3 r0.length) (cond (zB (zA (s3+1)) r0.length) (let y0:AC:=(r0.set (zA (s3+1)).toNat (zA ((r0.getD (zA (s3+1)).toNat 0)+(shr .i64 (r0.getD s3.toNat 0) 16))))
     cond (zB s3 y0.length) (cond (zB s3 y0.length) (rec (zA (s3+1)) (y0.set s3.toNat (yP .i64 (y0.getD s3.toNat 0) 65535))) none) none) none) none) none)<|some r0
def qXh (k:Nat):Nat→Int→AC→Option AC:=qW (fun _ _=>none) (vIo k)
def Hk (k:Nat)(a0:AC):Option AC:=
 (qXh k k 0 a0).bind fun z=>some z
abbrev qS7:Type:=Int×Int×AC×AC
abbrev qSd:Type:=Int→Int→Int→AC→AC→Option qS7
def yPe (k:Nat)(rec:qSd)(s1 s7 s8:Int)(r0 r1:AC):Option qS7:=
 cond (decide (s8<4)) (cond (!(decide ((IntKind.wrap .u64 ((zA (16 * s8))))<0))) (cond (zB (zA (s7+s8)) r1.length) (cond (zB s7 r0.length) (cond (zB (zA (s7+s8)) r1.length) (let y0:AC:=(r1.set (zA (s7+s8)).toNat (zA ((r1.getD (zA (s7+s8)).toNat 0)+(zA ((r0.getD s7.toNat 0)*(yP .i64 (shr .i64 s1 (IntKind.wrap .u64 ((zA (16*s8))))) 65535))))))
      rec s1 s7 (zA (s8+1)) r0 y0) none) none) none) none)<|some (s1,s7,r0,r1)
def qVs (k:Nat):Nat→qSd:=qW (fun _ _ _ _ _=>none) (yPe k)
abbrev qUv:Type:=Int→Int→AC→AC→Option AC
def yL0 (k:Nat)(rec:qUv)(s1 s7:Int)(r0 r1:AC):Option AC:=
 cond (decide (s7<4)) ((qVs k k s1 s7 0 r0 r1).bind fun z=>rec z.1 (zA (z.2.1+1)) z.2.2.1 z.2.2.2)<|some r1
def Rj (k:Nat):Nat→qUv:=qW (fun _ _ _ _=>none) (yL0 k)
def Rk (k:Nat)(a0 a1:Int):Option AC:=
 (Rl k a0).bind fun x0=>(Rj k k a1 0 x0 [0,0,0,0,0,0,0,0,0]).bind fun z1=>(Hk k z1).bind fun x1=>some x1
def vIr (k:Nat)(rec:Int→Int→AC→Option AC)(s1 s5:Int)(r0:AC):Option AC:=
 cond (decide (s5<r0.length)) (cond (zB s5 r0.length) (cond (zB s5 r0.length) (rec s1 (zA (s5+1)) (r0.set s5.toNat (zA ((r0.getD s5.toNat 0)*s1)))) none) none)<|some r0
def Q8 (k:Nat):Nat→Int→Int→AC→Option AC:=qW (fun _ _ _=>none) (vIr k)
def Q7 (k:Nat)(a0:AC)(a1:Int):Option AC:=
 (Q8 k k a1 0 a0).bind fun z=>(Hk k z).bind fun x0=>some x0
def vB0 (k:Nat)(rec:qVd)(s1 s6 s7:Int)(r0:AC):Option AC:=
 cond (decide (s7≥0)) (cond (zB s7 r0.length) (cond (!(decide (s1=0))) (cond (zB s7 r0.length) (let y0:AC:=(r0.set s7.toNat (zA (Int.tdiv (zA ((shl .i64 s6 16)+(r0.getD s7.toNat 0))) s1)))
     cond (!(decide (s1=0))) (rec s1 (Int.tmod (zA ((shl .i64 s6 16)+(r0.getD s7.toNat 0))) s1) (zA (s7-1)) y0) none) none) none) none)<|some r0
def Mo (k:Nat):Nat→qVd:=qW (fun _ _ _ _=>none) (vB0 k)
abbrev qVl:Type:=Int→AC→Option (AC⊕fa)
def vA0 (k:Nat)(rec:qVl)(s9:Int)(r0:AC):Option (AC⊕fa):=
 cond (decide (s9<r0.length)) (cond (zB s9 r0.length) (cond (!(decide ((r0.getD s9.toNat 0)=0))) (some (.inr (0,false)))<|rec (zA (s9+1)) r0) none)<|some (.inl r0)
def HG (k:Nat):Nat→qVl:=qW (fun _ _=>none) (vA0 k)
def Ri (k:Nat)(a0:AC)(a1:Int):Option fa:=
 (Mo k k a1 0 (zA ((a0.length:Int)-1)) a0).bind fun z=>(HG k k 4 z).bind fun z1=>match z1 with
 | .inl z2=>cond (zB 3 z2.length) (cond (decide ((z2.getD 3 0)≥32768)) (some (0,false))<|cond (zB 3 z2.length) (cond (zB 2 z2.length) (cond (zB 1 z2.length) (cond (zB 0 z2.length) (some ((wR .i64 (wR .i64 (wR .i64 (shl .i64 (z2.getD 3 0) 48) (shl .i64 (z2.getD 2 0) 32)) (shl .i64 (z2.getD 1 0) 16)) (z2.getD 0 0)),true)) none) none) none) none)<|none
 |.inr z3=>some (z3.1,z3.2)
def Rq (k:Nat)(a0 a1 a2:Int):Option fa:=
 cond (decide (a0<0)) (some (0,false))<|cond (decide (a1<0)) (some (0,false))<|cond (decide (a2<0)) (some (0,false))<|cond (decide (a2>10000)) (some (0,false))<|(Rk k a0 a1).bind fun x0=>(Q7 k x0 (zA (10000-a2))).bind fun x1=>(Ri k x1 10000).bind fun x2=>some (x2.1,x2.2)
def HJ (k:Nat)(a0 a1:Int):Option fa:=
 cond (decide (a1>0)) (cond (decide (a0>(zA (9223372036854775807-a1)))) (some (0,false))<|cond (decide (a1<0)) (cond (decide (a0<(zA ((-9223372036854775808)-a1)))) (some (0,false))<|some ((zA (a0+a1)),true))<|some ((zA (a0+a1)),true))<|cond (decide (a1<0)) (cond (decide (a0<(zA ((-9223372036854775808)-a1)))) (some (0,false))<|some ((zA (a0+a1)),true))<|some ((zA (a0+a1)),true)
abbrev qQ2:Type:=List vX→AC→AC→Int→Int→Option (Int⊕fa)
def HK (k:Nat)(rec:qQ2)(s0:List vX)(s1 s2:AC)(s8 s9:Int):Option (Int⊕fa):=
 cond (decide (s9<s0.length)) (cond (zB s9 s1.length) (cond (zB s9 s2.length) (cond (zB s9 s0.length) ((Rq k (s1.getD s9.toNat 0) (s2.getD s9.toNat 0) (s0.getD s9.toNat (0,0)).2).bind fun x0=>(HJ k s8 x0.1).bind fun x1=>cond (!x0.2) (some (.inr (0,false)))<|cond (!x1.2) (some (.inr (0,false)))<|rec s0 s1 s2 x1.1 (zA (s9+1))) none) none) none)<|some (.inl s8)
def MD (k:Nat):Nat→qQ2:=qW (fun _ _ _ _ _=>none) (HK k)
def zc (k:Nat)(a0:List vX)(a1 a2:AC):Option fa:=
 cond (!(decide ((a1.length:Int)=(a0.length:Int)))) (some (0,false))<|cond (!(decide ((a2.length:Int)=(a0.length:Int)))) (some (0,false))<|(MD k k a0 a1 a2 0 0).bind fun z=>match z with
 |.inl z1=>some (z1,true)
 |.inr z2=>some (z2.1,z2.2)
def RB (k:Nat)(a0:rG)(a1 a2:Int):Option (Int×vy):=
 cond (decide (a1<0)) (some (1,(yH a0 ([],a0.2.2.2.2.2.2.2.2.2.2.2.2.2.2.2.2.2))))<|cond (decide (a1≥a0.2.1.length)) (some (1,(yH a0 ([],a0.2.2.2.2.2.2.2.2.2.2.2.2.2.2.2.2.2))))<|cond (decide (a2<0)) (some (1,(yH a0 ([],a0.2.2.2.2.2.2.2.2.2.2.2.2.2.2.2.2.2))))<|cond (decide (a2>1099511627776)) (some (1,(yH a0 ([],a0.2.2.2.2.2.2.2.2.2.2.2.2.2.2.2.2.2))))<|cond (zB a0.2.2.2.2.2.2.2.2.2.2.2.2.2.2.2.2.1 a0.2.2.2.2.2.2.2.2.2.2.2.1.length) ((vp k (a0.2.2.2.2.2.2.2.2.2.2.2.1.getD a0.2.2.2.2.2.2.2.2.2.2.2.2.2.2.2.2.1.toNat []) a1 a2).bind fun x0=>(zc k a0.2.1 a0.2.2.2.2.2.2.2.2.2.2.1 x0).bind fun x1=>cond (!x1.2) (some (8,(yH a0 ([],a0.2.2.2.2.2.2.2.2.2.2.2.2.2.2.2.2.2))))<|cond (decide (x1.1>1152921504606846976)) (some (8,(yH a0 ([],a0.2.2.2.2.2.2.2.2.2.2.2.2.2.2.2.2.2))))<|(pn k a0.2.2.2.2.2.2.1 a0.2.2.2.2.2.2.2.1 a0.2.2.2.2.2.2.2.2.1 a0.2.2.2.2.2.2.2.2.2.1).bind fun x2=>cond (zB a0.2.2.2.2.2.2.2.2.2.2.2.2.2.2.2.2.1 x2.1.length) (cond (decide (x1.1<(x2.1.getD a0.2.2.2.2.2.2.2.2.2.2.2.2.2.2.2.2.1.toNat (0,0,0)).2.1)) (cond (decide ((zA ((x2.1.getD a0.2.2.2.2.2.2.2.2.2.2.2.2.2.2.2.2.1.toNat (0,0,0)).1+x1.1))<0)) (some (9,(yH a0 ([],a0.2.2.2.2.2.2.2.2.2.2.2.2.2.2.2.2.2))))<|cond (zB a0.2.2.2.2.2.2.2.2.2.2.2.2.2.2.2.2.1 x2.1.length) (let y0:List zJ:=(x2.1.set a0.2.2.2.2.2.2.2.2.2.2.2.2.2.2.2.2.1.toNat ((x2.1.getD a0.2.2.2.2.2.2.2.2.2.2.2.2.2.2.2.2.1.toNat (0,0,0)).1,x1.1,(x2.1.getD a0.2.2.2.2.2.2.2.2.2.2.2.2.2.2.2.2.1.toNat (0,0,0)).2.2))
     cond (zM (0+a0.2.2.2.2.2.2.2.2.2.2.2.1.length) 24) (cond (zB a0.2.2.2.2.2.2.2.2.2.2.2.2.2.2.2.2.1 a0.2.2.2.2.2.2.2.2.2.2.2.1.length) (let y1:EQ:=(a0.2.2.2.2.2.2.2.2.2.2.2.1.set a0.2.2.2.2.2.2.2.2.2.2.2.2.2.2.2.2.1.toNat x0)
       some (0,(jH a0 (y0,x2.2.1,x2.2.2.1,x2.2.2.2,a0.2.2.2.2.2.2.2.2.2.2.1,y1,(qSm a0 ([],a0.2.2.2.2.2.2.2.2.2.2.2.2.2.2.2.2.2)))))) none) none) none)<|cond (zB a0.2.2.2.2.2.2.2.2.2.2.2.2.2.2.2.2.1 x2.1.length) (let y2:List zJ:=(x2.1.set a0.2.2.2.2.2.2.2.2.2.2.2.2.2.2.2.2.1.toNat ((x2.1.getD a0.2.2.2.2.2.2.2.2.2.2.2.2.2.2.2.2.1.toNat (0,0,0)).1,x1.1,(x2.1.getD a0.2.2.2.2.2.2.2.2.2.2.2.2.2.2.2.2.1.toNat (0,0,0)).2.2))
    cond (zM (0+a0.2.2.2.2.2.2.2.2.2.2.2.1.length) 24) (cond (zB a0.2.2.2.2.2.2.2.2.2.2.2.2.2.2.2.2.1 a0.2.2.2.2.2.2.2.2.2.2.2.1.length) (let y3:EQ:=(a0.2.2.2.2.2.2.2.2.2.2.2.1.set a0.2.2.2.2.2.2.2.2.2.2.2.2.2.2.2.2.1.toNat x0)
      some (0,(jH a0 (y2,x2.2.1,x2.2.2.1,x2.2.2.2,a0.2.2.2.2.2.2.2.2.2.2.1,y3,(qSm a0 ([],a0.2.2.2.2.2.2.2.2.2.2.2.2.2.2.2.2.2)))))) none) none) none) none) none
def Ie (k:Nat)(a0:zJ)(a1:Int):Option (zJ×Int):=
 (HJ k a0.1 a1).bind fun x0=>cond (!x0.2) (some (a0,8))<|(KI k x0.1 a0.2.1 a0.2.2).bind fun x1=>cond (!x1) (some (a0,8))<|some ((x0.1,a0.2),0)
def Ig (k:Nat)(a0:rG)(a1:Bool)(a2 a3:Int):Option (Int×vy):=
 (vn k (yH a0 ([],a0.2.2.2.2.2.2.2.2.2.2.2.2.2.2.2.2.2)) a2).bind fun x0=>cond (decide (x0<0)) (some (1,(yH a0 ([],a0.2.2.2.2.2.2.2.2.2.2.2.2.2.2.2.2.2))))<|cond (decide (a3<1)) (some (1,(yH a0 ([],a0.2.2.2.2.2.2.2.2.2.2.2.2.2.2.2.2.2))))<|cond (decide (a3>1099511627776)) (some (1,(yH a0 ([],a0.2.2.2.2.2.2.2.2.2.2.2.2.2.2.2.2.2))))<|(pn k a0.2.2.2.2.2.2.1 a0.2.2.2.2.2.2.2.1 a0.2.2.2.2.2.2.2.2.1 a0.2.2.2.2.2.2.2.2.2.1).bind fun x1=>cond a1 (cond (zB x0 x1.1.length) ((Ie k (x1.1.getD x0.toNat (0,0,0)) a3).bind fun x2=>cond (decide ((zA (a0.2.2.2.2.2.2.2.2.2.2.2.2.2.2.1+a3))>1152921504606846976)) (some (8,(yH a0 ([],a0.2.2.2.2.2.2.2.2.2.2.2.2.2.2.2.2.2))))<|cond (!(decide (x2.2=0))) (some (8,(yH a0 ([],a0.2.2.2.2.2.2.2.2.2.2.2.2.2.2.2.2.2))))<|cond (zB x0 x1.1.length) (some (0,(jH a0 ((x1.1.set x0.toNat x2.1),x1.2.1,x1.2.2.1,x1.2.2.2,(I9 a0 ((zA (a0.2.2.2.2.2.2.2.2.2.2.2.2.2.2.1+a3)),a0.2.2.2.2.2.2.2.2.2.2.2.2.2.2.2.1,a0.2.2.2.2.2.2.2.2.2.2.2.2.2.2.2.2.1,[],a0.2.2.2.2.2.2.2.2.2.2.2.2.2.2.2.2.2)))))) none) none)<|cond (zB x0 x1.1.length) (cond (decide ((zA ((zA ((x1.1.getD x0.toNat (0,0,0)).1+(x1.1.getD x0.toNat (0,0,0)).2.1))-(x1.1.getD x0.toNat (0,0,0)).2.2))<a3)) (some (9,(yH a0 ([],a0.2.2.2.2.2.2.2.2.2.2.2.2.2.2.2.2.2))))<|cond (decide (a0.2.2.2.2.2.2.2.2.2.2.2.2.2.2.1<a3)) (some (9,(yH a0 ([],a0.2.2.2.2.2.2.2.2.2.2.2.2.2.2.2.2.2))))<|cond (zB x0 x1.1.length) (let y0:List zJ:=(x1.1.set x0.toNat ((zA ((x1.1.getD x0.toNat (0,0,0)).1-a3)),(x1.1.getD x0.toNat (0,0,0)).2))
   some (0,(jH a0 (y0,x1.2.1,x1.2.2.1,x1.2.2.2,(I9 a0 ((zA (a0.2.2.2.2.2.2.2.2.2.2.2.2.2.2.1-a3)),a0.2.2.2.2.2.2.2.2.2.2.2.2.2.2.2.1,a0.2.2.2.2.2.2.2.2.2.2.2.2.2.2.2.2.1,[],a0.2.2.2.2.2.2.2.2.2.2.2.2.2.2.2.2.2)))))) none) none
abbrev qNb:Type:=(rG×AC×(List zJ)×EQ×AC×EQ)⊕(Int×rG)
abbrev yBp:Type:=Int→rG→AC→List zJ→EQ→AC→EQ→Option qNb
def Ih (k:Nat)(rec:yBp)(s9:Int)(b0:rG)(r1:AC)(r3:List zJ)(m4:EQ)(r5:AC)(m6:EQ):Option qNb:=
 cond (decide (s9<r3.length)) (cond (zB s9 b0.2.2.2.2.2.2.2.2.2.2.2.1.length) ((zc k b0.2.1 r1 (b0.2.2.2.2.2.2.2.2.2.2.2.1.getD s9.toNat [])).bind fun x2=>cond (!x2.2) (some (.inr (8,b0)))<|cond (decide (x2.1>1152921504606846976)) (some (.inr (8,b0)))<|cond (zB s9 r3.length) (let y0:List zJ:=(r3.set s9.toNat ((r3.getD s9.toNat (0,0,0)).1,x2.1,(r3.getD s9.toNat (0,0,0)).2.2))
    rec (zA (s9+1)) b0 r1 y0 m4 r5 m6) none) none)<|some (.inl (b0,r1,r3,m4,r5,m6))
def vq (k:Nat):Nat→yBp:=qW (fun _ _ _ _ _ _ _=>none) (Ih k)
def RD (k:Nat)(a0:rG)(a1 a2:Int):Option (Int×vy):=
 cond (decide (a1<0)) (some (1,(yH a0 ([],a0.2.2.2.2.2.2.2.2.2.2.2.2.2.2.2.2.2))))<|cond (decide (a1≥a0.2.1.length)) (some (1,(yH a0 ([],a0.2.2.2.2.2.2.2.2.2.2.2.2.2.2.2.2.2))))<|cond (decide (a2<0)) (some (1,(yH a0 ([],a0.2.2.2.2.2.2.2.2.2.2.2.2.2.2.2.2.2))))<|cond (decide (a2>1048576)) (some (1,(yH a0 ([],a0.2.2.2.2.2.2.2.2.2.2.2.2.2.2.2.2.2))))<|(vp k a0.2.2.2.2.2.2.2.2.2.2.1 a1 a2).bind fun x0=>(pn k a0.2.2.2.2.2.2.1 a0.2.2.2.2.2.2.2.1 a0.2.2.2.2.2.2.2.2.1 a0.2.2.2.2.2.2.2.2.2.1).bind fun x1=>(vq k k 0 a0 x0 x1.1 x1.2.1 x1.2.2.1 x1.2.2.2).bind fun z=>match z with
 |.inl z1=>some (0,(jH z1.1 (Cx z1 (z1.2.1,(vAp z1.1 ([],z1.1.2.2.2.2.2.2.2.2.2.2.2.2.2.2.2.2.2))))))
 |.inr z2=>some (yMm z2 ([],z2.2.2.2.2.2.2.2.2.2.2.2.2.2.2.2.2.2.2))
def zt (k:Nat)(a0:rG)(a1:zD):Option (Int×vy):=
 cond (decide (a1.1=1)) ((RA k a0 a1.2).bind fun x0=>some (x0.1,x0.2))<|cond (decide (a1.1=2)) ((CR k a0 a1.1 a1.2).bind fun x1=>some (x1.1,x1.2))<|cond (decide (a1.1=3)) ((CR k a0 a1.1 a1.2).bind fun x2=>some (x2.1,x2.2))<|cond (decide (a1.1=4)) ((CR k a0 a1.1 a1.2).bind fun x3=>some (x3.1,x3.2))<|cond (decide (a1.1=5)) ((CT k a0 a1.1 a1.2).bind fun x4=>some (x4.1,x4.2))<|cond (decide (a1.1=6)) ((CT k a0 a1.1 a1.2).bind fun x5=>some (x5.1,x5.2))<|cond (decide (a1.1=7)) ((CT k a0 a1.1 a1.2).bind fun x6=>some (x6.1,x6.2))<|cond (decide (a1.1=8)) ((RB k a0 a1.2.1 a1.2.2.1).bind fun x7=>some (x7.1,x7.2))<|cond (decide (a1.1=10)) ((Ig k a0 (decide (a1.1=10)) a1.2.1 a1.2.2.1).bind fun x8=>some (x8.1,x8.2))<|cond (decide (a1.1=11)) ((Ig k a0 (decide (a1.1=10)) a1.2.1 a1.2.2.1).bind fun x9=>some (x9.1,x9.2))<|cond (decide (a1.1=12)) ((RD k a0 a1.2.1 a1.2.2.1).bind fun bC=>some (bC.1,bC.2))<|some (0,(yH a0 ([],a0.2.2.2.2.2.2.2.2.2.2.2.2.2.2.2.2.2)))
def IE (k:Nat)(a0:yA)(a1:qV)(a2:qJ):Option (qV×(List qJ)×Int):=
 (CX k a0 a2).bind fun x0=>cond (!x0) (some (a1,[],5))<|cond a1.2.2.2.2.2.2.2.2.2.2 (cond (!(decide (a2.2.1=9))) (some (a1,[],7))<|cond (decide (a2.2.1=9)) (cond (zB a2.1 a1.2.1.length) ((uI k a1.2.2.2.2.2.2.2.1 a2.1).bind fun x1=>(eZ k 17 [(a1.2.1.getD a2.1.toNat (0,0,0)).1,(a1.2.1.getD a2.1.toNat (0,0,0)).2.1,(a1.2.1.getD a2.1.toNat (0,0,0)).2.2,(x1.length:Int),a1.1]).bind fun x2=>some (a1,[(a2.1,x2)],0)) none)<|cond (decide (a2.2.1=14)) ((IB k a0 a1).bind fun x3=>some (x3.1,x3.2,0))<|(zt k (vK a0 (vP a1 (a2.1,0))) a2.2).bind fun x4=>cond (!(decide (x4.1=0))) (some (a1,[],x4.1))<|cond (!(decide (a2.1=(-1)))) ((eZ k 15 []).bind fun x5=>(ow k x4.2.2.2.2.2.2.1 x4.2.2.2.2.2.2.2.1 x4.2.2.2.2.2.2.2.2.1 x4.2.2.2.2.2.2.2.2.2.1 x4.2.2.2.2.2.2.2.2.2.2.1 x4.2.2.2.2.2.2.2.2.2.2.2.1 x4.2.2.2.2.2.2.2.2.2.2.2.2.1 x4.2.2.2.2.2.2.2.2.2.2.2.2.2.1 x4.2.2.2.2.2.2.2.2.2.2.2.2.2.2.1 x4.2.2.2.2.2.2.2.2.2.2.2.2.2.2.2.1 x4.2.2.2.2.2.2.2.2.2.2.2.2.2.2.2.2.1 (decide (a2.2.1=13))).bind fun x6=>cond (zM (1+x4.2.2.2.2.2.2.2.2.2.2.2.2.2.2.2.2.2.2.1.length) 64) (let y0:List qJ:=([(a2.1,x5)]++x4.2.2.2.2.2.2.2.2.2.2.2.2.2.2.2.2.2.2.1)
    cond (zM (y0.length+x6.2.2.2.2.2.2.2.2.2.2.2.length) 64) (cond (decide (x4.2.2.2.2.2.2.2.2.2.2.2.2.2.2.2.2.2.2.2>0)) ((mq k x6.2.2.2.2.2.2.2.1 x4.2.2.2.2.2.2.2.2.2.2.2.2.2.2.2.2.2.2.2).bind fun x7=>cond (decide (x7≥0)) ((eZ k 19 [x4.2.2.2.2.2.2.2.2.2.2.2.2.2.2.2.2.2.2.2]).bind fun x8=>cond (zM ((y0++x6.2.2.2.2.2.2.2.2.2.2.2).length+1) 64) (let y1:List qJ:=((y0++x6.2.2.2.2.2.2.2.2.2.2.2)++[(a2.1,x8)])
        some ((qO x6),y1,0)) none)<|some ((qO x6),(y0++x6.2.2.2.2.2.2.2.2.2.2.2),0))<|some ((qO x6),(y0++x6.2.2.2.2.2.2.2.2.2.2.2),0)) none) none)<|(ow k x4.2.2.2.2.2.2.1 x4.2.2.2.2.2.2.2.1 x4.2.2.2.2.2.2.2.2.1 x4.2.2.2.2.2.2.2.2.2.1 x4.2.2.2.2.2.2.2.2.2.2.1 x4.2.2.2.2.2.2.2.2.2.2.2.1 x4.2.2.2.2.2.2.2.2.2.2.2.2.1 x4.2.2.2.2.2.2.2.2.2.2.2.2.2.1 x4.2.2.2.2.2.2.2.2.2.2.2.2.2.2.1 x4.2.2.2.2.2.2.2.2.2.2.2.2.2.2.2.1 x4.2.2.2.2.2.2.2.2.2.2.2.2.2.2.2.2.1 (decide (a2.2.1=13))).bind fun x9=>cond (zM x4.2.2.2.2.2.2.2.2.2.2.2.2.2.2.2.2.2.2.1.length 64) (let y2:List qJ:=x4.2.2.2.2.2.2.2.2.2.2.2.2.2.2.2.2.2.2.1
   cond (zM (y2.length+x9.2.2.2.2.2.2.2.2.2.2.2.length) 64) (cond (decide (x4.2.2.2.2.2.2.2.2.2.2.2.2.2.2.2.2.2.2.2>0)) ((mq k x9.2.2.2.2.2.2.2.1 x4.2.2.2.2.2.2.2.2.2.2.2.2.2.2.2.2.2.2.2).bind fun bC=>cond (decide (bC≥0)) ((eZ k 19 [x4.2.2.2.2.2.2.2.2.2.2.2.2.2.2.2.2.2.2.2]).bind fun dr=>cond (zM ((y2++x9.2.2.2.2.2.2.2.2.2.2.2).length+1) 64) (let y3:List qJ:=((y2++x9.2.2.2.2.2.2.2.2.2.2.2)++[(a2.1,dr)])
       some ((qO x9),y3,0)) none)<|some ((qO x9),(y2++x9.2.2.2.2.2.2.2.2.2.2.2),0))<|some ((qO x9),(y2++x9.2.2.2.2.2.2.2.2.2.2.2),0)) none) none)<|cond (decide (a2.2.1=9)) (cond (zB a2.1 a1.2.1.length) ((uI k a1.2.2.2.2.2.2.2.1 a2.1).bind fun ik=>(eZ k 17 [(a1.2.1.getD a2.1.toNat (0,0,0)).1,(a1.2.1.getD a2.1.toNat (0,0,0)).2.1,(a1.2.1.getD a2.1.toNat (0,0,0)).2.2,(ik.length:Int),a1.1]).bind fun oF=>some (a1,[(a2.1,oF)],0)) none)<|cond (decide (a2.2.1=14)) ((IB k a0 a1).bind fun oG=>some (oG.1,oG.2,0))<|(zt k (vK a0 (vP a1 (a2.1,0))) a2.2).bind fun bD=>cond (!(decide (bD.1=0))) (some (a1,[],bD.1))<|cond (!(decide (a2.1=(-1)))) ((eZ k 15 []).bind fun ee=>(ow k bD.2.2.2.2.2.2.1 bD.2.2.2.2.2.2.2.1 bD.2.2.2.2.2.2.2.2.1 bD.2.2.2.2.2.2.2.2.2.1 bD.2.2.2.2.2.2.2.2.2.2.1 bD.2.2.2.2.2.2.2.2.2.2.2.1 bD.2.2.2.2.2.2.2.2.2.2.2.2.1 bD.2.2.2.2.2.2.2.2.2.2.2.2.2.1 bD.2.2.2.2.2.2.2.2.2.2.2.2.2.2.1 bD.2.2.2.2.2.2.2.2.2.2.2.2.2.2.2.1 bD.2.2.2.2.2.2.2.2.2.2.2.2.2.2.2.2.1 (decide (a2.2.1=13))).bind fun cq=>cond (zM (1+bD.2.2.2.2.2.2.2.2.2.2.2.2.2.2.2.2.2.2.1.length) 64) (let y4:List qJ:=([(a2.1,ee)]++bD.2.2.2.2.2.2.2.2.2.2.2.2.2.2.2.2.2.2.1)
   cond (zM (y4.length+cq.2.2.2.2.2.2.2.2.2.2.2.length) 64) (cond (decide (bD.2.2.2.2.2.2.2.2.2.2.2.2.2.2.2.2.2.2.2>0)) ((mq k cq.2.2.2.2.2.2.2.1 bD.2.2.2.2.2.2.2.2.2.2.2.2.2.2.2.2.2.2.2).bind fun dt=>cond (decide (dt≥0)) ((eZ k 19 [bD.2.2.2.2.2.2.2.2.2.2.2.2.2.2.2.2.2.2.2]).bind fun kl=>cond (zM ((y4++cq.2.2.2.2.2.2.2.2.2.2.2).length+1) 64) (let y5:List qJ:=((y4++cq.2.2.2.2.2.2.2.2.2.2.2)++[(a2.1,kl)])
       some ((qO cq),y5,0)) none)<|some ((qO cq),(y4++cq.2.2.2.2.2.2.2.2.2.2.2),0))<|some ((qO cq),(y4++cq.2.2.2.2.2.2.2.2.2.2.2),0)) none) none)<|(ow k bD.2.2.2.2.2.2.1 bD.2.2.2.2.2.2.2.1 bD.2.2.2.2.2.2.2.2.1 bD.2.2.2.2.2.2.2.2.2.1 bD.2.2.2.2.2.2.2.2.2.2.1 bD.2.2.2.2.2.2.2.2.2.2.2.1 bD.2.2.2.2.2.2.2.2.2.2.2.2.1 bD.2.2.2.2.2.2.2.2.2.2.2.2.2.1 bD.2.2.2.2.2.2.2.2.2.2.2.2.2.2.1 bD.2.2.2.2.2.2.2.2.2.2.2.2.2.2.2.1 bD.2.2.2.2.2.2.2.2.2.2.2.2.2.2.2.2.1 (decide (a2.2.1=13))).bind fun lL=>cond (zM bD.2.2.2.2.2.2.2.2.2.2.2.2.2.2.2.2.2.2.1.length 64) (let y6:List qJ:=bD.2.2.2.2.2.2.2.2.2.2.2.2.2.2.2.2.2.2.1
  cond (zM (y6.length+lL.2.2.2.2.2.2.2.2.2.2.2.length) 64) (cond (decide (bD.2.2.2.2.2.2.2.2.2.2.2.2.2.2.2.2.2.2.2>0)) ((mq k lL.2.2.2.2.2.2.2.1 bD.2.2.2.2.2.2.2.2.2.2.2.2.2.2.2.2.2.2.2).bind fun pI=>cond (decide (pI≥0)) ((eZ k 19 [bD.2.2.2.2.2.2.2.2.2.2.2.2.2.2.2.2.2.2.2]).bind fun nA=>cond (zM ((y6++lL.2.2.2.2.2.2.2.2.2.2.2).length+1) 64) (let y7:List qJ:=((y6++lL.2.2.2.2.2.2.2.2.2.2.2)++[(a2.1,nA)])
      some ((qO lL),y7,0)) none)<|some ((qO lL),(y6++lL.2.2.2.2.2.2.2.2.2.2.2),0))<|some ((qO lL),(y6++lL.2.2.2.2.2.2.2.2.2.2.2),0)) none) none
def pC (k:Nat)(aC:vS)(bE:jG)(a1:AC):Option (Int×vS×jG):=
 (Hd k bE (zA (aC.1+1)) (zA (1-aC.2.1)) a1).bind fun x0=>cond (decide (x0.1=0)) (some (x0.1,((zA (aC.1+1)),(zA (1-aC.2.1)),0,false),x0.2))<|some (x0.1,aC,x0.2)
abbrev yD2:Type:=(yA×qV)⊕Bool
abbrev qOt:Type:=Int→yA→qV→Option yD2
def HQ (k:Nat)(rec:qOt)(s5:Int)(b0:yA)(b1:qV):Option yD2:=
 cond (decide (s5<b1.2.2.2.2.2.1.length)) (cond (zB s5 b1.2.2.2.2.2.1.length) (cond (decide ((b1.2.2.2.2.2.1.getD s5.toNat 0)<0)) (some (.inr false))<|cond (zB s5 b1.2.2.2.2.2.1.length) (cond (decide ((b1.2.2.2.2.2.1.getD s5.toNat 0)>1048576)) (some (.inr false))<|rec (zA (s5+1)) b0 b1) none) none)<|some (.inl (b0,b1))
def zj (k:Nat):Nat→qOt:=qW (fun _ _ _=>none) (HQ k)
abbrev qMx:Type:=(Int×yA×qV)⊕Bool
abbrev qM7:Type:=Int→Int→yA→qV→Option qMx
def HR (k:Nat)(rec:qM7)(s6 s7:Int)(b0:yA)(b1:qV):Option qMx:=
 cond (zB s6 b1.2.2.2.2.2.2.1.length) (cond (decide (s7<(b1.2.2.2.2.2.2.1.getD s6.toNat []).length)) (cond (zB s6 b1.2.2.2.2.2.2.1.length) (cond (zB s7 (b1.2.2.2.2.2.2.1.getD s6.toNat []).length) (cond (decide (((b1.2.2.2.2.2.2.1.getD s6.toNat []).getD s7.toNat 0)<0)) (some (.inr false))<|cond (zB s6 b1.2.2.2.2.2.2.1.length) (cond (zB s7 (b1.2.2.2.2.2.2.1.getD s6.toNat []).length) (cond (decide (((b1.2.2.2.2.2.2.1.getD s6.toNat []).getD s7.toNat 0)>1099511627776)) (some (.inr false))<|rec s6 (zA (s7+1)) b0 b1) none) none) none) none)<|some (.inl (s6,b0,b1))) none
def CD (k:Nat):Nat→qM7:=qW (fun _ _ _ _=>none) (HR k)
abbrev yA2:Type:=Int→yA→qV→Option (Unit⊕Bool)
def HS (k:Nat)(rec:yA2)(s6:Int)(b0:yA)(b1:qV):Option (Unit⊕Bool):=
 cond (decide (s6<b0.1)) (cond (zB s6 b1.2.2.2.2.2.2.1.length) (cond (!(decide (((b1.2.2.2.2.2.2.1.getD s6.toNat []).length:Int)=(b0.2.1.length:Int)))) (some (.inr false))<|(CD k k s6 0 b0 b1).bind fun z2=>match z2 with
   | .inl z3=>cond (zB z3.1 z3.2.2.2.2.2.2.2.2.1.length) ((zc k z3.2.1.2.1 z3.2.2.2.2.2.2.2.1 (z3.2.2.2.2.2.2.2.2.1.getD z3.1.toNat [])).bind fun x0=>cond (!x0.2) (some (.inr false))<|cond (decide (x0.1>1152921504606846976)) (some (.inr false))<|cond (zB z3.1 z3.2.2.2.1.length) (cond (!(decide ((z3.2.2.2.1.getD z3.1.toNat (0,0,0)).2.1=x0.1))) (some (.inr false))<|rec (zA (z3.1+1)) z3.2.1 z3.2.2) none)<|none
   |.inr z4=>some (.inr z4)) none)<|some (.inl ())
def zk (k:Nat):Nat→yA2:=qW (fun _ _ _=>none) (HS k)
def MJ (k:Nat)(a0:yA)(a1:qV):Option Bool:=
 cond (!(decide ((a1.2.2.2.2.2.1.length:Int)=(a0.2.1.length:Int)))) (some false)<|cond (!(decide ((a1.2.2.2.2.2.2.1.length:Int)=a0.1))) (some false)<|(zj k k 0 a0 a1).bind fun z=>match z with
 |.inl z1=>(zk k k 0 z1.1 z1.2).bind fun z5=>match z5 with
  |.inl z6=>some true
  |.inr z7=>some z7
 |.inr z8=>some z8
abbrev qXk:Type:=List zD→Int→Option qO6
def HN (k:Nat)(rec:qXk)(s0:List zD)(s3:Int):Option qO6:=
 cond (decide (s3<s0.length)) (cond (zB s3 s0.length) ((mq k s0 (s0.getD s3.toNat (0,0,0,0,0,0,0)).1).bind fun x0=>cond (!(decide (x0=s3))) (some (.inr false))<|cond (decide (s3>0)) (cond (zB (zA (s3 - 1)) s0.length) (cond (zB s3 s0.length) ((HI k (s0.getD (zA (s3-1)).toNat (0,0,0,0,0,0,0)).1 (s0.getD (zA (s3-1)).toNat (0,0,0,0,0,0,0)).2.1 (s0.getD (zA (s3-1)).toNat (0,0,0,0,0,0,0)).2.2.1 (s0.getD (zA (s3-1)).toNat (0,0,0,0,0,0,0)).2.2.2.1 (s0.getD (zA (s3-1)).toNat (0,0,0,0,0,0,0)).2.2.2.2.1 (s0.getD (zA (s3-1)).toNat (0,0,0,0,0,0,0)).2.2.2.2.2.1 (s0.getD (zA (s3-1)).toNat (0,0,0,0,0,0,0)).2.2.2.2.2.2 (s0.getD s3.toNat (0,0,0,0,0,0,0)).1 (s0.getD s3.toNat (0,0,0,0,0,0,0)).2.1 (s0.getD s3.toNat (0,0,0,0,0,0,0)).2.2.1 (s0.getD s3.toNat (0,0,0,0,0,0,0)).2.2.2.1 (s0.getD s3.toNat (0,0,0,0,0,0,0)).2.2.2.2.1 (s0.getD s3.toNat (0,0,0,0,0,0,0)).2.2.2.2.2.1 (s0.getD s3.toNat (0,0,0,0,0,0,0)).2.2.2.2.2.2).bind fun x1=>cond (!x1) (some (.inr false))<|rec s0 (zA (s3+1))) none) none)<|rec s0 (zA (s3+1))) none)<|some (.inl s0)
def zd (k:Nat):Nat→qXk
 |0,_,_=>none
 |n+1,s0,s3=>HN k (zd k n) s0 s3
def MG (k:Nat)(a0:List zD):Option Bool:=
 (zd k k a0 0).bind fun z=>match z with
 |.inl z1=>some (decide ((z1.length:Int)≤40))
 |.inr z2=>some z2
abbrev qXj:Type:=AC→Int→Option (AC⊕Bool)
def HO (k:Nat)(rec:qXj)(s0:AC)(s3:Int):Option (AC⊕Bool):=
 cond (decide (s3<s0.length)) (cond (zB s3 s0.length) (cond (decide ((s0.getD s3.toNat 0)<1)) (some (.inr false))<|cond (decide (s3>0)) (cond (zB s3 s0.length) (cond (zB (zA (s3 - 1)) s0.length) (cond (decide ((s0.getD s3.toNat 0)≤(s0.getD (zA (s3-1)).toNat 0))) (some (.inr false))<|rec s0 (zA (s3+1))) none) none)<|rec s0 (zA (s3+1))) none)<|some (.inl s0)
def CB (k:Nat):Nat→qXj:=qW (fun _ _=>none) (HO k)
def MH (k:Nat)(a0:AC):Option Bool:=
 (CB k k a0 0).bind fun z=>match z with
 |.inl z1=>some (decide ((z1.length:Int)≤200))
 |.inr z2=>some z2
abbrev yCo:Type:=Int→qV→Option (Unit⊕Bool)
def HP (k:Nat)(rec:yCo)(s3:Int)(b0:qV):Option (Unit⊕Bool):=
 cond (decide (s3<b0.2.2.2.2.2.2.2.1.length)) (cond (zB s3 b0.2.2.2.2.2.2.2.1.length) ((PV k b0.2.1 b0.2.2.1 b0.2.2.2.1 b0.2.2.2.2.1 (b0.2.2.2.2.2.2.2.1.getD s3.toNat (0,0,0,0,0,0,0)).1 (b0.2.2.2.2.2.2.2.1.getD s3.toNat (0,0,0,0,0,0,0)).2.1 (b0.2.2.2.2.2.2.2.1.getD s3.toNat (0,0,0,0,0,0,0)).2.2.1 (b0.2.2.2.2.2.2.2.1.getD s3.toNat (0,0,0,0,0,0,0)).2.2.2.1 (b0.2.2.2.2.2.2.2.1.getD s3.toNat (0,0,0,0,0,0,0)).2.2.2.2.1 (b0.2.2.2.2.2.2.2.1.getD s3.toNat (0,0,0,0,0,0,0)).2.2.2.2.2.1 (b0.2.2.2.2.2.2.2.1.getD s3.toNat (0,0,0,0,0,0,0)).2.2.2.2.2.2).bind fun x2=>cond (!x2) (some (.inr false))<|cond (decide ((b0.2.2.2.2.2.2.2.1.getD s3.toNat (0,0,0,0,0,0,0)).2.2.2.2.2.1<0)) (some (.inr false))<|cond (decide ((b0.2.2.2.2.2.2.2.1.getD s3.toNat (0,0,0,0,0,0,0)).2.2.2.2.2.2<(b0.2.2.2.2.2.2.2.1.getD s3.toNat (0,0,0,0,0,0,0)).2.2.2.2.2.1)) (some (.inr false))<|cond (decide ((b0.2.2.2.2.2.2.2.1.getD s3.toNat (0,0,0,0,0,0,0)).2.2.2.2.2.2>1048576)) (some (.inr false))<|(CC k b0.2.2.2.2.2.2.2.2.1 (b0.2.2.2.2.2.2.2.1.getD s3.toNat (0,0,0,0,0,0,0)).1).bind fun x3=>cond (!x3) (some (.inr false))<|rec (zA (s3+1)) b0) none)<|some (.inl ())
def zg (k:Nat):Nat→yCo:=qW (fun _ _=>none) (HP k)
def MI (k:Nat)(a0:qV):Option Bool:=
 (MG k a0.2.2.2.2.2.2.2.1).bind fun x0=>cond (!x0) (some false)<|(MH k a0.2.2.2.2.2.2.2.2.1).bind fun x1=>cond (!x1) (some false)<|(zg k k 0 a0).bind fun z=>match z with
 |.inl z1=>some true
 |.inr z2=>some z2
def Rr (k:Nat)(Dm AI a1:Int):Option vX:=
 some ((zA ((zA (Dm+(shr .i64 a1 32)))+(shr .i64 (zA (AI+(yP .i64 a1 4294967295))) 32))),(yP .i64 (zA (AI+(yP .i64 a1 4294967295))) 4294967295))
abbrev yBl:Type:=AC→Int→Int→Int→Option vX
def HM (k:Nat)(rec:yBl)(s0:AC)(s5 af ah:Int):Option vX:=
 cond (decide (s5<s0.length)) (cond (zB s5 s0.length) ((Rr k af ah (s0.getD s5.toNat 0)).bind fun x0=>rec s0 (zA (s5+1)) x0.1 x0.2) none)<|some (af,ah)
def MF (k:Nat):Nat→yBl
 |0,_,_,_,_=>none
 |n+1,s0,s5,af,ah=>HM k (MF k n) s0 s5 af ah
def ME (k:Nat)(a0:AC):Option fa:=
 (MF k k a0 0 0 0).bind fun z=>cond (decide (z.1<(-2147483648))) (some (0,false))<|cond (decide (z.1≥2147483648)) (some (0,false))<|some ((zA ((shl .i64 z.1 32)+z.2)),true)
abbrev qMa:Type:=Int→yA→qV→AC→Option yAr
def HV (k:Nat)(rec:qMa)(s6:Int)(b0:yA)(b1:qV)(r2:AC):Option yAr:=
 cond (decide (s6<b0.1)) (cond (zB s6 b1.2.1.length) (cond (zM (r2.length+1) 8) (let y0:AC:=(r2++[(b1.2.1.getD s6.toNat (0,0,0)).1])
    rec (zA (s6+1)) b0 b1 y0) none) none)<|some (b0,b1,r2)
def CE (k:Nat):Nat→qMa:=qW (fun _ _ _ _=>none) (HV k)
def HU (k:Nat)(a0:yA)(a1:qV):Option Bool:=
 cond (decide (a1.1<0)) (some false)<|cond (decide (a1.1>a0.2.2.2.1)) (some false)<|(E3 k a1.2.1 a1.2.2.1 a1.2.2.2.1 a1.2.2.2.2.1).bind fun x0=>cond (!x0) (some false)<|cond (!(decide ((a1.2.1.length:Int)=a0.1))) (some false)<|(MJ k a0 a1).bind fun x1=>cond (!x1) (some false)<|(MI k a1).bind fun x2=>cond (!x2) (some false)<|(CE k k 0 a0 a1 []).bind fun z=>(ME k z.2.2).bind fun x3=>cond x3.2 (cond (decide (x3.1=z.2.1.2.2.2.2.2.2.2.2.2.1)) (cond (decide (x3.1≥0)) (cond (decide (x3.1≤1152921504606846976)) (cond (fP z.2.1.2.2.2.2.2.2.2.2.2.2 (decide (z.2.1.1=z.1.2.2.2.1))) (cond (!z.2.1.2.2.2.2.2.2.2.2.2.2) (some true)<|some (decide ((z.2.1.2.2.2.2.2.2.2.1.length:Int)=0)))<|some false)<|some false)<|some false)<|some false)<|some false
abbrev qPn:Type:=Int×Bool×Dn×AC×AC×yA×vS×qV
abbrev yAd:Type:=Int→Bool→EQ→Int→Dn→AC→AC→yA→vS→qV→Option qPn
def IJ (k:Nat)(rec:yAd)(s2:Int)(cL:Bool)(aQ:EQ)(cQ:Int)(b0:Dn)(r1 r2:AC)(b3:yA)(b4:vS)(b5:qV):Option qPn:=
 cond (decide (cQ<aQ.length)) (cond (zB cQ aQ.length) ((RY k (aQ.getD cQ.toNat [])).bind fun x8=>cond (decide (x8.2=0)) ((IE k b3 b5 x8.1).bind fun x9=>rec s2 cL aQ (zA (cQ+1)) b0 r1 r2 b3 b4 x9.1)<|rec s2 cL aQ (zA (cQ+1)) b0 r1 r2 b3 b4 b5) none)<|some (s2,cL,b0,r1,r2,b3,b4,b5)
def tt (k:Nat):Nat→yAd:=qW (fun _ _ _ _ _ _ _ _ _ _=>none) (IJ k)
def Nl (k:Nat)(a0:yA)(a1:jG)(a2:Int):Option ((Int×jG×gP×vS)⊕(Int×jG)):=
 (qYx k a0).bind fun x0=>cond (!x0) (some (.inr (1,a1)))<|cond (decide (a2<1)) (some (.inr (1,a1)))<|cond (decide (a2>1000)) (some (.inr (1,a1)))<|(Mt k a1).bind fun x1=>(C4 k a0).bind fun x2=>(oq k x2).bind fun x3=>(qWj k a1 x3).bind fun x4=>match x4 with
 |.inl x5=>cond (!(decide (x5.2.2.1=0))) (some (.inr (x5.2.2.1,x5.2.2.2.1)))<|(Hz k x5.1).bind fun x6=>cond (!x6.2) ((C4 k a0).bind fun x7=>(tt k k a2 x1.2.2.2.2 x5.2.1 0 x5.2.2.2.1.2.2 x5.2.2.2.1.1 x5.2.2.2.1.2.1 a0 x5.2.2.2.2 x7).bind fun z=>cond z.2.1 ((oq k z.2.2.2.2.2.2.2).bind fun bC=>(pC k z.2.2.2.2.2.2.1 (z.2.2.2.1,z.2.2.2.2.1,z.2.2.1) bC).bind fun dr=>cond (!(decide (dr.1=0))) (some (.inr (dr.1,dr.2.2)))<|some (.inl (0,dr.2.2,(vK z.2.2.2.2.2.1 (lF z (z.1,false))),dr.2.1)))<|some (.inl (0,(z.2.2.2.1,z.2.2.2.2.1,z.2.2.1),(vK z.2.2.2.2.2.1 (lF z (z.1,false))),z.2.2.2.2.2.2.1)))<|(HU k a0 x6.1).bind fun ik=>cond (!ik) ((C4 k a0).bind fun oF=>(tt k k a2 x1.2.2.2.2 x5.2.1 0 x5.2.2.2.1.2.2 x5.2.2.2.1.1 x5.2.2.2.1.2.1 a0 x5.2.2.2.2 oF).bind fun z1=>cond z1.2.1 ((oq k z1.2.2.2.2.2.2.2).bind fun oG=>(pC k z1.2.2.2.2.2.2.1 (z1.2.2.2.1,z1.2.2.2.2.1,z1.2.2.1) oG).bind fun bD=>cond (!(decide (bD.1=0))) (some (.inr (bD.1,bD.2.2)))<|some (.inl (0,bD.2.2,(vK z1.2.2.2.2.2.1 (lF z1 (z1.1,false))),bD.2.1)))<|some (.inl (0,(z1.2.2.2.1,z1.2.2.2.2.1,z1.2.2.1),(vK z1.2.2.2.2.2.1 (lF z1 (z1.1,false))),z1.2.2.2.2.2.2.1)))<|(tt k k a2 x1.2.2.2.2 x5.2.1 0 x5.2.2.2.1.2.2 x5.2.2.2.1.1 x5.2.2.2.1.2.1 a0 x5.2.2.2.2 x6.1).bind fun z2=>cond z2.2.1 ((oq k z2.2.2.2.2.2.2.2).bind fun ee=>(pC k z2.2.2.2.2.2.2.1 (z2.2.2.2.1,z2.2.2.2.2.1,z2.2.2.1) ee).bind fun cq=>cond (!(decide (cq.1=0))) (some (.inr (cq.1,cq.2.2)))<|some (.inl (0,cq.2.2,(vK z2.2.2.2.2.2.1 (lF z2 (z2.1,false))),cq.2.1)))<|some (.inl (0,(z2.2.2.2.1,z2.2.2.2.2.1,z2.2.2.1),(vK z2.2.2.2.2.2.1 (lF z2 (z2.1,false))),z2.2.2.2.2.2.2.1))
 |.inr dt=>cond (!(decide (dt.2.2.1=0))) (some (.inr (dt.2.2.1,dt.2.2.2)))<|(Hz k dt.1).bind fun kl=>cond (!kl.2) ((C4 k a0).bind fun lL=>none)<|(HU k a0 kl.1).bind fun pI=>cond (!pI) ((C4 k a0).bind fun nA=>none) none
def tn (k:Nat)(a0:zD):Option (Unit⊕(AC)):=
 (tm k a0).bind fun x0=>cond (!x0) (some (.inl ()))<|(BM k a0.1).bind fun x1=>cond ((decide (0≤x1))&&(decide (x1≤6))) ((yl k (qM [a0.2.1,a0.2.2.1,a0.2.2.2.1,a0.2.2.2.2.1,a0.2.2.2.2.2.1,a0.2.2.2.2.2.2] 0 (x1.toNat-0))).bind fun x2=>cond (zM (1+x2.length) 1) (some (.inr ([(IntKind.wrap .u8 (a0.1))]++x2))) none) none
def rf (k:Nat)(aC:gP)(bE:vS)(du:wJ):Option (Bool×gP×vS×wJ):=
 some (aC.2.2.2.2.2.2.2.2.2.2.2.2.2.2.2.2.2,aC,bE,du)
def NS (k:Nat)(a0 a1:Int):Option (List qJ):=
 some [(a0,16,a1,0,0,0,0,0)]
def qSp (k:Nat)(a0:zD):Option AC:=
 (kZ k a0).bind fun x0=>cond (!x0) (some [])<|(uA k a0.1).bind fun x1=>cond ((decide (0≤x1))&&(decide (x1≤6))) ((xJ k (qM [a0.2.1,a0.2.2.1,a0.2.2.2.1,a0.2.2.2.2.1,a0.2.2.2.2.2.1,a0.2.2.2.2.2.2] 0 (x1.toNat-0))).bind fun x2=>cond (zM (1+x2.length) 1) (some ([(IntKind.wrap .u8 (a0.1))]++x2)) none) none
def RW (k:Nat)(a0:qJ):Option AC:=
 (qSp k a0.2).bind fun x0=>cond (decide ((x0.length:Int)=0)) (some [])<|(xJ k [a0.1]).bind fun x1=>cond (zM (x1.length+x0.length) 1) (some (x1++x0)) none
def yq (k:Nat)(aC:vS)(bE:wJ)(a1:AC):Option (Int×vS×wJ):=
 (KE k a1).bind fun x0=>cond (!x0.2) (some (10,aC,bE))<|cond aC.2.2.2 (some (10,aC,bE))<|(mn k bE aC.1 x0.1).bind fun x1=>cond (decide (x1.1=3)) (some (10,aC,x1.2))<|cond (decide (x1.1=0)) ((nW k x1.2).bind fun x2=>cond (decide (x2.1=0)) (some (x2.1,(aC.1,aC.2.1,(zA (aC.2.2.1+1)),aC.2.2.2),x2.2))<|some (x2.1,aC,x2.2))<|cond (decide (x1.1=0)) (some (x1.1,(aC.1,aC.2.1,(zA (aC.2.2.1+1)),aC.2.2.2),x1.2))<|some (x1.1,aC,x1.2)
def RZ (k:Nat)(aC:gP)(bE:vS)(du:wJ)(a1:AC):Option (Int×gP×vS×wJ):=
 (yq k bE du a1).bind fun x0=>cond (!(decide (x0.1=10))) (some (x0.1,aC,x0.2.1,x0.2.2))<|(lD k (gM aC)).bind fun x1=>(ot k x0.2.1 x0.2.2 x1).bind fun x2=>cond (!(decide (x2.1=0))) (some (x2.1,aC,x2.2.1,x2.2.2))<|(yq k x2.2.1 x2.2.2 a1).bind fun x3=>some (x3.1,aC,x3.2.1,x3.2.2)
def qQc (k:Nat)(aC:vS)(bE:wJ):Option (Int×vS×wJ):=
 some (aC.2.2.1,aC,bE)
def zu (k:Nat)(aC:gP)(bE:vS)(du:wJ)(a1:Int)(a2:AC):Option ((List qJ)×gP×vS×wJ):=
 (rf k aC bE du).bind fun x0=>cond x0.1 (some ([],x0.2.1,x0.2.2.1,x0.2.2.2))<|(BN k a2).bind fun x1=>cond (!(decide (x1.2=0))) ((NS k a1 x1.2).bind fun x2=>some (x2,x0.2.1,x0.2.2.1,x0.2.2.2))<|(IF k (qZ x0.2.1) (gM x0.2.1) (a1,x1.1)).bind fun x3=>cond (!(decide (x3.2.2=0))) ((NS k a1 x3.2.2).bind fun x4=>some (x4,x0.2.1,x0.2.2.1,x0.2.2.2))<|cond (decide (x1.1.1=9)) (some (x3.2.1,x0.2.1,x0.2.2.1,x0.2.2.2))<|(RW k (a1,x1.1)).bind fun x5=>(RZ k x0.2.1 x0.2.2.1 x0.2.2.2 x5).bind fun x6=>cond (decide (x6.1=0)) ((qQc k x6.2.2.1 x6.2.2.2).bind fun x7=>cond (decide (x7.1≥x6.2.1.2.2.2.2.2.2.2.2.2.2.2.2.2.2.2.2.1)) ((lD k x3.1).bind fun x8=>(ot k x7.2.1 x7.2.2 x8).bind fun x9=>cond (decide (x9.1=11)) (some (x3.2.1,(gg x6.2.1 (vP x3.1 (x6.2.1.2.2.2.2.2.2.2.2.2.2.2.2.2.2.2.2.1,true))),x9.2.1,x9.2.2))<|some (x3.2.1,(gg x6.2.1 (vP x3.1 x6.2.1.2.2.2.2.2.2.2.2.2.2.2.2.2.2.2.2)),x9.2.1,x9.2.2))<|some (x3.2.1,(gg x6.2.1 (vP x3.1 x6.2.1.2.2.2.2.2.2.2.2.2.2.2.2.2.2.2.2)),x7.2.1,x7.2.2))<|cond (decide (x6.1=10)) ((NS k a1 10).bind fun bC=>some (bC,x6.2.1,x6.2.2.1,x6.2.2.2))<|some ([],(yH x6.2.1 true),x6.2.2.1,x6.2.2.2)
def Nh (k:Nat)(a0 a1:Int):Option (List qJ):=
 (eZ k 16 [a1]).bind fun x0=>some [(a0,x0)]
def Ng (k:Nat)(a0:qJ):Option (Unit⊕(AC)):=
 (tn k a0.2).bind fun x0=>match x0 with
 |.inl x1=>some (.inl ())
 | .inr x2=>cond (Nat.blt 0 x2.length) ((yl k [a0.1]).bind fun x3=>cond (zM (x3.length+x2.length) 1) (some (.inr (x3++x2))) none) none
def yp (k:Nat)(aC:vS)(bE:jG)(a1:AC):Option (Int×vS×jG):=
 (Mk k a1).bind fun x0=>cond aC.2.2.2 (some (10,aC,bE))<|cond (!x0.2) (some (10,aC,bE))<|(ym k bE aC.2.1 x0.1).bind fun x1=>cond (decide (x1.1=3)) (some (10,aC,x1.2))<|cond (decide (x1.1=0)) ((yn k x1.2).bind fun x2=>cond (decide (x2.1=0)) (some (x2.1,(aC.1,aC.2.1,(zA (aC.2.2.1+1)),aC.2.2.2),x2.2))<|some (x2.1,aC,x2.2))<|cond (decide (x1.1=0)) (some (x1.1,(aC.1,aC.2.1,(zA (aC.2.2.1+1)),aC.2.2.2),x1.2))<|some (x1.1,aC,x1.2)
def R0 (k:Nat)(aC:gP)(bE:vS)(du:jG)(a1:qJ):Option (Int×gP×vS×jG):=
 (Ng k a1).bind fun x0=>match x0 with
 |.inl x1=>(yp k bE du []).bind fun x2=>cond (decide (x2.1=10)) ((oq k (gM aC)).bind fun x3=>(pC k x2.2.1 x2.2.2 x3).bind fun x4=>cond (decide (x4.1=0)) ((yp k x4.2.1 x4.2.2 []).bind fun x5=>some (x5.1,aC,x5.2.1,x5.2.2))<|some (x4.1,aC,x4.2.1,x4.2.2))<|some (x2.1,aC,x2.2.1,x2.2.2)
 |.inr x6=>(yp k bE du x6).bind fun x7=>cond (decide (x7.1=10)) ((oq k (gM aC)).bind fun x8=>(pC k x7.2.1 x7.2.2 x8).bind fun x9=>cond (decide (x9.1=0)) ((yp k x9.2.1 x9.2.2 x6).bind fun bC=>some (bC.1,aC,bC.2.1,bC.2.2))<|some (x9.1,aC,x9.2.1,x9.2.2))<|some (x7.1,aC,x7.2.1,x7.2.2)
def zv (k:Nat)(aC:gP)(bE:vS)(du:jG)(a1:Int)(a2:AC):Option ((List qJ)×gP×vS×jG):=
 cond aC.2.2.2.2.2.2.2.2.2.2.2.2.2.2.2.2.2 (some ([],aC,bE,du))<|(EP k a2).bind fun x0=>cond (!(decide (x0.2=0))) ((Nh k a1 x0.2).bind fun x1=>some (x1,aC,bE,du))<|(IE k (qZ aC) (gM aC) (a1,x0.1)).bind fun x2=>cond (!(decide (x2.2.2=0))) ((Nh k a1 x2.2.2).bind fun x3=>some (x3,aC,bE,du))<|cond (decide (x0.1.1=9)) (some (x2.2.1,aC,bE,du))<|(R0 k aC bE du (a1,x0.1)).bind fun x4=>cond (decide (x4.1=0)) (cond (decide (x4.2.2.1.2.2.1≥x4.2.1.2.2.2.2.2.2.2.2.2.2.2.2.2.2.2.2.1)) ((oq k x2.1).bind fun x5=>(pC k x4.2.2.1 x4.2.2.2 x5).bind fun x6=>cond (decide (x6.1=11)) (some (x2.2.1,(gg x4.2.1 (vP x2.1 (x4.2.1.2.2.2.2.2.2.2.2.2.2.2.2.2.2.2.2.1,true))),x6.2.1,x6.2.2))<|some (x2.2.1,(gg x4.2.1 (vP x2.1 x4.2.1.2.2.2.2.2.2.2.2.2.2.2.2.2.2.2.2)),x6.2.1,x6.2.2))<|some (x2.2.1,(gg x4.2.1 (vP x2.1 x4.2.1.2.2.2.2.2.2.2.2.2.2.2.2.2.2.2.2)),x4.2.2.1,x4.2.2.2))<|cond (decide (x4.1=10)) ((Nh k a1 10).bind fun x7=>some (x7,x4.2.1,x4.2.2.1,x4.2.2.2))<|some ([],(yH x4.2.1 true),x4.2.2.1,x4.2.2.2)
abbrev qTz:Type:=List qJ→List qJ→Int→Option (Unit⊕Bool)
def GS (k:Nat)(rec:qTz)(s0 s1:List qJ)(s5:Int):Option (Unit⊕Bool):=
 cond (decide (s5<s0.length)) (cond (zB s5 s0.length) (cond (zB s5 s1.length) (cond (!((decide ((s0.getD s5.toNat (0,0,0,0,0,0,0,0)).1=(s1.getD s5.toNat (0,0,0,0,0,0,0,0)).1))&&((decide ((s0.getD s5.toNat (0,0,0,0,0,0,0,0)).2.1=(s1.getD s5.toNat (0,0,0,0,0,0,0,0)).2.1))&&((decide ((s0.getD s5.toNat (0,0,0,0,0,0,0,0)).2.2.1=(s1.getD s5.toNat (0,0,0,0,0,0,0,0)).2.2.1))&&((decide ((s0.getD s5.toNat (0,0,0,0,0,0,0,0)).2.2.2.1=(s1.getD s5.toNat (0,0,0,0,0,0,0,0)).2.2.2.1))&&((decide ((s0.getD s5.toNat (0,0,0,0,0,0,0,0)).2.2.2.2.1=(s1.getD s5.toNat (0,0,0,0,0,0,0,0)).2.2.2.2.1))&&((decide ((s0.getD s5.toNat (0,0,0,0,0,0,0,0)).2.2.2.2.2.1=(s1.getD s5.toNat (0,0,0,0,0,0,0,0)).2.2.2.2.2.1))&&((decide ((s0.getD s5.toNat (0,0,0,0,0,0,0,0)).2.2.2.2.2.2.1=(s1.getD s5.toNat (0,0,0,0,0,0,0,0)).2.2.2.2.2.2.1))&&(decide ((s0.getD s5.toNat (0,0,0,0,0,0,0,0)).2.2.2.2.2.2.2=(s1.getD s5.toNat (0,0,0,0,0,0,0,0)).2.2.2.2.2.2.2)))))))))) (some (.inr false))<|rec s0 s1 (zA (s5+1))) none) none)<|some (.inl ())
def L8 (k:Nat):Nat→qTz
 |0,_,_,_=>none
 |n+1,s0,s1,s5=>GS k (L8 k n) s0 s1 s5
def uQ (k:Nat)(a0 a1:List qJ):Option Bool:=
 cond (!(decide ((a0.length:Int)=(a1.length:Int)))) (some false)<|(L8 k k a0 a1 0).bind fun z=>match z with
 |.inl z1=>some true
 |.inr z2=>some z2
def vw (k:Nat)(aC:gP)(bE:vS)(du:wJ):Option (qV×gP×vS×wJ):=
 some ((gM aC),aC,bE,du)
abbrev qNp:Type:=AC→AC→Int→Option (Unit⊕Bool)
def Fi (k:Nat)(rec:qNp)(s0 s1:AC)(s5:Int):Option (Unit⊕Bool):=
 cond (decide (s5<s0.length)) (cond (zB s5 s0.length) (cond (zB s5 s1.length) (cond (!(decide ((s0.getD s5.toNat 0)=(s1.getD s5.toNat 0)))) (some (.inr false))<|rec s0 s1 (zA (s5+1))) none) none)<|some (.inl ())
def K0 (k:Nat):Nat→qNp
 |0,_,_,_=>none
 |n+1,s0,s1,s5=>Fi k (K0 k n) s0 s1 s5
def uB (k:Nat)(a0 a1:AC):Option Bool:=
 cond (!(decide ((a0.length:Int)=(a1.length:Int)))) (some false)<|(K0 k k a0 a1 0).bind fun z=>match z with
 |.inl z1=>some true
 |.inr z2=>some z2
abbrev qW2:Type:=EQ→EQ→Int→Option (Unit⊕Bool)
def Fj (k:Nat)(rec:qW2)(s0 s1:EQ)(s5:Int):Option (Unit⊕Bool):=
 cond (decide (s5<s0.length)) (cond (zB s5 s0.length) (cond (zB s5 s1.length) ((uB k (s0.getD s5.toNat []) (s1.getD s5.toNat [])).bind fun x0=>cond (!x0) (some (.inr false))<|rec s0 s1 (zA (s5+1))) none) none)<|some (.inl ())
def K1 (k:Nat):Nat→qW2
 |0,_,_,_=>none
 |n+1,s0,s1,s5=>Fj k (K1 k n) s0 s1 s5
def BR (k:Nat)(a0 a1:EQ):Option Bool:=
 cond (!(decide ((a0.length:Int)=(a1.length:Int)))) (some false)<|(K1 k k a0 a1 0).bind fun z=>match z with
 |.inl z1=>some true
 |.inr z2=>some z2
abbrev qY0:Type:=Int→List zJ→EQ→AC→EQ→List zJ→EQ→AC→EQ→Option (Unit⊕Bool)
def Fk (k:Nat)(rec:qY0)(s5:Int)(af:List zJ)(ah:EQ)(aj:AC)(ag:EQ)(aw:List zJ)(aD:EQ)(aE:AC)(aG:EQ):Option (Unit⊕Bool):=
 cond (decide (s5<af.length)) (cond (zB s5 af.length) (cond (zB s5 aw.length) (cond (!((decide ((af.getD s5.toNat (0,0,0)).1=(aw.getD s5.toNat (0,0,0)).1))&&((decide ((af.getD s5.toNat (0,0,0)).2.1=(aw.getD s5.toNat (0,0,0)).2.1))&&(decide ((af.getD s5.toNat (0,0,0)).2.2=(aw.getD s5.toNat (0,0,0)).2.2))))) (some (.inr false))<|rec (zA (s5+1)) af ah aj ag aw aD aE aG) none) none)<|some (.inl ())
def K3 (k:Nat):Nat→qY0
 |0,_,_,_,_,_,_,_,_,_=>none
 |n+1,s5,af,ah,aj,ag,aw,aD,aE,aG=>Fk k (K3 k n) s5 af ah aj ag aw aD aE aG
def K2 (k:Nat)(au:List zJ)(aB:EQ)(aA:AC)(ax:EQ)(cW:List zJ)(jh:EQ)(jk:AC)(jl:EQ):Option Bool:=
 cond (!(decide ((au.length:Int)=(cW.length:Int)))) (some false)<|(BR k aB jh).bind fun x0=>cond (!x0) (some false)<|(BR k ax jl).bind fun x1=>cond (!x1) (some false)<|(uB k aA jk).bind fun x2=>cond (!x2) (some false)<|(K3 k k 0 au aB aA ax cW jh jk jl).bind fun z=>match z with
 |.inl z1=>some true
 |.inr z2=>some z2
abbrev qQp:Type:=List zD→List zD→Int→Option (Unit⊕Bool)
def IH (k:Nat)(rec:qQp)(s0 s1:List zD)(s5:Int):Option (Unit⊕Bool):=
 cond (decide (s5<s0.length)) (cond (zB s5 s0.length) (cond (zB s5 s1.length) (cond (!((decide ((s0.getD s5.toNat (0,0,0,0,0,0,0)).1=(s1.getD s5.toNat (0,0,0,0,0,0,0)).1))&&((decide ((s0.getD s5.toNat (0,0,0,0,0,0,0)).2.1=(s1.getD s5.toNat (0,0,0,0,0,0,0)).2.1))&&((decide ((s0.getD s5.toNat (0,0,0,0,0,0,0)).2.2.1=(s1.getD s5.toNat (0,0,0,0,0,0,0)).2.2.1))&&((decide ((s0.getD s5.toNat (0,0,0,0,0,0,0)).2.2.2.1=(s1.getD s5.toNat (0,0,0,0,0,0,0)).2.2.2.1))&&((decide ((s0.getD s5.toNat (0,0,0,0,0,0,0)).2.2.2.2.1=(s1.getD s5.toNat (0,0,0,0,0,0,0)).2.2.2.2.1))&&((decide ((s0.getD s5.toNat (0,0,0,0,0,0,0)).2.2.2.2.2.1=(s1.getD s5.toNat (0,0,0,0,0,0,0)).2.2.2.2.2.1))&&(decide ((s0.getD s5.toNat (0,0,0,0,0,0,0)).2.2.2.2.2.2=(s1.getD s5.toNat (0,0,0,0,0,0,0)).2.2.2.2.2.2))))))))) (some (.inr false))<|rec s0 s1 (zA (s5+1))) none) none)<|some (.inl ())
def Nk (k:Nat):Nat→qQp
 |0,_,_,_=>none
 |n+1,s0,s1,s5=>IH k (Nk k n) s0 s1 s5
def Nj (k:Nat)(a0 a1:List zD):Option Bool:=
 cond (!(decide ((a0.length:Int)=(a1.length:Int)))) (some false)<|(Nk k k a0 a1 0).bind fun z=>match z with
 |.inl z1=>some true
 |.inr z2=>some z2
def zy (k:Nat)(a0 a1:qV):Option Bool:=
 cond (decide (a0.1=a1.1)) (cond (decide (a0.2.2.2.2.2.2.2.2.2.1=a1.2.2.2.2.2.2.2.2.2.1)) (cond (fP a0.2.2.2.2.2.2.2.2.2.2 a1.2.2.2.2.2.2.2.2.2.2) ((K2 k a0.2.1 a0.2.2.1 a0.2.2.2.1 a0.2.2.2.2.1 a1.2.1 a1.2.2.1 a1.2.2.2.1 a1.2.2.2.2.1).bind fun x0=>cond x0 ((uB k a0.2.2.2.2.2.1 a1.2.2.2.2.2.1).bind fun x1=>cond x1 ((BR k a0.2.2.2.2.2.2.1 a1.2.2.2.2.2.2.1).bind fun x2=>cond x2 ((Nj k a0.2.2.2.2.2.2.2.1 a1.2.2.2.2.2.2.2.1).bind fun x3=>cond x3 ((uB k a0.2.2.2.2.2.2.2.2.1 a1.2.2.2.2.2.2.2.2.1).bind fun x4=>some x4)<|some false)<|some false)<|some false)<|some false)<|some false)<|some false)<|some false
def C9 (k:Nat):Option qV:=
 some (0,[],[],[],[],[],[],[],[],0,false)
def tv (k:Nat):Option Bool:=
 some true
def Nt (k:Nat)(a1:Int)(a2:AC):Option (List qJ):=
 (tv k).bind fun x0=>cond x0 (some [])<|(BN k a2).bind fun x1=>cond (!(decide (x1.2=0))) ((NS k a1 x1.2).bind fun x2=>some x2) none
def IL (k:Nat):Option Bool:=
 (Ni k 20000).bind fun x0=>(lG k 0).bind fun x1=>(ja k x1 x0 100).bind fun x2=>match x2 with
 |.inl x3=>(eZ k 10 [0,5]).bind fun x4=>(tn k x4).bind fun x5=>match x5 with
  |.inl x6=>(zu k x3.2.2.1 x3.2.2.2 x3.2.1 (-1) []).bind fun x7=>(lG k 0).bind fun x8=>(ja k x8 x7.2.2.2 100).bind fun x9=>match x9 with
   |.inl bC=>(vw k bC.2.2.1 bC.2.2.2 bC.2.1).bind fun dr=>(lG k 0).bind fun ik=>(ja k ik dr.2.2.2 0).bind fun oF=>match oF with
    | .inl oG=>cond (decide (x3.1=0)) (cond (decide ((x7.1.length : Int)=0)) (cond (decide (bC.1=0)) (cond (decide ((dr.1.2.1.length : Int)=3)) (cond (zB 0 dr.1.2.1.length) (cond (decide ((dr.1.2.1.getD 0 (0,0,0)).1=5)) ((rf k x7.2.1 x7.2.2.1 oG.2.1).bind fun bD=>cond (!bD.1) (some (decide (oG.1=1)))<|some false)<|some false) none)<|some false)<|some false)<|some false)<|some false
    | .inr ee=>cond (decide (x3.1=0)) (cond (decide ((x7.1.length : Int)=0)) (cond (decide (bC.1=0)) (cond (decide ((dr.1.2.1.length : Int)=3)) (cond (zB 0 dr.1.2.1.length) (cond (decide ((dr.1.2.1.getD 0 (0,0,0)).1=5)) ((rf k x7.2.1 x7.2.2.1 ee.2).bind fun cq=>cond (!cq.1) (some (decide (ee.1=1)))<|some false)<|some false) none)<|some false)<|some false)<|some false)<|some false
   |.inr dt=>(C9 k).bind fun kl=>(lG k 0).bind fun lL=>(ja k lL dt.2 0).bind fun pI=>match pI with
    | .inl nA=>cond (decide (x3.1=0)) (cond (decide ((x7.1.length : Int)=0)) (cond (decide (dt.1=0)) (cond (decide ((kl.2.1.length : Int)=3)) (cond (zB 0 kl.2.1.length) (cond (decide ((kl.2.1.getD 0 (0,0,0)).1=5)) ((rf k x7.2.1 x7.2.2.1 nA.2.1).bind fun x23=>cond (!x23.1) (some (decide (nA.1=1)))<|some false)<|some false) none)<|some false)<|some false)<|some false)<|some false
    | .inr rH=>cond (decide (x3.1=0)) (cond (decide ((x7.1.length : Int)=0)) (cond (decide (dt.1=0)) (cond (decide ((kl.2.1.length : Int)=3)) (cond (zB 0 kl.2.1.length) (cond (decide ((kl.2.1.getD 0 (0,0,0)).1=5)) ((rf k x7.2.1 x7.2.2.1 rH.2).bind fun x25=>cond (!x25.1) (some (decide (rH.1=1)))<|some false)<|some false) none)<|some false)<|some false)<|some false)<|some false
  |.inr x26=>(zu k x3.2.2.1 x3.2.2.2 x3.2.1 (-1) x26).bind fun nB=>(lG k 0).bind fun x28=>(ja k x28 nB.2.2.2 100).bind fun vz=>match vz with
   |.inl Dp=>(vw k Dp.2.2.1 Dp.2.2.2 Dp.2.1).bind fun v9=>(lG k 0).bind fun x32=>(ja k x32 v9.2.2.2 0).bind fun Ts=>match Ts with
    | .inl Tt=>cond (decide (x3.1=0)) (cond (decide ((nB.1.length : Int)=0)) (cond (decide (Dp.1=0)) (cond (decide ((v9.1.2.1.length : Int)=3)) (cond (zB 0 v9.1.2.1.length) (cond (decide ((v9.1.2.1.getD 0 (0,0,0)).1=5)) ((rf k nB.2.1 nB.2.2.1 Tt.2.1).bind fun wa=>cond (!wa.1) (some (decide (Tt.1=1)))<|some false)<|some false) none)<|some false)<|some false)<|some false)<|some false
    | .inr Tu=>cond (decide (x3.1=0)) (cond (decide ((nB.1.length : Int)=0)) (cond (decide (Dp.1=0)) (cond (decide ((v9.1.2.1.length : Int)=3)) (cond (zB 0 v9.1.2.1.length) (cond (decide ((v9.1.2.1.getD 0 (0,0,0)).1=5)) ((rf k nB.2.1 nB.2.2.1 Tu.2).bind fun x37=>cond (!x37.1) (some (decide (Tu.1=1)))<|some false)<|some false) none)<|some false)<|some false)<|some false)<|some false
   |.inr NU=>(C9 k).bind fun AJ=>(lG k 0).bind fun x40=>(ja k x40 NU.2 0).bind fun x41=>match x41 with
    | .inl NV=>cond (decide (x3.1=0)) (cond (decide ((nB.1.length : Int)=0)) (cond (decide (NU.1=0)) (cond (decide ((AJ.2.1.length : Int)=3)) (cond (zB 0 AJ.2.1.length) (cond (decide ((AJ.2.1.getD 0 (0,0,0)).1=5)) ((rf k nB.2.1 nB.2.2.1 NV.2.1).bind fun x43=>cond (!x43.1) (some (decide (NV.1=1)))<|some false)<|some false) none)<|some false)<|some false)<|some false)<|some false
    | .inr wb=>cond (decide (x3.1=0)) (cond (decide ((nB.1.length : Int)=0)) (cond (decide (NU.1=0)) (cond (decide ((AJ.2.1.length : Int)=3)) (cond (zB 0 AJ.2.1.length) (cond (decide ((AJ.2.1.getD 0 (0,0,0)).1=5)) ((rf k nB.2.1 nB.2.2.1 wb.2).bind fun x45=>cond (!x45.1) (some (decide (wb.1=1)))<|some false)<|some false) none)<|some false)<|some false)<|some false)<|some false
 |.inr pJ=>(eZ k 10 [0,5]).bind fun x47=>(tn k x47).bind fun x48=>match x48 with
  |.inl x49=>(Nt k (-1) []).bind fun Tv=>(lG k 0).bind fun x51=>(ja k x51 pJ.2 100).bind fun x52=>match x52 with
   |.inl NW=>(vw k NW.2.2.1 NW.2.2.2 NW.2.1).bind fun Dq=>(lG k 0).bind fun x55=>(ja k x55 Dq.2.2.2 0).bind fun x56=>match x56 with
    | .inl x57=>cond (decide (pJ.1=0)) (cond (decide ((Tv.length : Int)=0)) (cond (decide (NW.1=0)) (cond (decide ((Dq.1.2.1.length : Int)=3)) (cond (zB 0 Dq.1.2.1.length) (cond (decide ((Dq.1.2.1.getD 0 (0,0,0)).1=5)) ((tv k).bind fun x58=>cond (!x58) (some (decide (x57.1=1)))<|some false)<|some false) none)<|some false)<|some false)<|some false)<|some false
    | .inr x59=>cond (decide (pJ.1=0)) (cond (decide ((Tv.length : Int)=0)) (cond (decide (NW.1=0)) (cond (decide ((Dq.1.2.1.length : Int)=3)) (cond (zB 0 Dq.1.2.1.length) (cond (decide ((Dq.1.2.1.getD 0 (0,0,0)).1=5)) ((tv k).bind fun x60=>cond (!x60) (some (decide (x59.1=1)))<|some false)<|some false) none)<|some false)<|some false)<|some false)<|some false
   |.inr x61=>(C9 k).bind fun Ja=>(lG k 0).bind fun x63=>(ja k x63 x61.2 0).bind fun x64=>match x64 with
    | .inl x65=>cond (decide (pJ.1=0)) (cond (decide ((Tv.length : Int)=0)) (cond (decide (x61.1=0)) (cond (decide ((Ja.2.1.length : Int)=3)) (cond (zB 0 Ja.2.1.length) (cond (decide ((Ja.2.1.getD 0 (0,0,0)).1=5)) ((tv k).bind fun x66=>cond (!x66) (some (decide (x65.1=1)))<|some false)<|some false) none)<|some false)<|some false)<|some false)<|some false
    | .inr x67=>cond (decide (pJ.1=0)) (cond (decide ((Tv.length : Int)=0)) (cond (decide (x61.1=0)) (cond (decide ((Ja.2.1.length : Int)=3)) (cond (zB 0 Ja.2.1.length) (cond (decide ((Ja.2.1.getD 0 (0,0,0)).1=5)) ((tv k).bind fun x68=>cond (!x68) (some (decide (x67.1=1)))<|some false)<|some false) none)<|some false)<|some false)<|some false)<|some false
  |.inr x69=>(Nt k (-1) x69).bind fun Tw=>(lG k 0).bind fun x71=>(ja k x71 pJ.2 100).bind fun x72=>match x72 with
   |.inl NX=>(vw k NX.2.2.1 NX.2.2.2 NX.2.1).bind fun Dr=>(lG k 0).bind fun x75=>(ja k x75 Dr.2.2.2 0).bind fun x76=>match x76 with
    | .inl x77=>cond (decide (pJ.1=0)) (cond (decide ((Tw.length : Int)=0)) (cond (decide (NX.1=0)) (cond (decide ((Dr.1.2.1.length : Int)=3)) (cond (zB 0 Dr.1.2.1.length) (cond (decide ((Dr.1.2.1.getD 0 (0,0,0)).1=5)) ((tv k).bind fun x78=>cond (!x78) (some (decide (x77.1=1)))<|some false)<|some false) none)<|some false)<|some false)<|some false)<|some false
    | .inr x79=>cond (decide (pJ.1=0)) (cond (decide ((Tw.length : Int)=0)) (cond (decide (NX.1=0)) (cond (decide ((Dr.1.2.1.length : Int)=3)) (cond (zB 0 Dr.1.2.1.length) (cond (decide ((Dr.1.2.1.getD 0 (0,0,0)).1=5)) ((tv k).bind fun x80=>cond (!x80) (some (decide (x79.1=1)))<|some false)<|some false) none)<|some false)<|some false)<|some false)<|some false
   |.inr x81=>(C9 k).bind fun Jb=>(lG k 0).bind fun x83=>(ja k x83 x81.2 0).bind fun x84=>match x84 with
    | .inl x85=>cond (decide (pJ.1=0)) (cond (decide ((Tw.length : Int)=0)) (cond (decide (x81.1=0)) (cond (decide ((Jb.2.1.length : Int)=3)) (cond (zB 0 Jb.2.1.length) (cond (decide ((Jb.2.1.getD 0 (0,0,0)).1=5)) ((tv k).bind fun x86=>cond (!x86) (some (decide (x85.1=1)))<|some false)<|some false) none)<|some false)<|some false)<|some false)<|some false
    | .inr x87=>cond (decide (pJ.1=0)) (cond (decide ((Tw.length : Int)=0)) (cond (decide (x81.1=0)) (cond (decide ((Jb.2.1.length : Int)=3)) (cond (zB 0 Jb.2.1.length) (cond (decide ((Jb.2.1.getD 0 (0,0,0)).1=5)) ((tv k).bind fun x88=>cond (!x88) (some (decide (x87.1=1)))<|some false)<|some false) none)<|some false)<|some false)<|some false)<|some false
abbrev yE0:Type:=((List qJ)×Int×gP×vS×Ds×AC×AC×gP×vS×Dn×AC×AC)⊕((List qJ)×Int×gP×vS×Ds×AC×AC)⊕((List qJ)×Int×gP×vS×Dn×AC×AC)⊕((List qJ)×Int)→Option (Unit⊕Bool)
def IK (k:Nat)(rec:yE0)(z:((List qJ)×Int×gP×vS×Ds×AC×AC×gP×vS×Dn×AC×AC)⊕((List qJ)×Int×gP×vS×Ds×AC×AC)⊕((List qJ)×Int×gP×vS×Dn×AC×AC)⊕((List qJ)×Int)):Option (Unit⊕Bool):=match z with
 | .inl z=>cond (decide (z.2.1<z.1.length)) (cond (zB z.2.1 z.1.length) ((tn k (z.1.getD z.2.1.toNat (0,0,0,0,0,0,0,0)).2).bind fun oF=>match oF with
    | .inl oG=>cond (zB z.2.1 z.1.length) ((zu k z.2.2.1 z.2.2.2.1 (z.2.2.2.2.1.1,z.2.2.2.2.2.1,z.2.2.2.2.1.2.1,z.2.2.2.2.2.2.1,z.2.2.2.2.1.2.2) (z.1.getD z.2.1.toNat (0,0,0,0,0,0,0,0)).1 []).bind fun bD=>cond (zB z.2.1 z.1.length) ((zv k z.2.2.2.2.2.2.2.1 z.2.2.2.2.2.2.2.2.1 (z.2.2.2.2.2.2.2.2.2.2.1,z.2.2.2.2.2.2.2.2.2.2.2,z.2.2.2.2.2.2.2.2.2.1) (z.1.getD z.2.1.toNat (0,0,0,0,0,0,0,0)).1 []).bind fun ee=>(uQ k bD.1 ee.1).bind fun cq=>cond (!cq) (some (.inr false))<|(vw k bD.2.1 bD.2.2.1 bD.2.2.2).bind fun dt=>(zy k dt.1 (gM ee.2.1)).bind fun kl=>cond (!kl) (some (.inr false))<|rec (.inl (z.1,(zA (z.2.1+1)),dt.2.1,dt.2.2.1,(dt.2.2.2.1,dt.2.2.2.2.2.1,dt.2.2.2.2.2.2.2),dt.2.2.2.2.1,dt.2.2.2.2.2.2.1,ee.2.1,ee.2.2.1,ee.2.2.2.2.2,ee.2.2.2.1,ee.2.2.2.2.1))) none)<|none
    | .inr lL=>cond (zB z.2.1 z.1.length) ((zu k z.2.2.1 z.2.2.2.1 (z.2.2.2.2.1.1,z.2.2.2.2.2.1,z.2.2.2.2.1.2.1,z.2.2.2.2.2.2.1,z.2.2.2.2.1.2.2) (z.1.getD z.2.1.toNat (0,0,0,0,0,0,0,0)).1 lL).bind fun pI=>cond (zB z.2.1 z.1.length) ((zv k z.2.2.2.2.2.2.2.1 z.2.2.2.2.2.2.2.2.1 (z.2.2.2.2.2.2.2.2.2.2.1,z.2.2.2.2.2.2.2.2.2.2.2,z.2.2.2.2.2.2.2.2.2.1) (z.1.getD z.2.1.toNat (0,0,0,0,0,0,0,0)).1 lL).bind fun nA=>(uQ k pI.1 nA.1).bind fun x23=>cond (!x23) (some (.inr false))<|(vw k pI.2.1 pI.2.2.1 pI.2.2.2).bind fun rH=>(zy k rH.1 (gM nA.2.1)).bind fun x25=>cond (!x25) (some (.inr false))<|rec (.inl (z.1,(zA (z.2.1+1)),rH.2.1,rH.2.2.1,(rH.2.2.2.1,rH.2.2.2.2.2.1,rH.2.2.2.2.2.2.2),rH.2.2.2.2.1,rH.2.2.2.2.2.2.1,nA.2.1,nA.2.2.1,nA.2.2.2.2.2,nA.2.2.2.1,nA.2.2.2.2.1))) none) none) none)<|some (.inl ())
 |.inr (.inl z1)=>some (.inl ())
 | .inr (.inr (.inl z2))=>cond (decide (z2.2.1<z2.1.length)) (cond (zB z2.2.1 z2.1.length) ((tn k (z2.1.getD z2.2.1.toNat (0,0,0,0,0,0,0,0)).2).bind fun x26=>match x26 with
    | .inl nB=>cond (zB z2.2.1 z2.1.length) ((Nt k (z2.1.getD z2.2.1.toNat (0,0,0,0,0,0,0,0)).1 []).bind fun x28=>cond (zB z2.2.1 z2.1.length) ((zv k z2.2.2.1 z2.2.2.2.1 (z2.2.2.2.2.2.1,z2.2.2.2.2.2.2,z2.2.2.2.2.1) (z2.1.getD z2.2.1.toNat (0,0,0,0,0,0,0,0)).1 []).bind fun vz=>(uQ k x28 vz.1).bind fun Dp=>cond (!Dp) (some (.inr false))<|(C9 k).bind fun v9=>(zy k v9 (gM vz.2.1)).bind fun x32=>cond (!x32) (some (.inr false))<|rec (.inr (.inr (.inl (z2.1,(zA (z2.2.1+1)),vz.2.1,vz.2.2.1,vz.2.2.2.2.2,vz.2.2.2.1,vz.2.2.2.2.1))))) none)<|none
    | .inr Ts=>cond (zB z2.2.1 z2.1.length) ((Nt k (z2.1.getD z2.2.1.toNat (0,0,0,0,0,0,0,0)).1 Ts).bind fun Tt=>cond (zB z2.2.1 z2.1.length) ((zv k z2.2.2.1 z2.2.2.2.1 (z2.2.2.2.2.2.1,z2.2.2.2.2.2.2,z2.2.2.2.2.1) (z2.1.getD z2.2.1.toNat (0,0,0,0,0,0,0,0)).1 Ts).bind fun wa=>(uQ k Tt wa.1).bind fun Tu=>cond (!Tu) (some (.inr false))<|(C9 k).bind fun x37=>(zy k x37 (gM wa.2.1)).bind fun NU=>cond (!NU) (some (.inr false))<|rec (.inr (.inr (.inl (z2.1,(zA (z2.2.1+1)),wa.2.1,wa.2.2.1,wa.2.2.2.2.2,wa.2.2.2.1,wa.2.2.2.2.1))))) none) none) none)<|some (.inl ())
 |.inr (.inr (.inr z3))=>some (.inl ())
def nr (k:Nat):Nat→yE0:=qW (fun _=>none) (IK k)
def R3 (k:Nat)(a0 a1:AC)(a2:List qJ):Option Bool:=
 cond (decide ((a0.length:Int)>600)) (some true)<|cond (decide ((a1.length:Int)>600)) (some true)<|cond (decide ((a2.length:Int)>20)) (some true)<|(lG k 0).bind fun x0=>(Ni k 20000).bind fun x1=>(qQ5 k 20000).bind fun x2=>(mn k x1 0 a0).bind fun x3=>(mn k x3.2 1 a1).bind fun x4=>(nW k x4.2).bind fun x5=>(ym k x2 0 a0).bind fun x6=>(ym k x6.2 1 a1).bind fun x7=>(yn k x7.2).bind fun x8=>(ja k x0 x5.2 5).bind fun x9=>match x9 with
 |.inl bC=>(Nl k x0 x8.2 5).bind fun dr=>match dr with
  |.inl ik=>cond (!(decide (bC.1=ik.1))) (some false)<|cond (!(fP false false)) (some false)<|(nr k k (.inl (a2,0,bC.2.2.1,bC.2.2.2,(bC.2.1.1,bC.2.1.2.2.1,bC.2.1.2.2.2.2),bC.2.1.2.1,bC.2.1.2.2.2.1,ik.2.2.1,ik.2.2.2,ik.2.1.2.2,ik.2.1.1,ik.2.1.2.1))).bind fun z4=>match z4 with
   |.inl z5=>(IL k).bind fun AJ=>some AJ
   |.inr z6=>some z6
  |.inr x40=>cond (!(decide (bC.1=x40.1))) (some false)<|cond (!(fP false true)) (some false)<|(nr k k (.inr (.inl (a2,0,bC.2.2.1,bC.2.2.2,(bC.2.1.1,bC.2.1.2.2.1,bC.2.1.2.2.2.2),bC.2.1.2.1,bC.2.1.2.2.2.1)))).bind fun z7=>match z7 with
   |.inl z8=>(IL k).bind fun x41=>some x41
   |.inr z9=>some z9
 |.inr NV=>(Nl k x0 x8.2 5).bind fun x43=>match x43 with
  |.inl wb=>cond (!(decide (NV.1=wb.1))) (some false)<|cond (!(fP true false)) (some false)<|(nr k k (.inr (.inr (.inl (a2,0,wb.2.2.1,wb.2.2.2,wb.2.1.2.2,wb.2.1.1,wb.2.1.2.1))))).bind fun MB=>match MB with
   |.inl MC=>(IL k).bind fun x45=>some x45
   |.inr Cz=>some Cz
  |.inr pJ=>cond (!(decide (NV.1=pJ.1))) (some false)<|cond (!(fP true true)) (some false)<|(nr k k (.inr (.inr (.inr (a2,0))))).bind fun CA=>match CA with
   |.inl z14=>(IL k).bind fun x47=>some x47
   |.inr z15=>some z15
end Go.Ab.Gi
