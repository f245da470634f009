/- part 5 -/
import Derived.Test.YthjmejbmbagljaaGreatGiXSa
set_option linter.unusedVariables false
set_option maxRecDepth 100000
namespace Go.Ab.Gi
abbrev yEc:Type:=Int×Bool×(List zD)×(List zD)×(List zD)
abbrev qT4:Type:=Int→Bool→Int→List zD→List zD→List zD→Option yEc
def F8 (k:Nat)(rec:qT4):qT4:=fun s7 s9 av r0 r1 r2=>
 cond (decide (av<r2.length)) (cond s9 (cond (zB av r2.length) (rec s7 (decide ((r2.getD av.toNat apa).2.2.2.2.1=3)) (zA (av+1)) r0 r1 r2) none)<|rec s7 false (zA (av+1)) r0 r1 r2)<|some (s7,s9,r0,r1,r2)
def F7 (k:Nat):Nat→qT4
 |0,_,_,_,_,_,_=>none
 |n+1,s7,s9,av,r0,r1,r2=>F8 k (F7 k n) s7 s9 av r0 r1 r2
abbrev qWl:Type:=Int→List zD→List zD→Option yCz
def F9 (k:Nat)(rec:qWl):qWl:=fun s7 r0 r1=>
 cond (decide (s7<r0.length)) (cond (zB s7 r0.length) ((uP k r0 (r0.getD s7.toNat apa).2.1).bind fun x1=>(F7 k k s7 true 0 r0 r1 x1).bind fun z=>cond (zB 0 z.2.2.2.2.length) (cond (zB z.1 z.2.2.1.length) (cond ((decide ((z.2.2.2.2.getD 0 apa).1=(z.2.2.1.getD z.1.toNat apa).1))&&((decide ((z.2.2.2.2.getD 0 apa).2.1=(z.2.2.1.getD z.1.toNat apa).2.1))&&((decide ((z.2.2.2.2.getD 0 apa).2.2.1=(z.2.2.1.getD z.1.toNat apa).2.2.1))&&((decide ((z.2.2.2.2.getD 0 apa).2.2.2.1=(z.2.2.1.getD z.1.toNat apa).2.2.2.1))&&((decide ((z.2.2.2.2.getD 0 apa).2.2.2.2.1=(z.2.2.1.getD z.1.toNat apa).2.2.2.2.1))&&((decide ((z.2.2.2.2.getD 0 apa).2.2.2.2.2.1=(z.2.2.1.getD z.1.toNat apa).2.2.2.2.2.1))&&(decide ((z.2.2.2.2.getD 0 apa).2.2.2.2.2.2=(z.2.2.1.getD z.1.toNat apa).2.2.2.2.2.2)))))))) (cond (zB z.1 z.2.2.1.length) (cond (zO (z.2.2.2.1.length+1) 56) (let y0:List zD:=(z.2.2.2.1++[(z.2.2.1.getD z.1.toNat apa)])
        rec (zA (z.1+1)) z.2.2.1 y0) none) none)<|cond z.2.1 (cond (zB z.1 z.2.2.1.length) (cond (zO (z.2.2.2.1.length+1) 56) (let y1:List zD:=(z.2.2.2.1++[(z.2.2.1.getD z.1.toNat apa)])
        rec (zA (z.1+1)) z.2.2.1 y1) none) none)<|rec (zA (z.1+1)) z.2.2.1 z.2.2.2.1) none) none) none)<|some r1
def LK (k:Nat):Nat→qWl
 |0,_,_,_=>none
 |n+1,s7,r0,r1=>F9 k (LK k n) s7 r0 r1
def LJ (k:Nat)(a0:List zD)(a1:Int):Option (List zD):=
 (F4 k a0 a1).bind fun x0=>(LK k k 0 x0 []).bind fun z1=>some z1
def Qi (k:Nat)(au:List zK)(az:EQ)(ay:AC)(ax:EQ)(ie ct dz ez dA jc je:Int):Option Bool:=
 cond (decide (ct≥0)) (cond (decide (ct<au.length)) (cond (decide (dz≥0)) (cond (decide (dz<au.length)) (cond (!(decide (ct=dz))) (cond (decide (ez≥1)) (cond (decide (ez≤1099511627776)) (cond (decide (dA≥1)) (some (decide (dA≤3)))<|some false)<|some false)<|some false)<|some false)<|some false)<|some false)<|some false)<|some false
abbrev qR3:Type:=List zD→Int→List zK→EQ→AC→EQ→Option qMg
def Fz (k:Nat)(rec:qR3):qR3:=fun s1 s5 af ah aj ag=>
 cond (decide (s5<s1.length)) (cond (zB s5 s1.length) ((Qi k af ah aj ag (s1.getD s5.toNat apa).1 (s1.getD s5.toNat apa).2.1 (s1.getD s5.toNat apa).2.2.1 (s1.getD s5.toNat apa).2.2.2.1 (s1.getD s5.toNat apa).2.2.2.2.1 (s1.getD s5.toNat apa).2.2.2.2.2.1 (s1.getD s5.toNat apa).2.2.2.2.2.2).bind fun x0=>cond (!x0) (some (.inr false))<|rec s1 (zA (s5+1)) af ah aj ag) none)<|some (.inl s1)
def Lk (k:Nat):Nat→qR3
 |0,_,_,_,_,_,_=>none
 |n+1,s1,s5,af,ah,aj,ag=>Fz k (Lk k n) s1 s5 af ah aj ag
def Lj (k:Nat)(au:List zK)(az:EQ)(ay:AC)(ax:EQ)(a1:List zD):Option Bool:=
 (Lk k k a1 0 au az ay ax).bind fun z=>match z with
 |.inl z1=>some (decide ((z1.length:Int)≤64))
 |.inr z2=>some z2
abbrev qPp:Type:=EQ→Int→EQ→Option EQ
def Fq (k:Nat)(rec:qPp):qPp:=fun s0 s4 m0=>
 cond (decide (s4<s0.length)) (cond (zB s4 s0.length) (cond (zO (0+(s0.getD s4.toNat []).length) 8) (cond (zO (m0.length+1) 24) (rec s0 (zA (s4+1)) (m0++[(s0.getD s4.toNat [])])) none) none) none)<|some m0
def K7 (k:Nat):Nat→qPp
 |0,_,_,_=>none
 |n+1,s0,s4,m0=>Fq k (K7 k n) s0 s4 m0
def K8 (k:Nat)(a0:EQ):Option EQ:=
 (K7 k k a0 0 []).bind fun z=>some z
def pt (k:Nat)(au:List zK)(az:EQ)(ay:AC)(ax:EQ):Option AI:=
 cond (zO (0+au.length) 24) ((K8 k az).bind fun x0=>cond (zO (0+ay.length) 8) ((K8 k ax).bind fun x1=>some (au,x0,ay,x1)) none) none
abbrev yE2:Type:=List zD→Int→Int→Int→Int→Option vH
def FE (k:Nat)(rec:yE2):yE2:=fun s0 s1 s6 s7 s8=>
 cond (decide (s8<s0.length)) (cond (zB s8 s0.length) (cond (!(decide ((s0.getD s8.toNat apa).2.1=s1))) (rec s0 s1 s6 s7 (zA (s8+1)))<|cond (zB s8 s0.length) (cond (decide ((s0.getD s8.toNat apa).2.2.2.2.1=3)) (cond (zB s8 s0.length) (rec s0 s1 (zA (s6+(s0.getD s8.toNat apa).2.2.2.1)) s7 (zA (s8+1))) none)<|cond (zB s8 s0.length) (rec s0 s1 s6 (zA (s7+(s0.getD s8.toNat apa).2.2.2.1)) (zA (s8+1))) none) none) none)<|some (s6,s7)
def Ln (k:Nat):Nat→yE2
 |0,_,_,_,_,_=>none
 |n+1,s0,s1,s6,s7,s8=>FE k (Ln k n) s0 s1 s6 s7 s8
def Lm (k:Nat)(a0:List zD)(a1:Int):Option vH:=
 (Ln k k a0 a1 0 0 0).bind fun z=>some (z.1,z.2)
def Qq (k:Nat)(a0:List zD)(a1:Int):Option Int:=
 (Lm k a0 a1).bind fun x0=>some x0.2
def Lp (k:Nat)(jg jh ft a1:Int):Option Int:=
 cond (decide (a1≥ft)) (some 0)<|some (zA (ft-a1))
abbrev qZv:Type:=List zD→Int→Int→Int→Int→Option Int
def FD (k:Nat)(rec:qZv):qZv:=fun s0 s1 s2 s7 s8=>
 cond (decide (s8<s0.length)) (cond (zB s8 s0.length) (cond (decide ((s0.getD s8.toNat apa).2.1=s1)) (cond (zB s8 s0.length) (cond (decide ((s0.getD s8.toNat apa).2.2.1=s2)) (cond (zB s8 s0.length) (rec s0 s1 s2 (zA (s7+(s0.getD s8.toNat apa).2.2.2.1)) (zA (s8+1))) none)<|rec s0 s1 s2 s7 (zA (s8+1))) none)<|rec s0 s1 s2 s7 (zA (s8+1))) none)<|some s7
def Ll (k:Nat):Nat→qZv
 |0,_,_,_,_,_=>none
 |n+1,s0,s1,s2,s7,s8=>FD k (Ll k n) s0 s1 s2 s7 s8
def xT (k:Nat)(a0:List zD)(a1 a2:Int):Option Int:=
 (Ll k k a0 a1 a2 0 0).bind fun z=>some z
def Qo (k:Nat)(a0:List zD)(a1 a2:Int):Option Int:=
 (xT k a0 a1 a2).bind fun x0=>(xT k a0 a2 a1).bind fun x1=>some (zA (x0-x1))
abbrev qWd:Type:=EQ→Int→Int→Option (Unit⊕Bool)
def E8 (k:Nat)(rec:qWd):qWd:=fun s0 s1 s5=>
 cond (decide (s5<s1)) (cond (zB s5 s0.length) (cond (!(decide (((s0.getD s5.toNat []).length:Int)=s1))) (some (.inr false))<|rec s0 s1 (zA (s5+1))) none)<|some (.inl ())
def KZ (k:Nat):Nat→qWd
 |0,_,_,_=>none
 |n+1,s0,s1,s5=>E8 k (KZ k n) s0 s1 s5
def KY (k:Nat)(a0:EQ)(a1:Int):Option Bool:=
 cond (!(decide ((a0.length:Int)=a1))) (some false)<|(KZ k k a0 a1 0).bind fun z=>match z with
 |.inl z1=>some true
 |.inr z2=>some z2
def KW (k:Nat)(jg jh ft:Int):Option Bool:=
 cond (decide (jg>(-4611686018427387904))) (cond (decide (jg<4611686018427387904)) (cond (decide (jh≥0)) (cond (decide (jh≤2305843009213693952)) (cond (decide (ft≥0)) (some (decide (ft≤2305843009213693952)))<|some false)<|some false)<|some false)<|some false)<|some false
def KX (k:Nat)(a0:Int):Option Bool:=
 cond (decide (a0≥(-1))) (some (decide (a0≤2305843009213693952)))<|some false
abbrev yEe:Type:=(Int×Int×(List zK)×EQ×AC×EQ)⊕Bool
abbrev qNo:Type:=Int→Int→Int→List zK→EQ→AC→EQ→Option yEe
def Fa (k:Nat)(rec:qNo):qNo:=fun s3 s4 s5 af ah aj ag=>
 cond (decide (s5<s3)) (cond (zB s4 ah.length) (cond (zB s5 (ah.getD s4.toNat []).length) ((KX k ((ah.getD s4.toNat []).getD s5.toNat 0)).bind fun x4=>cond (!x4) (some (.inr false))<|cond (zB s4 ag.length) (cond (zB s5 (ag.getD s4.toNat []).length) (cond (decide (((ag.getD s4.toNat []).getD s5.toNat 0)≤(-72057594037927936))) (some (.inr false))<|cond (zB s4 ag.length) (cond (zB s5 (ag.getD s4.toNat []).length) (cond (decide (((ag.getD s4.toNat []).getD s5.toNat 0)≥72057594037927936)) (some (.inr false))<|cond (zB s4 ag.length) (cond (zB s5 (ag.getD s4.toNat []).length) (cond (zB s5 ag.length) (cond (zB s4 (ag.getD s5.toNat []).length) (cond (!(decide (((ag.getD s4.toNat []).getD s5.toNat 0)=(zA (0-((ag.getD s5.toNat []).getD s4.toNat 0)))))) (some (.inr false))<|rec s3 s4 (zA (s5+1)) af ah aj ag) none) none) none) none) none) none) none) none) none) none)<|some (.inl (s3,s4,af,ah,aj,ag))
def E9 (k:Nat):Nat→qNo
 |0,_,_,_,_,_,_,_=>none
 |n+1,s3,s4,s5,af,ah,aj,ag=>Fa k (E9 k n) s3 s4 s5 af ah aj ag
abbrev qNv:Type:=Int→Int→List zK→EQ→AC→EQ→Option (Unit⊕Bool)
def Fe (k:Nat)(rec:qNv):qNv:=fun s3 s4 af ah aj ag=>
 cond (decide (s4<s3)) (cond (zB s4 af.length) ((KW k (af.getD s4.toNat aoa).1 (af.getD s4.toNat aoa).2.1 (af.getD s4.toNat aoa).2.2).bind fun x2=>cond (!x2) (some (.inr false))<|cond (zB s4 aj.length) ((KX k (aj.getD s4.toNat 0)).bind fun x3=>cond (!x3) (some (.inr false))<|(E9 k k s3 s4 0 af ah aj ag).bind fun z=>match z with
    |.inl z1=>rec z1.1 (zA (z1.2.1+1)) z1.2.2.1 z1.2.2.2.1 z1.2.2.2.2.1 z1.2.2.2.2.2
    |.inr z2=>some (.inr z2)) none) none)<|some (.inl ())
def Fc (k:Nat):Nat→qNv
 |0,_,_,_,_,_,_=>none
 |n+1,s3,s4,af,ah,aj,ag=>Fe k (Fc k n) s3 s4 af ah aj ag
def Ff (k:Nat)(au:List zK)(az:EQ)(ay:AC)(ax:EQ):Option Bool:=
 cond (decide ((au.length:Int)<1)) (some false)<|cond (decide ((au.length:Int)>6)) (some false)<|(KY k az (au.length:Int)).bind fun x0=>cond (!x0) (some false)<|(KY k ax (au.length:Int)).bind fun x1=>cond (!x1) (some false)<|cond (!(decide ((ay.length:Int)=(au.length:Int)))) (some false)<|(Fc k k (au.length:Int) 0 au az ay ax).bind fun z3=>match z3 with
 |.inl z4=>some true
 |.inr z5=>some z5
abbrev qY1:Type:=(List zD)×Int×(List zK)×EQ×AC×EQ×(List zK)×EQ×AC×EQ
abbrev qM5:Type:=List zD→Int→Int→List zK→EQ→AC→EQ→List zK→EQ→AC→EQ→Option qY1
def FG (k:Nat)(rec:qM5):qM5:=fun s1 s7 s8 af ah aj ag r3 m4 r5 m6=>
 cond (decide (s8<r3.length)) ((Qo k s1 s7 s8).bind fun x4=>cond (zB s7 r3.length) (cond (zB s7 r3.length) (let y1:List zK:=(r3.set s7.toNat ((zA ((r3.getD s7.toNat aoa).1-x4)),(r3.getD s7.toNat aoa).2))
    cond (zB s7 m6.length) (cond (zB s7 m6.length) (cond (zB s8 (m6.getD s7.toNat []).length) (cond (zB s8 (m6.getD s7.toNat []).length) (let y2:EQ:=(m6.set s7.toNat ((m6.getD s7.toNat []).set s8.toNat (zA (((m6.getD s7.toNat []).getD s8.toNat 0)+x4))))
        rec s1 s7 (zA (s8+1)) af ah aj ag y1 m4 r5 y2) none) none) none) none) none) none)<|some (s1,s7,af,ah,aj,ag,r3,m4,r5,m6)
def FF (k:Nat):Nat→qM5
 |0,_,_,_,_,_,_,_,_,_,_,_=>none
 |n+1,s1,s7,s8,af,ah,aj,ag,r3,m4,r5,m6=>FG k (FF k n) s1 s7 s8 af ah aj ag r3 m4 r5 m6
abbrev qSf:Type:=List zD→Int→List zK→EQ→AC→EQ→List zK→EQ→AC→EQ→Option qZs
def FI (k:Nat)(rec:qSf):qSf:=fun s1 s7 af ah aj ag r3 m4 r5 m6=>
 cond (decide (s7<r3.length)) (cond (zB s7 r3.length) ((Qq k s1 s7).bind fun x2=>(Lp k (r3.getD s7.toNat aoa).1 (r3.getD s7.toNat aoa).2.1 (r3.getD s7.toNat aoa).2.2 x2).bind fun x3=>cond (zB s7 r3.length) (let y0:List zK:=(r3.set s7.toNat ((r3.getD s7.toNat aoa).1,(r3.getD s7.toNat aoa).2.1,x3))
    (FF k k s1 s7 0 af ah aj ag y0 m4 r5 m6).bind fun z=>rec z.1 (zA (z.2.1+1)) z.2.2.1 z.2.2.2.1 z.2.2.2.2.1 z.2.2.2.2.2.1 z.2.2.2.2.2.2.1 z.2.2.2.2.2.2.2.1 z.2.2.2.2.2.2.2.2.1 z.2.2.2.2.2.2.2.2.2) none) none)<|some (af,ah,aj,ag,r3,m4,r5,m6)
def FH (k:Nat):Nat→qSf
 |0,_,_,_,_,_,_,_,_,_,_=>none
 |n+1,s1,s7,af,ah,aj,ag,r3,m4,r5,m6=>FI k (FH k n) s1 s7 af ah aj ag r3 m4 r5 m6
def BZ (k:Nat)(au:List zK)(az:EQ)(ay:AC)(ax:EQ)(a1:List zD):Option ((List zK)×EQ×AC×EQ×Int):=
 (Lj k au az ay ax a1).bind fun x0=>cond (!x0) (some (au,az,ay,ax,1))<|(pt k au az ay ax).bind fun x1=>(FH k k a1 0 au az ay ax x1.1 x1.2.1 x1.2.2.1 x1.2.2.2).bind fun z1=>(Ff k z1.2.2.2.2.1 z1.2.2.2.2.2.1 z1.2.2.2.2.2.2.1 z1.2.2.2.2.2.2.2).bind fun x5=>cond (!x5) (some (vW z1 8))<|some (yUy z1 0)
abbrev qU0:Type:=Int→Int→Int→List zK→EQ→AC→EQ→Option Int
def FK (k:Nat)(rec:qU0):qU0:=fun s1 s5 s6 af ah aj ag=>
 cond (zB s1 ag.length) (cond (decide (s6<(ag.getD s1.toNat []).length)) (cond (zB s1 ag.length) (cond (zB s6 (ag.getD s1.toNat []).length) (rec s1 (zA (s5+((ag.getD s1.toNat []).getD s6.toNat 0))) (zA (s6+1)) af ah aj ag) none) none)<|some s5) none
def FJ (k:Nat):Nat→qU0
 |0,_,_,_,_,_,_,_=>none
 |n+1,s1,s5,s6,af,ah,aj,ag=>FK k (FJ k n) s1 s5 s6 af ah aj ag
def Qt (k:Nat)(au:List zK)(az:EQ)(ay:AC)(ax:EQ)(a1:Int):Option Int:=
 (FJ k k a1 0 0 au az ay ax).bind fun z=>some z
abbrev yD0:Type:=(Int×Int×Int×Int×Int×(List zK)×EQ×AC×EQ)⊕Bool
abbrev qMt:Type:=List zD→Int→Int→Int→Int→Int→Int→List zK→EQ→AC→EQ→Option yD0
def FM (k:Nat)(rec:qMt):qMt:=fun s1 s2 s7 s8 s9 av aP af ah aj ag=>
 cond (decide (aP<af.length)) ((xT k s1 s2 aP).bind fun x2=>(xT k s1 aP s2).bind fun x3=>(xT k s1 s2 aP).bind fun x4=>cond (decide (x4>0)) (cond (zB s2 ah.length) (cond (zB aP (ah.getD s2.toNat []).length) (cond (!(decide (((ah.getD s2.toNat []).getD aP.toNat 0)=(-1)))) (cond (zB s2 ag.length) (cond (zB aP (ag.getD s2.toNat []).length) (cond (zB s2 ah.length) (cond (zB aP (ah.getD s2.toNat []).length) (cond (decide ((zA (((ag.getD s2.toNat []).getD aP.toNat 0)+(zA (x2-x3))))>((ah.getD s2.toNat []).getD aP.toNat 0))) (some (.inr true))<|rec s1 s2 s7 s8 (zA (s9-(zA (x2-x3)))) (zA (av+(zA (x2-x3)))) (zA (aP+1)) af ah aj ag) none) none) none) none)<|rec s1 s2 s7 s8 (zA (s9-(zA (x2-x3)))) (zA (av+(zA (x2-x3)))) (zA (aP+1)) af ah aj ag) none) none)<|rec s1 s2 s7 s8 (zA (s9-(zA (x2-x3)))) (zA (av+(zA (x2-x3)))) (zA (aP+1)) af ah aj ag)<|some (.inl (s2,s7,s8,s9,av,af,ah,aj,ag))
def sU (k:Nat):Nat→qMt
 |0,_,_,_,_,_,_,_,_,_,_,_=>none
 |n+1,s1,s2,s7,s8,s9,av,aP,af,ah,aj,ag=>FM k (sU k n) s1 s2 s7 s8 s9 av aP af ah aj ag
def Qw (k:Nat)(au:List zK)(az:EQ)(ay:AC)(ax:EQ)(a1:List zD)(a2:Int):Option Bool:=
 (Lm k a1 a2).bind fun x0=>cond (decide ((zA (x0.1+x0.2))=0)) (some false)<|cond (zB a2 au.length) (cond (zB a2 au.length) ((Qt k au az ay ax a2).bind fun x1=>(sU k k a1 a2 x0.1 x0.2 (zA ((au.getD a2.toNat aoa).1+(au.getD a2.toNat aoa).2.1)) x1 0 au az ay ax).bind fun z=>match z with
   |.inl z1=>cond (decide (z1.2.2.2.1<0)) (some true)<|cond (decide (z1.2.1>0)) (cond (zB z1.1 z1.2.2.2.2.2.1.length) ((Lp k (z1.2.2.2.2.2.1.getD z1.1.toNat aoa).1 (z1.2.2.2.2.2.1.getD z1.1.toNat aoa).2.1 (z1.2.2.2.2.2.1.getD z1.1.toNat aoa).2.2 z1.2.2.1).bind fun x5=>cond (decide (z1.2.2.2.1<x5)) (some true)<|cond (zB z1.1 z1.2.2.2.2.2.2.2.1.length) (cond (!(decide ((z1.2.2.2.2.2.2.2.1.getD z1.1.toNat 0)=(-1)))) (cond (zB z1.1 z1.2.2.2.2.2.2.2.1.length) (some (decide (z1.2.2.2.2.1>(z1.2.2.2.2.2.2.2.1.getD z1.1.toNat 0)))) none)<|some false) none) none)<|cond (zB z1.1 z1.2.2.2.2.2.2.2.1.length) (cond (!(decide ((z1.2.2.2.2.2.2.2.1.getD z1.1.toNat 0)=(-1)))) (cond (zB z1.1 z1.2.2.2.2.2.2.2.1.length) (some (decide (z1.2.2.2.2.1>(z1.2.2.2.2.2.2.2.1.getD z1.1.toNat 0)))) none)<|some false)<|none
   |.inr z2=>some z2) none) none
abbrev qPd:Type:=List zD→Int→List zK→EQ→AC→EQ→AC→Option AC
def sV (k:Nat)(rec:qPd):qPd:=fun s1 s6 af ah aj ag r1=>
 cond (decide (s6<af.length)) ((Qw k af ah aj ag s1 s6).bind fun x0=>cond x0 (cond (zO (r1.length+1) 8) (rec s1 (zA (s6+1)) af ah aj ag (r1++[s6])) none)<|rec s1 (zA (s6+1)) af ah aj ag r1)<|some r1
def uN (k:Nat):Nat→qPd
 |0,_,_,_,_,_,_,_=>none
 |n+1,s1,s6,af,ah,aj,ag,r1=>sV k (uN k n) s1 s6 af ah aj ag r1
def uM (k:Nat)(au:List zK)(az:EQ)(ay:AC)(ax:EQ)(a1:List zD):Option AC:=
 (uN k k a1 0 au az ay ax []).bind fun z=>some z
def Ls (k:Nat)(au:List zK)(az:EQ)(ay:AC)(ax:EQ)(a1:List zD):Option Bool:=
 (Lj k au az ay ax a1).bind fun x0=>cond x0 ((uM k au az ay ax a1).bind fun x1=>some (decide ((x1.length:Int)=0)))<|some false
def vr (k:Nat)(au:List zK)(az:EQ)(ay:AC)(ax:EQ)(a1:List zD):Option ((List zK)×EQ×AC×EQ×Bool):=
 (BZ k au az ay ax a1).bind fun x0=>cond (decide (x0.2.2.2.2=0)) ((Ls k au az ay ax a1).bind fun x1=>some (vW x0 x1))<|some (vW x0 false)
abbrev qN8:Type:=zD⊕(Bool×Int×Int×Int×Int×Int×Int×Int)
abbrev qS1:Type:=Int→List zK→EQ→AC→EQ→Int→Int→Int→Int→Int→Int→Int→List zD→Option qN8
def HO (k:Nat)(rec:qS1):qS1:=fun s9 af ah aj ag aw aD aE aG aJ aK aL r2=>
 cond (decide (s9<r2.length)) (cond (((decide (0≤s9))&&(decide (s9≤(zA (s9+1)))))&&(decide ((zA (s9+1))≤r2.length))) ((vr k af ah aj ag (qO r2 (0+s9.toNat) ((zA (s9+1)).toNat-s9.toNat))).bind fun x1=>cond x1.2.2.2.2 (cond (zB s9 r2.length) (some (.inr (true,(r2.getD s9.toNat apa).1,(r2.getD s9.toNat apa).2.1,(r2.getD s9.toNat apa).2.2.1,(r2.getD s9.toNat apa).2.2.2.1,(r2.getD s9.toNat apa).2.2.2.2.1,(r2.getD s9.toNat apa).2.2.2.2.2.1,(r2.getD s9.toNat apa).2.2.2.2.2.2))) none)<|rec (zA (s9+1)) af ah aj ag aw aD aE aG aJ aK aL r2) none)<|some (.inl (aw,aD,aE,aG,aJ,aK,aL))
def MS (k:Nat):Nat→qS1
 |0,_,_,_,_,_,_,_,_,_,_,_,_,_=>none
 |n+1,s9,af,ah,aj,ag,aw,aD,aE,aG,aJ,aK,aL,r2=>HO k (MS k n) s9 af ah aj ag aw aD aE aG aJ aK aL r2
def RN (k:Nat)(au:List zK)(az:EQ)(ay:AC)(ax:EQ)(a1:List zD)(a2:Int):Option (Int×Int×Int×Int×Int×Int×Int×Bool):=
 (LJ k a1 a2).bind fun x0=>(MS k k 0 au az ay ax 0 0 0 0 0 0 0 x0).bind fun z=>match z with
 |.inl z1=>some (0,0,0,0,0,0,0,false)
 |.inr z2=>some (vFy z2 z2.1)
abbrev qP5:Type:=List zD→Int→List zK→EQ→AC→EQ→List zD→Option qWt
def HP (k:Nat)(rec:qP5):qP5:=fun s1 s2 af ah aj ag r2=>
 (RN k af ah aj ag s1 s2).bind fun x0=>cond (!x0.2.2.2.2.2.2.2) (some (s1,af,ah,aj,ag,r2))<|(vr k af ah aj ag [(vS x0)]).bind fun x1=>(ow k s1 x0.1).bind fun x2=>cond (zO (r2.length+1) 56) (let y0:List zD:=(r2++[(vS x0)])
  rec x2.1 s2 x1.1 x1.2.1 x1.2.2.1 x1.2.2.2.1 y0) none
def MU (k:Nat):Nat→qP5
 |0,_,_,_,_,_,_,_=>none
 |n+1,s1,s2,af,ah,aj,ag,r2=>HP k (MU k n) s1 s2 af ah aj ag r2
def RO (k:Nat)(au:List zK)(az:EQ)(ay:AC)(ax:EQ)(a1:List zD)(a2:Int):Option tC:=
 (MU k k a1 a2 au az ay ax []).bind fun z=>some (iI z (z.1,z.2.2.2.2.2))
abbrev qPg:Type:=(Int×(List zK)×EQ×AC×EQ×Int×Int×Int×Int×Int×Int×Int×Int×Int×Int×Int×Int×Int×Int×(List zD))⊕(Bool×Int×Int×Int×Int×Int×Int×Int×Int×Int×Int×Int×Int×Int×Int)
abbrev qQ4:Type:=Int→Int→List zK→EQ→AC→EQ→Int→Int→Int→Int→Int→Int→Int→Int→Int→Int→Int→Int→Int→Int→List zD→Option qPg
def HQ (k:Nat)(rec:qQ4):qQ4:=fun av aP af ah aj ag aw aD aE aG aJ aK aL bc bU bV cV fu fw fx r3=>
 cond (decide (aP<r3.length)) (cond (zB av r3.length) (cond (zB aP r3.length) (cond (!(decide ((r3.getD aP.toNat apa).2.1=(r3.getD av.toNat apa).2.2.1))) (rec av (zA (aP+1)) af ah aj ag aw aD aE aG aJ aK aL bc bU bV cV fu fw fx r3)<|cond (!(decide ((r3.getD aP.toNat apa).2.2.1=(r3.getD av.toNat apa).2.1))) (rec av (zA (aP+1)) af ah aj ag aw aD aE aG aJ aK aL bc bU bV cV fu fw fx r3)<|cond (decide ((r3.getD av.toNat apa).2.1≥(r3.getD aP.toNat apa).2.1)) (rec av (zA (aP+1)) af ah aj ag aw aD aE aG aJ aK aL bc bU bV cV fu fw fx r3)<|(vr k af ah aj ag [(r3.getD av.toNat apa),(r3.getD aP.toNat apa)]).bind fun x1=>cond x1.2.2.2.2 (some (.inr (true,(gf (r3.getD av.toNat apa) ((r3.getD aP.toNat apa).1,(r3.getD aP.toNat apa).2.1,(r3.getD aP.toNat apa).2.2.1,(r3.getD aP.toNat apa).2.2.2.1,(r3.getD aP.toNat apa).2.2.2.2.1,(r3.getD aP.toNat apa).2.2.2.2.2.1,(r3.getD aP.toNat apa).2.2.2.2.2.2)))))<|rec av (zA (aP+1)) af ah aj ag aw aD aE aG aJ aK aL bc bU bV cV fu fw fx r3) none) none)<|some (.inl (av,af,ah,aj,ag,aw,aD,aE,aG,aJ,aK,aL,bc,bU,bV,cV,fu,fw,fx,r3))
def MW (k:Nat):Nat→qQ4
 |0,_,_,_,_,_,_,_,_,_,_,_,_,_,_,_,_,_,_,_,_,_=>none
 |n+1,av,aP,af,ah,aj,ag,aw,aD,aE,aG,aJ,aK,aL,bc,bU,bV,cV,fu,fw,fx,r3=>HQ k (MW k n) av aP af ah aj ag aw aD aE aG aJ aK aL bc bU bV cV fu fw fx r3
abbrev qQb:Type:=(Int×Int×Int×Int×Int×Int×Int×Int×Int×Int×Int×Int×Int×Int)⊕(Bool×Int×Int×Int×Int×Int×Int×Int×Int×Int×Int×Int×Int×Int×Int)
abbrev qWu:Type:=Int→List zK→EQ→AC→EQ→Int→Int→Int→Int→Int→Int→Int→Int→Int→Int→Int→Int→Int→Int→List zD→Option qQb
def HR (k:Nat)(rec:qWu):qWu:=fun av af ah aj ag aw aD aE aG aJ aK aL bc bU bV cV fu fw fx r3=>
 cond (decide (av<r3.length)) ((MW k k av 0 af ah aj ag aw aD aE aG aJ aK aL bc bU bV cV fu fw fx r3).bind fun z=>match z with
  |.inl z1=>rec (zA (z1.1+1)) z1.2.1 z1.2.2.1 z1.2.2.2.1 z1.2.2.2.2.1 z1.2.2.2.2.2.1 z1.2.2.2.2.2.2.1 z1.2.2.2.2.2.2.2.1 z1.2.2.2.2.2.2.2.2.1 z1.2.2.2.2.2.2.2.2.2.1 z1.2.2.2.2.2.2.2.2.2.2.1 z1.2.2.2.2.2.2.2.2.2.2.2.1 z1.2.2.2.2.2.2.2.2.2.2.2.2.1 z1.2.2.2.2.2.2.2.2.2.2.2.2.2.1 z1.2.2.2.2.2.2.2.2.2.2.2.2.2.2.1 z1.2.2.2.2.2.2.2.2.2.2.2.2.2.2.2.1 z1.2.2.2.2.2.2.2.2.2.2.2.2.2.2.2.2.1 z1.2.2.2.2.2.2.2.2.2.2.2.2.2.2.2.2.2.1 z1.2.2.2.2.2.2.2.2.2.2.2.2.2.2.2.2.2.2.1 z1.2.2.2.2.2.2.2.2.2.2.2.2.2.2.2.2.2.2.2
  |.inr z2=>some (.inr (z2.1,z2.2.1,z2.2.2.1,z2.2.2.2.1,z2.2.2.2.2.1,z2.2.2.2.2.2.1,z2.2.2.2.2.2.2.1,z2.2.2.2.2.2.2.2.1,z2.2.2.2.2.2.2.2.2.1,z2.2.2.2.2.2.2.2.2.2.1,z2.2.2.2.2.2.2.2.2.2.2.1,z2.2.2.2.2.2.2.2.2.2.2.2.1,z2.2.2.2.2.2.2.2.2.2.2.2.2.1,z2.2.2.2.2.2.2.2.2.2.2.2.2.2.1,z2.2.2.2.2.2.2.2.2.2.2.2.2.2.2)))<|some (.inl (aw,aD,aE,aG,aJ,aK,aL,bc,bU,bV,cV,fu,fw,fx))
def MX (k:Nat):Nat→qWu
 |0,_,_,_,_,_,_,_,_,_,_,_,_,_,_,_,_,_,_,_,_=>none
 |n+1,av,af,ah,aj,ag,aw,aD,aE,aG,aJ,aK,aL,bc,bU,bV,cV,fu,fw,fx,r3=>HR k (MX k n) av af ah aj ag aw aD aE aG aJ aK aL bc bU bV cV fu fw fx r3
def RP (k:Nat)(au:List zK)(az:EQ)(ay:AC)(ax:EQ)(a1:List zD)(a2:Int):Option (Int×Int×Int×Int×Int×Int×Int×Int×Int×Int×Int×Int×Int×Int×Bool):=
 (LJ k a1 a2).bind fun x0=>(MX k k 0 au az ay ax 0 0 0 0 0 0 0 0 0 0 0 0 0 0 x0).bind fun z3=>match z3 with
 |.inl z4=>some (0,0,0,0,0,0,0,0,0,0,0,0,0,0,false)
 |.inr z5=>some (vQe z5 z5.1)
def HS (k:Nat)(rec:qP5):qP5:=fun s1 s2 af ah aj ag r2=>
 (RP k af ah aj ag s1 s2).bind fun x0=>cond (!x0.2.2.2.2.2.2.2.2.2.2.2.2.2.2) (some (s1,af,ah,aj,ag,r2))<|(vr k af ah aj ag [(vS x0),(yC3 x0)]).bind fun x1=>(ow k s1 x0.1).bind fun x2=>(ow k x2.1 x0.2.2.2.2.2.2.2.1).bind fun x3=>cond (zO (r2.length+2) 56) (let y0:List zD:=(r2++[(vS x0),(yC3 x0)])
  rec x3.1 s2 x1.1 x1.2.1 x1.2.2.1 x1.2.2.2.1 y0) none
def MY (k:Nat):Nat→qP5
 |0,_,_,_,_,_,_,_=>none
 |n+1,s1,s2,af,ah,aj,ag,r2=>HS k (MY k n) s1 s2 af ah aj ag r2
def RQ (k:Nat)(au:List zK)(az:EQ)(ay:AC)(ax:EQ)(a1:List zD)(a2:Int):Option tC:=
 (MY k k a1 a2 au az ay ax []).bind fun z=>some (iI z (z.1,z.2.2.2.2.2))
def H2 (k:Nat)(rec:qP5):qP5:=fun s1 s2 af ah aj ag r2=>
 (RO k af ah aj ag s1 s2).bind fun x0=>(RQ k x0.1 x0.2.1 x0.2.2.1 x0.2.2.2.1 x0.2.2.2.2.1 s2).bind fun x1=>cond (zO (r2.length+x0.2.2.2.2.2.length) 56) (cond (zO ((r2++x0.2.2.2.2.2).length+x1.2.2.2.2.2.length) 56) (let y0:List zD:=((r2++x0.2.2.2.2.2)++x1.2.2.2.2.2)
   cond (decide ((x1.2.2.2.2.2.length:Int)=0)) (some (x1.2.2.2.2.1,(vW x1 y0)))<|rec x1.2.2.2.2.1 s2 x1.1 x1.2.1 x1.2.2.1 x1.2.2.2.1 y0) none) none
def M4 (k:Nat):Nat→qP5
 |0,_,_,_,_,_,_,_=>none
 |n+1,s1,s2,af,ah,aj,ag,r2=>H2 k (M4 k n) s1 s2 af ah aj ag r2
def M5 (k:Nat)(au:List zK)(az:EQ)(ay:AC)(ax:EQ)(a1:List zD)(a2:Int):Option tC:=
 (M4 k k a1 a2 au az ay ax []).bind fun z=>some (iI z (z.1,z.2.2.2.2.2))
abbrev qYl:Type:=List zD→AC→Int→List zD→Option yCz
def HV (k:Nat)(rec:qYl):qYl:=fun s0 s1 s6 r0=>
 cond (decide (s6<s0.length)) (cond ((decide (0≤s6))&&(decide (s6≤s0.length))) (cond (zB s6 s0.length) ((uP k (List.take s6.toNat s0) (s0.getD s6.toNat apa).2.1).bind fun x0=>cond (zB s6 s0.length) (cond (decide ((s0.getD s6.toNat apa).2.1≥0)) (cond (zB s6 s0.length) (cond (decide ((s0.getD s6.toNat apa).2.1<s1.length)) (cond (zB s6 s0.length) (cond (zB (s0.getD s6.toNat apa).2.1 s1.length) (cond (decide ((x0.length : Int)<(s1.getD (s0.getD s6.toNat apa).2.1.toNat 0))) (cond (zB s6 s0.length) (cond (zO (r0.length+1) 56) (let y0:List zD:=(r0++[(s0.getD s6.toNat apa)])
             rec s0 s1 (zA (s6+1)) y0) none) none)<|rec s0 s1 (zA (s6+1)) r0) none) none)<|rec s0 s1 (zA (s6+1)) r0) none)<|rec s0 s1 (zA (s6+1)) r0) none) none) none)<|some r0
def HU (k:Nat):Nat→qYl
 |0,_,_,_,_=>none
 |n+1,s0,s1,s6,r0=>HV k (HU k n) s0 s1 s6 r0
def HT (k:Nat)(a0:List zD)(a1:AC):Option (List zD):=
 (HU k k a0 a1 0 []).bind fun z=>some z
abbrev qWg:Type:=(List zK)×EQ×AC×EQ×(List zD)×AC
abbrev qUf:Type:=Int→List zK→EQ→AC→EQ→List zD→AC→Option qWg
def HW (k:Nat)(rec:qUf):qUf:=fun av af ah aj ag r1 r2=>
 cond (decide (av<af.length)) ((uP k r1 av).bind fun x1=>cond (zO (r2.length+1) 8) (rec (zA (av+1)) af ah aj ag r1 (r2++[(x1.length:Int)])) none)<|some (af,ah,aj,ag,r1,r2)
def CF (k:Nat):Nat→qUf
 |0,_,_,_,_,_,_,_=>none
 |n+1,av,af,ah,aj,ag,r1,r2=>HW k (CF k n) av af ah aj ag r1 r2
abbrev qTc:Type:=Int×(List zK)×EQ×AC×EQ×(List zD)×AC
abbrev yBd:Type:=Int→Int→List zK→EQ→AC→EQ→List zD→AC→AC→Option qTc
def HY (k:Nat)(rec:yBd):yBd:=fun aP bm af ah aj ag r1 r2 r3=>
 cond (decide (bm<r3.length)) (cond (zB bm r3.length) (cond (zB (r3.getD bm.toNat 0) r2.length) (cond (zB (r3.getD bm.toNat 0) r2.length) (let y0:AC:=(r2.set (r3.getD bm.toNat 0).toNat (zA ((r2.getD (r3.getD bm.toNat 0).toNat 0)-1)))
     rec aP (zA (bm+1)) af ah aj ag r1 y0 r3) none) none) none)<|some (aP,af,ah,aj,ag,r1,r2)
def HX (k:Nat):Nat→yBd
 |0,_,_,_,_,_,_,_,_,_=>none
 |n+1,aP,bm,af,ah,aj,ag,r1,r2,r3=>HY k (HX k n) aP bm af ah aj ag r1 r2 r3
abbrev qNl:Type:=Int→List zK→EQ→AC→EQ→List zD→AC→Option (Int×AC)
def HZ (k:Nat)(rec:qNl):qNl:=fun aP af ah aj ag r1 r2=>
 (HT k r1 r2).bind fun x2=>(uM k af ah aj ag x2).bind fun x3=>cond (decide ((x3.length:Int)=0)) (some (aP,r2))<|(HX k k aP 0 af ah aj ag r1 r2 x3).bind fun z1=>rec (zA (z1.1+1)) z1.2.1 z1.2.2.1 z1.2.2.2.1 z1.2.2.2.2.1 z1.2.2.2.2.2.1 z1.2.2.2.2.2.2
def MZ (k:Nat):Nat→qNl
 |0,_,_,_,_,_,_,_=>none
 |n+1,aP,af,ah,aj,ag,r1,r2=>HZ k (MZ k n) aP af ah aj ag r1 r2
def RR (k:Nat)(au:List zK)(az:EQ)(ay:AC)(ax:EQ)(a1:List zD)(a2:Int):Option (AC×Int):=
 (F4 k a1 a2).bind fun x0=>(CF k k 0 au az ay ax x0 []).bind fun z=>(MZ k k 1 z.1 z.2.1 z.2.2.1 z.2.2.2.1 z.2.2.2.2.1 z.2.2.2.2.2).bind fun z2=>some (z2.2,z2.1)
abbrev yDl:Type:=(List zD)×(List zD)×(List zK)×EQ×AC×EQ
abbrev yC5:Type:=List zD→Int→List zD→List zK→EQ→AC→EQ→Option yDl
def H0 (k:Nat)(rec:yC5):yC5:=fun s1 bh r1 bc bU bV cV=>
 cond (decide (bh<r1.length)) (cond (zB bh r1.length) ((ow k s1 (r1.getD bh.toNat apa).1).bind fun x4=>rec x4.1 (zA (bh+1)) r1 bc bU bV cV) none)<|some (s1,r1,bc,bU,bV,cV)
def CG (k:Nat):Nat→yC5
 |0,_,_,_,_,_,_,_=>none
 |n+1,s1,bh,r1,bc,bU,bV,cV=>H0 k (CG k n) s1 bh r1 bc bU bV cV
def M3 (k:Nat)(au:List zK)(az:EQ)(ay:AC)(ax:EQ)(a1:List zD)(a2:Int):Option tC:=
 (RR k au az ay ax a1 a2).bind fun x0=>(F4 k a1 a2).bind fun x1=>(HT k x1 x0.1).bind fun x2=>(BZ k au az ay ax x2).bind fun x3=>cond (!(decide (x3.2.2.2.2=0))) (some (au,az,ay,ax,a1,[]))<|(CG k k a1 0 x2 x3.1 x3.2.1 x3.2.2.1 x3.2.2.2.1).bind fun z=>some (Cz z (z.1,z.2.1))
def RT (k:Nat)(au:List zK)(az:EQ)(ay:AC)(ax:EQ)(a1:List zD)(a2:Int)(a3:Bool):Option tC:=
 (M5 k au az ay ax a1 a2).bind fun x0=>cond (!a3) (some (x0.1,x0.2.1,x0.2.2.1,x0.2.2.2.1,x0.2.2.2.2.1,x0.2.2.2.2.2))<|(M3 k x0.1 x0.2.1 x0.2.2.1 x0.2.2.2.1 x0.2.2.2.2.1 a2).bind fun x1=>cond (decide ((x1.2.2.2.2.2.length:Int)=0)) (some (x0.1,x0.2.1,x0.2.2.1,x0.2.2.2.1,x0.2.2.2.2.1,x0.2.2.2.2.2))<|(M5 k x1.1 x1.2.1 x1.2.2.1 x1.2.2.2.1 x1.2.2.2.2.1 a2).bind fun x2=>cond (zO (x0.2.2.2.2.2.length+x1.2.2.2.2.2.length) 56) (cond (zO ((x0.2.2.2.2.2++x1.2.2.2.2.2).length+x2.2.2.2.2.2.length) 56) (let y0:List zD:=((x0.2.2.2.2.2++x1.2.2.2.2.2)++x2.2.2.2.2.2)
   some (fL x2 y0)) none) none
abbrev qUd:Type:=List zD→Int→List qU→Option qWn
def G2 (k:Nat)(rec:qUd):qUd:=fun s0 s4 r0=>
 cond (decide (s4<s0.length)) (cond (zB s4 s0.length) ((eQ k 18 [(s0.getD s4.toNat apa).1,(s0.getD s4.toNat apa).2.1,(s0.getD s4.toNat apa).2.2.1,(s0.getD s4.toNat apa).2.2.2.1]).bind fun x0=>cond (zO (r0.length+2) 64) (let y0:List qU:=(r0++[((s0.getD s4.toNat apa).2.1,x0),((s0.getD s4.toNat apa).2.2.1,x0)])
    rec s0 (zA (s4+1)) y0) none) none)<|some r0
def Mp (k:Nat):Nat→qUd
 |0,_,_,_=>none
 |n+1,s0,s4,r0=>G2 k (Mp k n) s0 s4 r0
def Re (k:Nat)(a0:List zD):Option (List qU):=
 (Mp k k a0 0 []).bind fun z=>some z
def oz (k:Nat)(mI:Int)(rz:List zK)(rA:EQ)(rC:AC)(rD:EQ)(rE:AC)(rF:EQ)(mJ:List zD)(rG:AC)(rH:Int)(rI a1:Bool):Option TQ:=
 (RT k rz rA rC rD mJ mI a1).bind fun x0=>(Re k x0.2.2.2.2.2).bind fun x1=>some (mI,(vW x0 (rE,rF,x0.2.2.2.2.1,rG,rH,rI,x1)))
abbrev qPz:Type:=qY×yS×(List qU)
abbrev qOd:Type:=List zD→Int→qY→yS→List qU→Option qPz
def H3 (k:Nat)(rec:qOd):qOd:=fun s7 s8 b0 b1 r2=>
 cond (decide (s8<s7.length)) (cond (zB s8 s7.length) (cond (zB s8 s7.length) ((eQ k 22 [(s7.getD s8.toNat apa).1]).bind fun x1=>cond (zO (r2.length+1) 64) (let y0:List qU:=(r2++[((s7.getD s8.toNat apa).2.1,x1)])
     rec s7 (zA (s8+1)) b0 b1 y0) none) none) none)<|some (b0,b1,r2)
def zg (k:Nat):Nat→qOd:=qZ (fun _ _ _ _ _=>none) (H3 k)
abbrev qNa:Type:=Int→qY→yS→List qU→Option qPz
def H4 (k:Nat)(rec:qNa):qNa:=fun s9 b0 b1 r2=>
 cond (decide (s9<b0.2.1.length)) (cond (zB s9 b0.2.1.length) ((eQ k 23 [(b0.2.1.getD s9.toNat aoa).1]).bind fun x2=>cond (zO (r2.length+1) 64) (rec (zA (s9+1)) b0 b1 (r2++[(s9,x2)])) none) none)<|some (b0,b1,r2)
def zh (k:Nat):Nat→qNa:=qZ (fun _ _ _ _=>none) (H4 k)
abbrev qYb:Type:=yD×qY×yS×(List qU)
abbrev qUq:Type:=List zD→Int→yD→qY→yS→List qU→Option qYb
def H5 (k:Nat)(rec:qUq):qUq:=fun s7 av b0 b1 b2 r3=>
 cond (decide (av<s7.length)) (cond (zB av s7.length) ((qWy k (s7.getD av.toNat apa).1 (s7.getD av.toNat apa).2.1 (s7.getD av.toNat apa).2.2.1 (s7.getD av.toNat apa).2.2.2.1 (s7.getD av.toNat apa).2.2.2.2.1 (s7.getD av.toNat apa).2.2.2.2.2.1 (s7.getD av.toNat apa).2.2.2.2.2.2 b1.1).bind fun x3=>cond x3 (cond (zB av s7.length) (cond (zB av s7.length) ((eQ k 21 [(s7.getD av.toNat apa).1]).bind fun x4=>cond (zO (r3.length+1) 64) (let y1:List qU:=(r3++[((s7.getD av.toNat apa).2.1,x4)])
       cond (zB av s7.length) ((ow k b1.2.2.2.2.2.2.2.1 (s7.getD av.toNat apa).1).bind fun x5=>rec s7 (zA (av+1)) b0 (kk b1 (x5.1,b1.2.2.2.2.2.2.2.2)) b2 y1) none) none) none) none)<|rec s7 (zA (av+1)) b0 b1 b2 r3) none)<|some (b0,b1,b2,r3)
def vt (k:Nat):Nat→qUq:=qZ (fun _ _ _ _ _ _=>none) (H5 k)
def H6 (k:Nat)(a0:yD)(a1:qY):Option (qY×(List qU)):=
 cond a1.2.2.2.2.2.2.2.2.2.2 (some (a1,[]))<|(RU k a0 (zA (a1.1+1))).bind fun x0=>cond x0 ((zg k k a1.2.2.2.2.2.2.2.1 0 ((zA (a1.1+1)),a1.2) (0,0,false) []).bind fun z=>(zh k k 0 z.1 z.2.1 z.2.2).bind fun z1=>some ((kk z1.1 ([],z1.1.2.2.2.2.2.2.2.2.1,z1.1.2.2.2.2.2.2.2.2.2.1,true)),z1.2.2))<|(vt k k a1.2.2.2.2.2.2.2.1 0 a0 ((zA (a1.1+1)),a1.2) (0,0,false) []).bind fun z2=>(M6 k z2.1 z2.2.1.1).bind fun x6=>(oz k z2.2.1.1 z2.2.1.2.1 z2.2.1.2.2.1 z2.2.1.2.2.2.1 z2.2.1.2.2.2.2.1 z2.2.1.2.2.2.2.2.1 z2.2.1.2.2.2.2.2.2.1 z2.2.1.2.2.2.2.2.2.2.1 z2.2.1.2.2.2.2.2.2.2.2.1 z2.2.1.2.2.2.2.2.2.2.2.2.1 z2.2.1.2.2.2.2.2.2.2.2.2.2 x6).bind fun x7=>cond (zO (z2.2.2.2.length+x7.2.2.2.2.2.2.2.2.2.2.2.length) 64) (let y2:List qU:=(z2.2.2.2++x7.2.2.2.2.2.2.2.2.2.2.2)
  some ((qP x7),y2)) none
def vn (k:Nat)(a0:wc)(a1:Int):Option Int:=
 cond (decide (a1<0)) (some (-1))<|cond (decide (a1≥a0.1)) (some (-1))<|some a1
def HK (k:Nat)(a0:yD)(a1 a2:Int):Option Int:=
 cond (decide (a1≥a0.2.2.2.1)) (some 7)<|cond (decide (a2=3)) (cond (decide (a1≥a0.2.2.1)) (some 7)<|some 0)<|some 0
def CB (k:Nat)(a0:yD)(a1:Int)(a2:zD):Option Int:=
 cond (decide (a2.1<1)) (some 1)<|cond (decide (a2.2.1<0)) (some 1)<|cond (decide (a2.2.1≥a0.1)) (some 1)<|cond (decide (a2.2.2.1<0)) (some 1)<|cond (decide (a2.2.2.1≥a0.1)) (some 1)<|cond (decide (a2.2.1=a2.2.2.1)) (some 1)<|cond (decide (a2.2.2.2.1<1)) (some 1)<|cond (decide (a2.2.2.2.1>1099511627776)) (some 1)<|cond (decide (a2.2.2.2.2.1<1)) (some 1)<|cond (decide (a2.2.2.2.2.1>3)) (some 1)<|cond (decide (a2.2.2.2.2.2.1<0)) (some 1)<|cond (decide (a2.2.2.2.2.2.1>a2.2.2.2.2.2.2)) (some 1)<|cond (decide (a2.2.2.2.2.2.2<a1)) (some 1)<|cond (decide (a2.2.2.2.2.2.2>1048576)) (some 1)<|(HK k a0 a1 a2.2.2.2.2.1).bind fun x0=>some x0
def tm (k:Nat)(rec:qTt):qTt:=fun s0 s1 s5=>
 cond (decide (s5<s0.length)) (cond (zB s5 s0.length) (cond (decide ((s0.getD s5.toNat 0)=s1)) (some (.inr true))<|rec s0 s1 (zA (s5+1))) none)<|some (.inl ())
def tl (k:Nat):Nat→qTt:=qZ (fun _ _ _=>none) (tm k)
def Cx (k:Nat)(a0:AC)(a1:Int):Option Bool:=
 (tl k k a0 a1 0).bind fun z=>match z with
 |.inl z1=>some false
 |.inr z2=>some z2
abbrev qT0:Type:=AC→Int→Int→Option (AC×Int×Int)
def HC (k:Nat)(rec:qT0):qT0:=fun s0 s1 s6=>
 cond (decide (s6<s0.length)) (cond (zB s6 s0.length) (cond (decide ((s0.getD s6.toNat 0)<s1)) (rec s0 s1 (zA (s6+1)))<|some (s0,s1,s6)) none)<|some (s0,s1,s6)
def ML (k:Nat):Nat→qT0:=qZ (fun _ _ _=>none) (HC k)
def Cy (k:Nat)(a0:AC)(a1:Int):Option (AC×Int):=
 (Cx k a0 a1).bind fun x0=>cond x0 (some (a0,6))<|cond (decide ((a0.length:Int)≥200)) (some (a0,3))<|(ML k k a0 a1 0).bind fun z=>cond ((decide (0≤z.2.2))&&(decide (z.2.2≤z.1.length))) (cond (zO (0+(List.take z.2.2.toNat z.1).length) 8) (cond (zO ((List.take z.2.2.toNat z.1).length+1) 8) (cond ((decide (0≤z.2.2))&&(decide (z.2.2≤z.1.length))) (cond (zO (((List.take z.2.2.toNat z.1)++[z.2.1]).length+(List.drop z.2.2.toNat z.1).length) 8) (let y0:AC:=(((List.take z.2.2.toNat z.1)++[z.2.1])++(List.drop z.2.2.toNat z.1))
      some (y0,0)) none) none) none) none) none
def Hu (k:Nat)(cf bj bB cw bM ca bO ie ct dz ez dA jc je:Int):Option Bool:=
 cond (decide (bj<ct)) (some true)<|cond (decide (bj=ct)) (some (decide (bM≤dA)))<|some false
abbrev yC8:Type:=List zD→Int→Int→Int→Int→Int→Int→Int→Int→Option Int
def HA (k:Nat)(rec:yC8):yC8:=fun s0 s5 af ah aj ag ba bp bq=>
 cond (decide (s5<s0.length)) (cond (zB s5 s0.length) ((Hu k (s0.getD s5.toNat apa).1 (s0.getD s5.toNat apa).2.1 (s0.getD s5.toNat apa).2.2.1 (s0.getD s5.toNat apa).2.2.2.1 (s0.getD s5.toNat apa).2.2.2.2.1 (s0.getD s5.toNat apa).2.2.2.2.2.1 (s0.getD s5.toNat apa).2.2.2.2.2.2 af ah aj ag ba bp bq).bind fun x0=>cond x0 (rec s0 (zA (s5+1)) af ah aj ag ba bp bq)<|some s5) none)<|some s5
def Hz (k:Nat):Nat→yC8
 |0,_,_,_,_,_,_,_,_,_=>none
 |n+1,s0,s5,af,ah,aj,ag,ba,bp,bq=>HA k (Hz k n) s0 s5 af ah aj ag ba bp bq
def Hy (k:Nat)(a0:List zD)(ie ct dz ez dA jc je:Int):Option Int:=
 (Hz k k a0 0 ie ct dz ez dA jc je).bind fun z=>some z
def Cv (k:Nat)(a0:List zD)(a1 ag4 ag5 ag6 ag7 ag8 ag9 aha:Int):Option (List zD):=
 cond ((decide (0≤a1))&&(decide (a1≤a0.length))) (cond (zO (0+(List.take a1.toNat a0).length) 56) (cond (zO ((List.take a1.toNat a0).length+1) 56) (let y0:List zD:=((List.take a1.toNat a0)++[(ag4,ag5,ag6,ag7,ag8,ag9,aha)])
    cond ((decide (0≤a1))&&(decide (a1≤a0.length))) (cond (zO (y0.length+(List.drop a1.toNat a0).length) 56) (some (y0++(List.drop a1.toNat a0))) none) none) none) none) none
def Cw (k:Nat)(a0:List zD)(ie ct dz ez dA jc je:Int):Option ((List zD)×Int):=
 (mA k a0 ie).bind fun x0=>cond (decide (x0≥0)) (some (a0,6))<|cond (decide ((a0.length:Int)≥40)) (some (a0,3))<|(Hy k a0 ie ct dz ez dA jc je).bind fun x1=>(Cv k a0 x1 ie ct dz ez dA jc je).bind fun x2=>some (x2,0)
def RI (k:Nat)(a0:rJ)(a1:Oi):Option (Int×wc):=
 (vn k (yI a0 ([],a0.2.2.2.2.2.2.2.2.2.2.2.2.2.2.2.2.2)) a1.2.1).bind fun x0=>cond (decide (a1.2.2.2.1≥1)) (cond (decide (a1.2.2.2.1≤3)) ((CB k (yC a0) a0.2.2.2.2.2.1 (a1.1,a0.2.2.2.2.2.2.2.2.2.2.2.2.2.2.2.2.1,x0,a1.2.2)).bind fun x1=>cond (!(decide (x1=0))) (some (x1,(yI a0 ([],a0.2.2.2.2.2.2.2.2.2.2.2.2.2.2.2.2.2))))<|(Cy k a0.2.2.2.2.2.2.2.2.2.2.2.2.2.1 a1.1).bind fun x2=>cond (!(decide (x2.2=0))) (some (x2.2,(yI a0 ([],a0.2.2.2.2.2.2.2.2.2.2.2.2.2.2.2.2.2))))<|(Cw k a0.2.2.2.2.2.2.2.2.2.2.2.2.1 a1.1 a0.2.2.2.2.2.2.2.2.2.2.2.2.2.2.2.2.1 x0 a1.2.2.1 a1.2.2.2.1 a1.2.2.2.2.1 a1.2.2.2.2.2).bind fun x3=>cond (!(decide (x3.2=0))) (some (x3.2,(yI a0 ([],a0.2.2.2.2.2.2.2.2.2.2.2.2.2.2.2.2.2))))<|some (0,(kx a0 (x3.1,x2.1,a0.2.2.2.2.2.2.2.2.2.2.2.2.2.2.1,a0.2.2.2.2.2.2.2.2.2.2.2.2.2.2.2.1,a0.2.2.2.2.2.2.2.2.2.2.2.2.2.2.2.2.1,[],a1.1))))<|(CB k (yC a0) a0.2.2.2.2.2.1 (a1.1,a0.2.2.2.2.2.2.2.2.2.2.2.2.2.2.2.2.1,x0,a1.2.2.1,0,a1.2.2.2.2)).bind fun x4=>cond (!(decide (x4=0))) (some (x4,(yI a0 ([],a0.2.2.2.2.2.2.2.2.2.2.2.2.2.2.2.2.2))))<|(Cy k a0.2.2.2.2.2.2.2.2.2.2.2.2.2.1 a1.1).bind fun x5=>cond (!(decide (x5.2=0))) (some (x5.2,(yI a0 ([],a0.2.2.2.2.2.2.2.2.2.2.2.2.2.2.2.2.2))))<|(Cw k a0.2.2.2.2.2.2.2.2.2.2.2.2.1 a1.1 a0.2.2.2.2.2.2.2.2.2.2.2.2.2.2.2.2.1 x0 a1.2.2.1 0 a1.2.2.2.2.1 a1.2.2.2.2.2).bind fun x6=>cond (!(decide (x6.2=0))) (some (x6.2,(yI a0 ([],a0.2.2.2.2.2.2.2.2.2.2.2.2.2.2.2.2.2))))<|some (0,(kx a0 (x6.1,x5.1,a0.2.2.2.2.2.2.2.2.2.2.2.2.2.2.1,a0.2.2.2.2.2.2.2.2.2.2.2.2.2.2.2.1,a0.2.2.2.2.2.2.2.2.2.2.2.2.2.2.2.2.1,[],a1.1))))<|(CB k (yC a0) a0.2.2.2.2.2.1 (a1.1,a0.2.2.2.2.2.2.2.2.2.2.2.2.2.2.2.2.1,x0,a1.2.2.1,0,a1.2.2.2.2)).bind fun x7=>cond (!(decide (x7=0))) (some (x7,(yI a0 ([],a0.2.2.2.2.2.2.2.2.2.2.2.2.2.2.2.2.2))))<|(Cy k a0.2.2.2.2.2.2.2.2.2.2.2.2.2.1 a1.1).bind fun x8=>cond (!(decide (x8.2=0))) (some (x8.2,(yI a0 ([],a0.2.2.2.2.2.2.2.2.2.2.2.2.2.2.2.2.2))))<|(Cw k a0.2.2.2.2.2.2.2.2.2.2.2.2.1 a1.1 a0.2.2.2.2.2.2.2.2.2.2.2.2.2.2.2.2.1 x0 a1.2.2.1 0 a1.2.2.2.2.1 a1.2.2.2.2.2).bind fun x9=>cond (!(decide (x9.2=0))) (some (x9.2,(yI a0 ([],a0.2.2.2.2.2.2.2.2.2.2.2.2.2.2.2.2.2))))<|some (0,(kx a0 (x9.1,x8.1,a0.2.2.2.2.2.2.2.2.2.2.2.2.2.2.1,a0.2.2.2.2.2.2.2.2.2.2.2.2.2.2.2.1,a0.2.2.2.2.2.2.2.2.2.2.2.2.2.2.2.2.1,[],a1.1)))
def yNo (k:Nat)(a0:wc)(a1:Int):Option (zD×Bool):=
 (mA k a0.2.2.2.2.2.2.2.2.2.2.2.2.1 a1).bind fun x0=>cond (decide (x0<0)) (some ((0,0,0,0,0,0,0),false))<|cond (zB x0 a0.2.2.2.2.2.2.2.2.2.2.2.2.1.length) (cond (!(decide ((a0.2.2.2.2.2.2.2.2.2.2.2.2.1.getD x0.toNat apa).2.1=a0.2.2.2.2.2.2.2.2.2.2.2.2.2.2.2.2.1))) (some ((0,0,0,0,0,0,0),false))<|cond (zB x0 a0.2.2.2.2.2.2.2.2.2.2.2.2.1.length) (some ((a0.2.2.2.2.2.2.2.2.2.2.2.2.1.getD x0.toNat apa),true)) none) none
def HB (k:Nat)(rec:qUe):qUe:=fun s6 s9 b0=>
 cond (decide (s9<s6.length)) (cond (zB s9 s6.length) ((Hu k b0.1 b0.2.1 b0.2.2.1 b0.2.2.2.1 b0.2.2.2.2.1 b0.2.2.2.2.2.1 b0.2.2.2.2.2.2 (s6.getD s9.toNat apa).1 (s6.getD s9.toNat apa).2.1 (s6.getD s9.toNat apa).2.2.1 (s6.getD s9.toNat apa).2.2.2.1 (s6.getD s9.toNat apa).2.2.2.2.1 (s6.getD s9.toNat apa).2.2.2.2.2.1 (s6.getD s9.toNat apa).2.2.2.2.2.2).bind fun x1=>cond (!x1) (rec s6 (zA (s9+1)) b0)<|some (s6,s9,b0)) none)<|some (s6,s9,b0)
def MK (k:Nat):Nat→qUe:=qZ (fun _ _ _=>none) (HB k)
def MI (k:Nat)(a0:List zD)(a1:Int):Option ((List zD)×Int):=
 (ow k a0 a1).bind fun x0=>cond (!(decide (x0.2.2.2.2.2.2.2.2=0))) (some (a0,x0.2.2.2.2.2.2.2.2))<|(MK k k x0.1 0 (SX x0)).bind fun z=>(Cv k z.1 z.2.1 z.2.2.1 z.2.2.2.1 z.2.2.2.2.1 z.2.2.2.2.2.1 z.2.2.2.2.2.2.1 z.2.2.2.2.2.2.2.1 z.2.2.2.2.2.2.2.2).bind fun x2=>some (x2,0)
def MH (k:Nat)(a0:List zD)(a1:Int):Option ((List zD)×Int):=
 (ow k a0 a1).bind fun x0=>cond (!(decide (x0.2.2.2.2.2.2.2.2=0))) (some (a0,x0.2.2.2.2.2.2.2.2))<|(Hy k x0.1 x0.2.1 x0.2.2.1 x0.2.2.2.1 x0.2.2.2.2.1 x0.2.2.2.2.2.1 x0.2.2.2.2.2.2.1 x0.2.2.2.2.2.2.2.1).bind fun x1=>(Cv k x0.1 x1 x0.2.1 x0.2.2.1 x0.2.2.2.1 x0.2.2.2.2.1 x0.2.2.2.2.2.1 x0.2.2.2.2.2.2.1 x0.2.2.2.2.2.2.2.1).bind fun x2=>some (x2,0)
def MG (k:Nat)(a0:List zD)(a1 a2:Int):Option ((List zD)×Int):=
 (ow k a0 a1).bind fun x0=>cond (!(decide (x0.2.2.2.2.2.2.2.2=0))) (some (a0,x0.2.2.2.2.2.2.2.2))<|(Hy k x0.1 x0.2.1 x0.2.2.1 x0.2.2.2.1 x0.2.2.2.2.1 a2 x0.2.2.2.2.2.2.1 x0.2.2.2.2.2.2.2.1).bind fun x1=>(Cv k x0.1 x1 x0.2.1 x0.2.2.1 x0.2.2.2.1 x0.2.2.2.2.1 a2 x0.2.2.2.2.2.2.1 x0.2.2.2.2.2.2.2.1).bind fun x2=>some (x2,0)
def CD (k:Nat)(a0:rJ)(a1:Int)(a2:Oi):Option (Int×wc):=
 (yNo k (yI a0 ([],a0.2.2.2.2.2.2.2.2.2.2.2.2.2.2.2.2.2)) a2.1).bind fun x0=>cond (!x0.2) (some (4,(yI a0 ([],a0.2.2.2.2.2.2.2.2.2.2.2.2.2.2.2.2.2))))<|cond (decide (a1=2)) ((ow k a0.2.2.2.2.2.2.2.2.2.2.2.2.1 a2.1).bind fun x1=>(eQ k 20 [a2.1]).bind fun x2=>some (0,(kx a0 (x1.1,(TR a0 ([(a0.2.2.2.2.2.2.2.2.2.2.2.2.2.2.2.2.1,x2)],a0.2.2.2.2.2.2.2.2.2.2.2.2.2.2.2.2.2))))))<|cond (decide (a1=3)) (cond (decide (a2.2.1=0)) ((MI k a0.2.2.2.2.2.2.2.2.2.2.2.2.1 a2.1).bind fun x3=>some (0,(kx a0 (x3.1,(TR a0 ([],a0.2.2.2.2.2.2.2.2.2.2.2.2.2.2.2.2.2))))))<|cond (decide (a2.2.1=1)) ((MH k a0.2.2.2.2.2.2.2.2.2.2.2.2.1 a2.1).bind fun x4=>some (0,(kx a0 (x4.1,(TR a0 ([],a0.2.2.2.2.2.2.2.2.2.2.2.2.2.2.2.2.2))))))<|some (1,(yI a0 ([],a0.2.2.2.2.2.2.2.2.2.2.2.2.2.2.2.2.2))))<|cond (decide (a2.2.1<1)) (some (1,(yI a0 ([],a0.2.2.2.2.2.2.2.2.2.2.2.2.2.2.2.2.2))))<|cond (decide (a2.2.1>3)) (some (1,(yI a0 ([],a0.2.2.2.2.2.2.2.2.2.2.2.2.2.2.2.2.2))))<|(HK k (yC a0) a0.2.2.2.2.2.1 a2.2.1).bind fun x5=>cond (!(decide (x5=0))) (some (x5,(yI a0 ([],a0.2.2.2.2.2.2.2.2.2.2.2.2.2.2.2.2.2))))<|(MG k a0.2.2.2.2.2.2.2.2.2.2.2.2.1 a2.1 a2.2.1).bind fun x6=>some (0,(kx a0 (x6.1,(TR a0 ([],a0.2.2.2.2.2.2.2.2.2.2.2.2.2.2.2.2.2)))))
def CE (k:Nat)(a0:rJ)(a1:Int)(a2:Oi):Option (Int×wc):=
 (pt k a0.2.2.2.2.2.2.1 a0.2.2.2.2.2.2.2.1 a0.2.2.2.2.2.2.2.2.1 a0.2.2.2.2.2.2.2.2.2.1).bind fun x0=>cond (decide (a1=5)) ((vn k (yI a0 ([],a0.2.2.2.2.2.2.2.2.2.2.2.2.2.2.2.2.2)) a2.1).bind fun x1=>cond (decide (x1<0)) (some (1,(yI a0 ([],a0.2.2.2.2.2.2.2.2.2.2.2.2.2.2.2.2.2))))<|cond (decide (x1=a0.2.2.2.2.2.2.2.2.2.2.2.2.2.2.2.2.1)) (some (1,(yI a0 ([],a0.2.2.2.2.2.2.2.2.2.2.2.2.2.2.2.2.2))))<|cond (decide (a2.2.1<(-1))) (some (1,(yI a0 ([],a0.2.2.2.2.2.2.2.2.2.2.2.2.2.2.2.2.2))))<|cond (decide (a2.2.1>1152921504606846976)) (some (1,(yI a0 ([],a0.2.2.2.2.2.2.2.2.2.2.2.2.2.2.2.2.2))))<|cond (zB a0.2.2.2.2.2.2.2.2.2.2.2.2.2.2.2.2.1 x0.2.1.length) (cond (zB x1 (x0.2.1.getD a0.2.2.2.2.2.2.2.2.2.2.2.2.2.2.2.2.1.toNat []).length) (let y0:EQ:=(x0.2.1.set a0.2.2.2.2.2.2.2.2.2.2.2.2.2.2.2.2.1.toNat ((x0.2.1.getD a0.2.2.2.2.2.2.2.2.2.2.2.2.2.2.2.2.1.toNat []).set x1.toNat a2.2.1))
    some (0,(jD a0 (x0.1,y0,x0.2.2.1,x0.2.2.2,(qYm a0 ([],a0.2.2.2.2.2.2.2.2.2.2.2.2.2.2.2.2.2)))))) none) none)<|cond (decide (a1=6)) (cond (decide (a2.1<(-1))) (some (1,(yI a0 ([],a0.2.2.2.2.2.2.2.2.2.2.2.2.2.2.2.2.2))))<|cond (decide (a2.1>1152921504606846976)) (some (1,(yI a0 ([],a0.2.2.2.2.2.2.2.2.2.2.2.2.2.2.2.2.2))))<|cond (zB a0.2.2.2.2.2.2.2.2.2.2.2.2.2.2.2.2.1 x0.2.2.1.length) (let y1:AC:=(x0.2.2.1.set a0.2.2.2.2.2.2.2.2.2.2.2.2.2.2.2.2.1.toNat a2.1)
   some (0,(jD a0 (x0.1,x0.2.1,y1,x0.2.2.2,(qYm a0 ([],a0.2.2.2.2.2.2.2.2.2.2.2.2.2.2.2.2.2)))))) none)<|cond (decide (a2.1<0)) (some (1,(yI a0 ([],a0.2.2.2.2.2.2.2.2.2.2.2.2.2.2.2.2.2))))<|cond (decide (a2.1>1152921504606846976)) (some (1,(yI a0 ([],a0.2.2.2.2.2.2.2.2.2.2.2.2.2.2.2.2.2))))<|cond (zB a0.2.2.2.2.2.2.2.2.2.2.2.2.2.2.2.2.1 x0.1.length) (let y2:List zK:=(x0.1.set a0.2.2.2.2.2.2.2.2.2.2.2.2.2.2.2.2.1.toNat ((x0.1.getD a0.2.2.2.2.2.2.2.2.2.2.2.2.2.2.2.2.1.toNat aoa).1,(x0.1.getD a0.2.2.2.2.2.2.2.2.2.2.2.2.2.2.2.2.1.toNat aoa).2.1,a2.1))
  some (0,(jD a0 (y2,x0.2.1,x0.2.2.1,x0.2.2.2,(qYm a0 ([],a0.2.2.2.2.2.2.2.2.2.2.2.2.2.2.2.2.2)))))) none
def vp (k:Nat)(a0:AC)(a1 a2:Int):Option AC:=
 cond (zO (0+a0.length) 8) (cond (decide (a1≥0)) (cond (decide (a1<a0.length)) (cond (zB a1 a0.length) (some (a0.set a1.toNat a2)) none)<|some a0)<|some a0) none
def Rv (k:Nat)(a0:Int):Option AC:=
 some [(yK .i64 a0 65535),(yK .i64 (shr .i64 a0 16) 65535),(yK .i64 (shr .i64 a0 32) 65535),(yK .i64 (shr .i64 a0 48) 65535)]
def yRh (k:Nat)(rec:Int→AC→Option AC)(s3:Int)(r0:AC):Option AC:=
 cond (decide ((zA (s3+1))<r0.length)) (cond (zB (zA (s3+1)) r0.length) (cond (zB s3 r0.length) (cond (zB (zA (s3+1)) r0.length) (let y0:AC:=(r0.set (zA (s3+1)).toNat (zA ((r0.getD (zA (s3+1)).toNat 0)+(shr .i64 (r0.getD s3.toNat 0) 16))))
     cond (zB s3 y0.length) (cond (zB s3 y0.length) (rec (zA (s3+1)) (y0.set s3.toNat (yK .i64 (y0.getD s3.toNat 0) 65535))) none) none) none) none) none)<|some r0
def qTu (k:Nat):Nat→Int→AC→Option AC:=qZ (fun _ _=>none) (yRh k)
def Hr (k:Nat)(a0:AC):Option AC:=
 (qTu k k 0 a0).bind fun z=>some z
abbrev qOv:Type:=Int×Int×AC×AC
abbrev qMz:Type:=Int→Int→Int→AC→AC→Option qOv
def yUi (k:Nat)(rec:qMz):qMz:=fun s1 s7 s8 r0 r1=>
 cond (decide (s8<4)) (cond (!(decide ((IntKind.wrap .u64 ((zA (16 * s8))))<0))) (cond (zB (zA (s7+s8)) r1.length) (cond (zB s7 r0.length) (cond (zB (zA (s7+s8)) r1.length) (let y0:AC:=(r1.set (zA (s7+s8)).toNat (zA ((r1.getD (zA (s7+s8)).toNat 0)+(zA ((r0.getD s7.toNat 0)*(yK .i64 (shr .i64 s1 (IntKind.wrap .u64 ((zA (16*s8))))) 65535))))))
      rec s1 s7 (zA (s8+1)) r0 y0) none) none) none) none)<|some (s1,s7,r0,r1)
def qZl (k:Nat):Nat→qMz:=qZ (fun _ _ _ _ _=>none) (yUi k)
abbrev qL2:Type:=Int→Int→AC→AC→Option AC
def vCl (k:Nat)(rec:qL2):qL2:=fun s1 s7 r0 r1=>
 cond (decide (s7<4)) ((qZl k k s1 s7 0 r0 r1).bind fun z=>rec z.1 (zA (z.2.1+1)) z.2.2.1 z.2.2.2)<|some r1
def Rt (k:Nat):Nat→qL2:=qZ (fun _ _ _ _=>none) (vCl k)
def Ru (k:Nat)(a0 a1:Int):Option AC:=
 (Rv k a0).bind fun x0=>(Rt k k a1 0 x0 [0,0,0,0,0,0,0,0,0]).bind fun z1=>(Hr k z1).bind fun x1=>some x1
def vGr (k:Nat)(rec:Int→Int→AC→Option AC)(s1 s5:Int)(r0:AC):Option AC:=
 cond (decide (s5<r0.length)) (cond (zB s5 r0.length) (cond (zB s5 r0.length) (rec s1 (zA (s5+1)) (r0.set s5.toNat (zA ((r0.getD s5.toNat 0)*s1)))) none) none)<|some r0
def Rr (k:Nat):Nat→Int→Int→AC→Option AC:=qZ (fun _ _ _=>none) (vGr k)
def Rq (k:Nat)(a0:AC)(a1:Int):Option AC:=
 (Rr k k a1 0 a0).bind fun z=>(Hr k z).bind fun x0=>some x0
def yGv (k:Nat)(rec:qQw):qQw:=fun s1 s6 s7 r0=>
 cond (decide (s7≥0)) (cond (zB s7 r0.length) (cond (!(decide (s1=0))) (cond (zB s7 r0.length) (let y0:AC:=(r0.set s7.toNat (zA (Int.tdiv (zA ((shl .i64 s6 16)+(r0.getD s7.toNat 0))) s1)))
     cond (!(decide (s1=0))) (rec s1 (Int.tmod (zA ((shl .i64 s6 16)+(r0.getD s7.toNat 0))) s1) (zA (s7-1)) y0) none) none) none) none)<|some r0
def MB (k:Nat):Nat→qQw:=qZ (fun _ _ _ _=>none) (yGv k)
abbrev qPn:Type:=Int→AC→Option (AC⊕eX)
def yT7 (k:Nat)(rec:qPn):qPn:=fun s9 r0=>
 cond (decide (s9<r0.length)) (cond (zB s9 r0.length) (cond (!(decide ((r0.getD s9.toNat 0)=0))) (some (.inr (0,false)))<|rec (zA (s9+1)) r0) none)<|some (.inl r0)
def Hs (k:Nat):Nat→qPn:=qZ (fun _ _=>none) (yT7 k)
def Rs (k:Nat)(a0:AC)(a1:Int):Option eX:=
 (MB k k a1 0 (zA ((a0.length:Int)-1)) a0).bind fun z=>(Hs k k 4 z).bind fun z1=>match z1 with
 | .inl z2=>cond (zB 3 z2.length) (cond (decide ((z2.getD 3 0)≥32768)) (some (0,false))<|cond (zB 3 z2.length) (cond (zB 2 z2.length) (cond (zB 1 z2.length) (cond (zB 0 z2.length) (some ((wU .i64 (wU .i64 (wU .i64 (shl .i64 (z2.getD 3 0) 48) (shl .i64 (z2.getD 2 0) 32)) (shl .i64 (z2.getD 1 0) 16)) (z2.getD 0 0)),true)) none) none) none) none)<|none
 |.inr z3=>some (z3.1,z3.2)
def RB (k:Nat)(a0 a1 a2:Int):Option eX:=
 cond (decide (a0<0)) (some (0,false))<|cond (decide (a1<0)) (some (0,false))<|cond (decide (a2<0)) (some (0,false))<|cond (decide (a2>10000)) (some (0,false))<|(Ru k a0 a1).bind fun x0=>(Rq k x0 (zA (10000-a2))).bind fun x1=>(Rs k x1 10000).bind fun x2=>some (x2.1,x2.2)
def Hv (k:Nat)(a0 a1:Int):Option eX:=
 cond (decide (a1>0)) (cond (decide (a0>(zA (9223372036854775807-a1)))) (some (0,false))<|cond (decide (a1<0)) (cond (decide (a0<(zA ((-9223372036854775808)-a1)))) (some (0,false))<|some ((zA (a0+a1)),true))<|some ((zA (a0+a1)),true))<|cond (decide (a1<0)) (cond (decide (a0<(zA ((-9223372036854775808)-a1)))) (some (0,false))<|some ((zA (a0+a1)),true))<|some ((zA (a0+a1)),true)
abbrev qZa:Type:=List vH→AC→AC→Int→Int→Option (Int⊕eX)
def Hw (k:Nat)(rec:qZa):qZa:=fun s0 s1 s2 s8 s9=>
 cond (decide (s9<s0.length)) (cond (zB s9 s1.length) (cond (zB s9 s2.length) (cond (zB s9 s0.length) ((RB k (s1.getD s9.toNat 0) (s2.getD s9.toNat 0) (s0.getD s9.toNat (0,0)).2).bind fun x0=>(Hv k s8 x0.1).bind fun x1=>cond (!x0.2) (some (.inr (0,false)))<|cond (!x1.2) (some (.inr (0,false)))<|rec s0 s1 s2 x1.1 (zA (s9+1))) none) none) none)<|some (.inl s8)
def MF (k:Nat):Nat→qZa:=qZ (fun _ _ _ _ _=>none) (Hw k)
def zd (k:Nat)(a0:List vH)(a1 a2:AC):Option eX:=
 cond (!(decide ((a1.length:Int)=(a0.length:Int)))) (some (0,false))<|cond (!(decide ((a2.length:Int)=(a0.length:Int)))) (some (0,false))<|(MF k k a0 a1 a2 0 0).bind fun z=>match z with
 |.inl z1=>some (z1,true)
 |.inr z2=>some (z2.1,z2.2)
def RJ (k:Nat)(a0:rJ)(a1 a2:Int):Option (Int×wc):=
 cond (decide (a1<0)) (some (1,(yI a0 ([],a0.2.2.2.2.2.2.2.2.2.2.2.2.2.2.2.2.2))))<|cond (decide (a1≥a0.2.1.length)) (some (1,(yI a0 ([],a0.2.2.2.2.2.2.2.2.2.2.2.2.2.2.2.2.2))))<|cond (decide (a2<0)) (some (1,(yI a0 ([],a0.2.2.2.2.2.2.2.2.2.2.2.2.2.2.2.2.2))))<|cond (decide (a2>1099511627776)) (some (1,(yI a0 ([],a0.2.2.2.2.2.2.2.2.2.2.2.2.2.2.2.2.2))))<|cond (zB a0.2.2.2.2.2.2.2.2.2.2.2.2.2.2.2.2.1 a0.2.2.2.2.2.2.2.2.2.2.2.1.length) ((vp k (a0.2.2.2.2.2.2.2.2.2.2.2.1.getD a0.2.2.2.2.2.2.2.2.2.2.2.2.2.2.2.2.1.toNat []) a1 a2).bind fun x0=>(zd k a0.2.1 a0.2.2.2.2.2.2.2.2.2.2.1 x0).bind fun x1=>cond (!x1.2) (some (8,(yI a0 ([],a0.2.2.2.2.2.2.2.2.2.2.2.2.2.2.2.2.2))))<|cond (decide (x1.1>1152921504606846976)) (some (8,(yI a0 ([],a0.2.2.2.2.2.2.2.2.2.2.2.2.2.2.2.2.2))))<|(pt k a0.2.2.2.2.2.2.1 a0.2.2.2.2.2.2.2.1 a0.2.2.2.2.2.2.2.2.1 a0.2.2.2.2.2.2.2.2.2.1).bind fun x2=>cond (zB a0.2.2.2.2.2.2.2.2.2.2.2.2.2.2.2.2.1 x2.1.length) (cond (decide (x1.1<(x2.1.getD a0.2.2.2.2.2.2.2.2.2.2.2.2.2.2.2.2.1.toNat aoa).2.1)) (cond (decide ((zA ((x2.1.getD a0.2.2.2.2.2.2.2.2.2.2.2.2.2.2.2.2.1.toNat aoa).1+x1.1))<0)) (some (9,(yI a0 ([],a0.2.2.2.2.2.2.2.2.2.2.2.2.2.2.2.2.2))))<|cond (zB a0.2.2.2.2.2.2.2.2.2.2.2.2.2.2.2.2.1 x2.1.length) (let y0:List zK:=(x2.1.set a0.2.2.2.2.2.2.2.2.2.2.2.2.2.2.2.2.1.toNat ((x2.1.getD a0.2.2.2.2.2.2.2.2.2.2.2.2.2.2.2.2.1.toNat aoa).1,x1.1,(x2.1.getD a0.2.2.2.2.2.2.2.2.2.2.2.2.2.2.2.2.1.toNat aoa).2.2))
     cond (zO (0+a0.2.2.2.2.2.2.2.2.2.2.2.1.length) 24) (cond (zB a0.2.2.2.2.2.2.2.2.2.2.2.2.2.2.2.2.1 a0.2.2.2.2.2.2.2.2.2.2.2.1.length) (let y1:EQ:=(a0.2.2.2.2.2.2.2.2.2.2.2.1.set a0.2.2.2.2.2.2.2.2.2.2.2.2.2.2.2.2.1.toNat x0)
       some (0,(jD a0 (y0,x2.2.1,x2.2.2.1,x2.2.2.2,a0.2.2.2.2.2.2.2.2.2.2.1,y1,(qSg a0 ([],a0.2.2.2.2.2.2.2.2.2.2.2.2.2.2.2.2.2)))))) none) none) none)<|cond (zB a0.2.2.2.2.2.2.2.2.2.2.2.2.2.2.2.2.1 x2.1.length) (let y2:List zK:=(x2.1.set a0.2.2.2.2.2.2.2.2.2.2.2.2.2.2.2.2.1.toNat ((x2.1.getD a0.2.2.2.2.2.2.2.2.2.2.2.2.2.2.2.2.1.toNat aoa).1,x1.1,(x2.1.getD a0.2.2.2.2.2.2.2.2.2.2.2.2.2.2.2.2.1.toNat aoa).2.2))
    cond (zO (0+a0.2.2.2.2.2.2.2.2.2.2.2.1.length) 24) (cond (zB a0.2.2.2.2.2.2.2.2.2.2.2.2.2.2.2.2.1 a0.2.2.2.2.2.2.2.2.2.2.2.1.length) (let y3:EQ:=(a0.2.2.2.2.2.2.2.2.2.2.2.1.set a0.2.2.2.2.2.2.2.2.2.2.2.2.2.2.2.2.1.toNat x0)
      some (0,(jD a0 (y2,x2.2.1,x2.2.2.1,x2.2.2.2,a0.2.2.2.2.2.2.2.2.2.2.1,y3,(qSg a0 ([],a0.2.2.2.2.2.2.2.2.2.2.2.2.2.2.2.2.2)))))) none) none) none) none) none
def HL (k:Nat)(a0:zK)(a1:Int):Option (zK×Int):=
 (Hv k a0.1 a1).bind fun x0=>cond (!x0.2) (some (a0,8))<|(KW k x0.1 a0.2.1 a0.2.2).bind fun x1=>cond (!x1) (some (a0,8))<|some ((x0.1,a0.2),0)
def HM (k:Nat)(a0:rJ)(a1:Bool)(a2 a3:Int):Option (Int×wc):=
 (vn k (yI a0 ([],a0.2.2.2.2.2.2.2.2.2.2.2.2.2.2.2.2.2)) a2).bind fun x0=>cond (decide (x0<0)) (some (1,(yI a0 ([],a0.2.2.2.2.2.2.2.2.2.2.2.2.2.2.2.2.2))))<|cond (decide (a3<1)) (some (1,(yI a0 ([],a0.2.2.2.2.2.2.2.2.2.2.2.2.2.2.2.2.2))))<|cond (decide (a3>1099511627776)) (some (1,(yI a0 ([],a0.2.2.2.2.2.2.2.2.2.2.2.2.2.2.2.2.2))))<|(pt k a0.2.2.2.2.2.2.1 a0.2.2.2.2.2.2.2.1 a0.2.2.2.2.2.2.2.2.1 a0.2.2.2.2.2.2.2.2.2.1).bind fun x1=>cond a1 (cond (zB x0 x1.1.length) ((HL k (x1.1.getD x0.toNat aoa) a3).bind fun x2=>cond (decide ((zA (a0.2.2.2.2.2.2.2.2.2.2.2.2.2.2.1+a3))>1152921504606846976)) (some (8,(yI a0 ([],a0.2.2.2.2.2.2.2.2.2.2.2.2.2.2.2.2.2))))<|cond (!(decide (x2.2=0))) (some (8,(yI a0 ([],a0.2.2.2.2.2.2.2.2.2.2.2.2.2.2.2.2.2))))<|cond (zB x0 x1.1.length) (some (0,(jD a0 ((x1.1.set x0.toNat x2.1),x1.2.1,x1.2.2.1,x1.2.2.2,(Jk a0 ((zA (a0.2.2.2.2.2.2.2.2.2.2.2.2.2.2.1+a3)),a0.2.2.2.2.2.2.2.2.2.2.2.2.2.2.2.1,a0.2.2.2.2.2.2.2.2.2.2.2.2.2.2.2.2.1,[],a0.2.2.2.2.2.2.2.2.2.2.2.2.2.2.2.2.2)))))) none) none)<|cond (zB x0 x1.1.length) (cond (decide ((zA ((zA ((x1.1.getD x0.toNat aoa).1+(x1.1.getD x0.toNat aoa).2.1))-(x1.1.getD x0.toNat aoa).2.2))<a3)) (some (9,(yI a0 ([],a0.2.2.2.2.2.2.2.2.2.2.2.2.2.2.2.2.2))))<|cond (decide (a0.2.2.2.2.2.2.2.2.2.2.2.2.2.2.1<a3)) (some (9,(yI a0 ([],a0.2.2.2.2.2.2.2.2.2.2.2.2.2.2.2.2.2))))<|cond (zB x0 x1.1.length) (let y0:List zK:=(x1.1.set x0.toNat ((zA ((x1.1.getD x0.toNat aoa).1-a3)),(x1.1.getD x0.toNat aoa).2))
   some (0,(jD a0 (y0,x1.2.1,x1.2.2.1,x1.2.2.2,(Jk a0 ((zA (a0.2.2.2.2.2.2.2.2.2.2.2.2.2.2.1-a3)),a0.2.2.2.2.2.2.2.2.2.2.2.2.2.2.2.1,a0.2.2.2.2.2.2.2.2.2.2.2.2.2.2.2.2.1,[],a0.2.2.2.2.2.2.2.2.2.2.2.2.2.2.2.2.2)))))) none) none
abbrev qVk:Type:=(rJ×AC×(List zK)×EQ×AC×EQ)⊕(Int×rJ)
abbrev yAn:Type:=Int→rJ→AC→List zK→EQ→AC→EQ→Option qVk
def HN (k:Nat)(rec:yAn):yAn:=fun s9 b0 r1 r3 m4 r5 m6=>
 cond (decide (s9<r3.length)) (cond (zB s9 b0.2.2.2.2.2.2.2.2.2.2.2.1.length) ((zd k b0.2.1 r1 (b0.2.2.2.2.2.2.2.2.2.2.2.1.getD s9.toNat [])).bind fun x2=>cond (!x2.2) (some (.inr (8,b0)))<|cond (decide (x2.1>1152921504606846976)) (some (.inr (8,b0)))<|cond (zB s9 r3.length) (let y0:List zK:=(r3.set s9.toNat ((r3.getD s9.toNat aoa).1,x2.1,(r3.getD s9.toNat aoa).2.2))
    rec (zA (s9+1)) b0 r1 y0 m4 r5 m6) none) none)<|some (.inl (b0,r1,r3,m4,r5,m6))
def vq (k:Nat):Nat→yAn:=qZ (fun _ _ _ _ _ _ _=>none) (HN k)
def RK (k:Nat)(a0:rJ)(a1 a2:Int):Option (Int×wc):=
 cond (decide (a1<0)) (some (1,(yI a0 ([],a0.2.2.2.2.2.2.2.2.2.2.2.2.2.2.2.2.2))))<|cond (decide (a1≥a0.2.1.length)) (some (1,(yI a0 ([],a0.2.2.2.2.2.2.2.2.2.2.2.2.2.2.2.2.2))))<|cond (decide (a2<0)) (some (1,(yI a0 ([],a0.2.2.2.2.2.2.2.2.2.2.2.2.2.2.2.2.2))))<|cond (decide (a2>1048576)) (some (1,(yI a0 ([],a0.2.2.2.2.2.2.2.2.2.2.2.2.2.2.2.2.2))))<|(vp k a0.2.2.2.2.2.2.2.2.2.2.1 a1 a2).bind fun x0=>(pt k a0.2.2.2.2.2.2.1 a0.2.2.2.2.2.2.2.1 a0.2.2.2.2.2.2.2.2.1 a0.2.2.2.2.2.2.2.2.2.1).bind fun x1=>(vq k k 0 a0 x0 x1.1 x1.2.1 x1.2.2.1 x1.2.2.2).bind fun z=>match z with
 |.inl z1=>some (0,(jD z1.1 (Cz z1 (z1.2.1,(yPz z1.1 ([],z1.1.2.2.2.2.2.2.2.2.2.2.2.2.2.2.2.2.2))))))
 |.inr z2=>some (yY2 z2 ([],z2.2.2.2.2.2.2.2.2.2.2.2.2.2.2.2.2.2.2))
def zj (k:Nat)(a0:rJ)(a1:zD):Option (Int×wc):=
 cond (decide (a1.1=1)) ((RI k a0 a1.2).bind fun x0=>some (x0.1,x0.2))<|cond (decide (a1.1=2)) ((CD k a0 a1.1 a1.2).bind fun x1=>some (x1.1,x1.2))<|cond (decide (a1.1=3)) ((CD k a0 a1.1 a1.2).bind fun x2=>some (x2.1,x2.2))<|cond (decide (a1.1=4)) ((CD k a0 a1.1 a1.2).bind fun x3=>some (x3.1,x3.2))<|cond (decide (a1.1=5)) ((CE k a0 a1.1 a1.2).bind fun x4=>some (x4.1,x4.2))<|cond (decide (a1.1=6)) ((CE k a0 a1.1 a1.2).bind fun x5=>some (x5.1,x5.2))<|cond (decide (a1.1=7)) ((CE k a0 a1.1 a1.2).bind fun x6=>some (x6.1,x6.2))<|cond (decide (a1.1=8)) ((RJ k a0 a1.2.1 a1.2.2.1).bind fun x7=>some (x7.1,x7.2))<|cond (decide (a1.1=10)) ((HM k a0 (decide (a1.1=10)) a1.2.1 a1.2.2.1).bind fun x8=>some (x8.1,x8.2))<|cond (decide (a1.1=11)) ((HM k a0 (decide (a1.1=10)) a1.2.1 a1.2.2.1).bind fun x9=>some (x9.1,x9.2))<|cond (decide (a1.1=12)) ((RK k a0 a1.2.1 a1.2.2.1).bind fun bT=>some (bT.1,bT.2))<|some (0,(yI a0 ([],a0.2.2.2.2.2.2.2.2.2.2.2.2.2.2.2.2.2)))
def H9 (k:Nat)(a0:yD)(a1:qY)(a2:qU):Option (qY×(List qU)×Int):=
 (CI k a0 a2).bind fun x0=>cond (!x0) (some (a1,[],5))<|cond a1.2.2.2.2.2.2.2.2.2.2 (cond (!(decide (a2.2.1=9))) (some (a1,[],7))<|cond (decide (a2.2.1=9)) (cond (zB a2.1 a1.2.1.length) ((uP k a1.2.2.2.2.2.2.2.1 a2.1).bind fun x1=>(eQ k 17 [(a1.2.1.getD a2.1.toNat aoa).1,(a1.2.1.getD a2.1.toNat aoa).2.1,(a1.2.1.getD a2.1.toNat aoa).2.2,(x1.length:Int),a1.1]).bind fun x2=>some (a1,[(a2.1,x2)],0)) none)<|cond (decide (a2.2.1=14)) ((H6 k a0 a1).bind fun x3=>some (x3.1,x3.2,0))<|(zj k (vK a0 (vQ a1 (a2.1,0))) a2.2).bind fun x4=>cond (!(decide (x4.1=0))) (some (a1,[],x4.1))<|cond (!(decide (a2.1=(-1)))) ((eQ k 15 []).bind fun x5=>(oz k x4.2.2.2.2.2.2.1 x4.2.2.2.2.2.2.2.1 x4.2.2.2.2.2.2.2.2.1 x4.2.2.2.2.2.2.2.2.2.1 x4.2.2.2.2.2.2.2.2.2.2.1 x4.2.2.2.2.2.2.2.2.2.2.2.1 x4.2.2.2.2.2.2.2.2.2.2.2.2.1 x4.2.2.2.2.2.2.2.2.2.2.2.2.2.1 x4.2.2.2.2.2.2.2.2.2.2.2.2.2.2.1 x4.2.2.2.2.2.2.2.2.2.2.2.2.2.2.2.1 x4.2.2.2.2.2.2.2.2.2.2.2.2.2.2.2.2.1 (decide (a2.2.1=13))).bind fun x6=>cond (zO (1+x4.2.2.2.2.2.2.2.2.2.2.2.2.2.2.2.2.2.2.1.length) 64) (let y0:List qU:=([(a2.1,x5)]++x4.2.2.2.2.2.2.2.2.2.2.2.2.2.2.2.2.2.2.1)
    cond (zO (y0.length+x6.2.2.2.2.2.2.2.2.2.2.2.length) 64) (cond (decide (x4.2.2.2.2.2.2.2.2.2.2.2.2.2.2.2.2.2.2.2>0)) ((mA k x6.2.2.2.2.2.2.2.1 x4.2.2.2.2.2.2.2.2.2.2.2.2.2.2.2.2.2.2.2).bind fun x7=>cond (decide (x7≥0)) ((eQ k 19 [x4.2.2.2.2.2.2.2.2.2.2.2.2.2.2.2.2.2.2.2]).bind fun x8=>cond (zO ((y0++x6.2.2.2.2.2.2.2.2.2.2.2).length+1) 64) (let y1:List qU:=((y0++x6.2.2.2.2.2.2.2.2.2.2.2)++[(a2.1,x8)])
        some ((qP x6),y1,0)) none)<|some ((qP x6),(y0++x6.2.2.2.2.2.2.2.2.2.2.2),0))<|some ((qP x6),(y0++x6.2.2.2.2.2.2.2.2.2.2.2),0)) none) none)<|(oz k x4.2.2.2.2.2.2.1 x4.2.2.2.2.2.2.2.1 x4.2.2.2.2.2.2.2.2.1 x4.2.2.2.2.2.2.2.2.2.1 x4.2.2.2.2.2.2.2.2.2.2.1 x4.2.2.2.2.2.2.2.2.2.2.2.1 x4.2.2.2.2.2.2.2.2.2.2.2.2.1 x4.2.2.2.2.2.2.2.2.2.2.2.2.2.1 x4.2.2.2.2.2.2.2.2.2.2.2.2.2.2.1 x4.2.2.2.2.2.2.2.2.2.2.2.2.2.2.2.1 x4.2.2.2.2.2.2.2.2.2.2.2.2.2.2.2.2.1 (decide (a2.2.1=13))).bind fun x9=>cond (zO x4.2.2.2.2.2.2.2.2.2.2.2.2.2.2.2.2.2.2.1.length 64) (let y2:List qU:=x4.2.2.2.2.2.2.2.2.2.2.2.2.2.2.2.2.2.2.1
   cond (zO (y2.length+x9.2.2.2.2.2.2.2.2.2.2.2.length) 64) (cond (decide (x4.2.2.2.2.2.2.2.2.2.2.2.2.2.2.2.2.2.2.2>0)) ((mA k x9.2.2.2.2.2.2.2.1 x4.2.2.2.2.2.2.2.2.2.2.2.2.2.2.2.2.2.2.2).bind fun bT=>cond (decide (bT≥0)) ((eQ k 19 [x4.2.2.2.2.2.2.2.2.2.2.2.2.2.2.2.2.2.2.2]).bind fun cN=>cond (zO ((y2++x9.2.2.2.2.2.2.2.2.2.2.2).length+1) 64) (let y3:List qU:=((y2++x9.2.2.2.2.2.2.2.2.2.2.2)++[(a2.1,cN)])
       some ((qP x9),y3,0)) none)<|some ((qP x9),(y2++x9.2.2.2.2.2.2.2.2.2.2.2),0))<|some ((qP x9),(y2++x9.2.2.2.2.2.2.2.2.2.2.2),0)) none) none)<|cond (decide (a2.2.1=9)) (cond (zB a2.1 a1.2.1.length) ((uP k a1.2.2.2.2.2.2.2.1 a2.1).bind fun gK=>(eQ k 17 [(a1.2.1.getD a2.1.toNat aoa).1,(a1.2.1.getD a2.1.toNat aoa).2.1,(a1.2.1.getD a2.1.toNat aoa).2.2,(gK.length:Int),a1.1]).bind fun lS=>some (a1,[(a2.1,lS)],0)) none)<|cond (decide (a2.2.1=14)) ((H6 k a0 a1).bind fun iJ=>some (iJ.1,iJ.2,0))<|(zj k (vK a0 (vQ a1 (a2.1,0))) a2.2).bind fun bH=>cond (!(decide (bH.1=0))) (some (a1,[],bH.1))<|cond (!(decide (a2.1=(-1)))) ((eQ k 15 []).bind fun oE=>(oz k bH.2.2.2.2.2.2.1 bH.2.2.2.2.2.2.2.1 bH.2.2.2.2.2.2.2.2.1 bH.2.2.2.2.2.2.2.2.2.1 bH.2.2.2.2.2.2.2.2.2.2.1 bH.2.2.2.2.2.2.2.2.2.2.2.1 bH.2.2.2.2.2.2.2.2.2.2.2.2.1 bH.2.2.2.2.2.2.2.2.2.2.2.2.2.1 bH.2.2.2.2.2.2.2.2.2.2.2.2.2.2.1 bH.2.2.2.2.2.2.2.2.2.2.2.2.2.2.2.1 bH.2.2.2.2.2.2.2.2.2.2.2.2.2.2.2.2.1 (decide (a2.2.1=13))).bind fun cq=>cond (zO (1+bH.2.2.2.2.2.2.2.2.2.2.2.2.2.2.2.2.2.2.1.length) 64) (let y4:List qU:=([(a2.1,oE)]++bH.2.2.2.2.2.2.2.2.2.2.2.2.2.2.2.2.2.2.1)
   cond (zO (y4.length+cq.2.2.2.2.2.2.2.2.2.2.2.length) 64) (cond (decide (bH.2.2.2.2.2.2.2.2.2.2.2.2.2.2.2.2.2.2.2>0)) ((mA k cq.2.2.2.2.2.2.2.1 bH.2.2.2.2.2.2.2.2.2.2.2.2.2.2.2.2.2.2.2).bind fun ky=>cond (decide (ky≥0)) ((eQ k 19 [bH.2.2.2.2.2.2.2.2.2.2.2.2.2.2.2.2.2.2.2]).bind fun iK=>cond (zO ((y4++cq.2.2.2.2.2.2.2.2.2.2.2).length+1) 64) (let y5:List qU:=((y4++cq.2.2.2.2.2.2.2.2.2.2.2)++[(a2.1,iK)])
       some ((qP cq),y5,0)) none)<|some ((qP cq),(y4++cq.2.2.2.2.2.2.2.2.2.2.2),0))<|some ((qP cq),(y4++cq.2.2.2.2.2.2.2.2.2.2.2),0)) none) none)<|(oz k bH.2.2.2.2.2.2.1 bH.2.2.2.2.2.2.2.1 bH.2.2.2.2.2.2.2.2.1 bH.2.2.2.2.2.2.2.2.2.1 bH.2.2.2.2.2.2.2.2.2.2.1 bH.2.2.2.2.2.2.2.2.2.2.2.1 bH.2.2.2.2.2.2.2.2.2.2.2.2.1 bH.2.2.2.2.2.2.2.2.2.2.2.2.2.1 bH.2.2.2.2.2.2.2.2.2.2.2.2.2.2.1 bH.2.2.2.2.2.2.2.2.2.2.2.2.2.2.2.1 bH.2.2.2.2.2.2.2.2.2.2.2.2.2.2.2.2.1 (decide (a2.2.1=13))).bind fun iL=>cond (zO bH.2.2.2.2.2.2.2.2.2.2.2.2.2.2.2.2.2.2.1.length 64) (let y6:List qU:=bH.2.2.2.2.2.2.2.2.2.2.2.2.2.2.2.2.2.2.1
  cond (zO (y6.length+iL.2.2.2.2.2.2.2.2.2.2.2.length) 64) (cond (decide (bH.2.2.2.2.2.2.2.2.2.2.2.2.2.2.2.2.2.2.2>0)) ((mA k iL.2.2.2.2.2.2.2.1 bH.2.2.2.2.2.2.2.2.2.2.2.2.2.2.2.2.2.2.2).bind fun we=>cond (decide (we≥0)) ((eQ k 19 [bH.2.2.2.2.2.2.2.2.2.2.2.2.2.2.2.2.2.2.2]).bind fun AJ=>cond (zO ((y6++iL.2.2.2.2.2.2.2.2.2.2.2).length+1) 64) (let y7:List qU:=((y6++iL.2.2.2.2.2.2.2.2.2.2.2)++[(a2.1,AJ)])
      some ((qP iL),y7,0)) none)<|some ((qP iL),(y6++iL.2.2.2.2.2.2.2.2.2.2.2),0))<|some ((qP iL),(y6++iL.2.2.2.2.2.2.2.2.2.2.2),0)) none) none
def pE (k:Nat)(aC:wK)(bC:wX)(a1:AC):Option (Int×wK×wX):=
 (Hq k bC (zA (aC.1+1)) (zA (1-aC.2.1)) a1).bind fun x0=>cond (decide (x0.1=0)) (some (x0.1,((zA (aC.1+1)),(zA (1-aC.2.1)),0,false),x0.2))<|some (x0.1,aC,x0.2)
abbrev qS4:Type:=(yD×qY)⊕Bool
abbrev qV7:Type:=Int→yD→qY→Option qS4
def Ij (k:Nat)(rec:qV7):qV7:=fun s5 b0 b1=>
 cond (decide (s5<b1.2.2.2.2.2.1.length)) (cond (zB s5 b1.2.2.2.2.2.1.length) (cond (decide ((b1.2.2.2.2.2.1.getD s5.toNat 0)<0)) (some (.inr false))<|cond (zB s5 b1.2.2.2.2.2.1.length) (cond (decide ((b1.2.2.2.2.2.1.getD s5.toNat 0)>1048576)) (some (.inr false))<|rec (zA (s5+1)) b0 b1) none) none)<|some (.inl (b0,b1))
def zt (k:Nat):Nat→qV7:=qZ (fun _ _ _=>none) (Ij k)
abbrev yEp:Type:=(Int×yD×qY)⊕Bool
abbrev qU7:Type:=Int→Int→yD→qY→Option yEp
def Ik (k:Nat)(rec:qU7):qU7:=fun s6 s7 b0 b1=>
 cond (zB s6 b1.2.2.2.2.2.2.1.length) (cond (decide (s7<(b1.2.2.2.2.2.2.1.getD s6.toNat []).length)) (cond (zB s6 b1.2.2.2.2.2.2.1.length) (cond (zB s7 (b1.2.2.2.2.2.2.1.getD s6.toNat []).length) (cond (decide (((b1.2.2.2.2.2.2.1.getD s6.toNat []).getD s7.toNat 0)<0)) (some (.inr false))<|cond (zB s6 b1.2.2.2.2.2.2.1.length) (cond (zB s7 (b1.2.2.2.2.2.2.1.getD s6.toNat []).length) (cond (decide (((b1.2.2.2.2.2.2.1.getD s6.toNat []).getD s7.toNat 0)>1099511627776)) (some (.inr false))<|rec s6 (zA (s7+1)) b0 b1) none) none) none) none)<|some (.inl (s6,b0,b1))) none
def CN (k:Nat):Nat→qU7:=qZ (fun _ _ _ _=>none) (Ik k)
abbrev yBg:Type:=Int→yD→qY→Option (Unit⊕Bool)
def Il (k:Nat)(rec:yBg):yBg:=fun s6 b0 b1=>
 cond (decide (s6<b0.1)) (cond (zB s6 b1.2.2.2.2.2.2.1.length) (cond (!(decide (((b1.2.2.2.2.2.2.1.getD s6.toNat []).length:Int)=(b0.2.1.length:Int)))) (some (.inr false))<|(CN k k s6 0 b0 b1).bind fun z2=>match z2 with
   | .inl z3=>cond (zB z3.1 z3.2.2.2.2.2.2.2.2.1.length) ((zd k z3.2.1.2.1 z3.2.2.2.2.2.2.2.1 (z3.2.2.2.2.2.2.2.2.1.getD z3.1.toNat [])).bind fun x0=>cond (!x0.2) (some (.inr false))<|cond (decide (x0.1>1152921504606846976)) (some (.inr false))<|cond (zB z3.1 z3.2.2.2.1.length) (cond (!(decide ((z3.2.2.2.1.getD z3.1.toNat aoa).2.1=x0.1))) (some (.inr false))<|rec (zA (z3.1+1)) z3.2.1 z3.2.2) none)<|none
   |.inr z4=>some (.inr z4)) none)<|some (.inl ())
def zu (k:Nat):Nat→yBg:=qZ (fun _ _ _=>none) (Il k)
def Nk (k:Nat)(a0:yD)(a1:qY):Option Bool:=
 cond (!(decide ((a1.2.2.2.2.2.1.length:Int)=(a0.2.1.length:Int)))) (some false)<|cond (!(decide ((a1.2.2.2.2.2.2.1.length:Int)=a0.1))) (some false)<|(zt k k 0 a0 a1).bind fun z=>match z with
 |.inl z1=>(zu k k 0 z1.1 z1.2).bind fun z5=>match z5 with
  |.inl z6=>some true
  |.inr z7=>some z7
 |.inr z8=>some z8
abbrev qY0:Type:=List zD→Int→Option qMg
def Ig (k:Nat)(rec:qY0):qY0:=fun s0 s3=>
 cond (decide (s3<s0.length)) (cond (zB s3 s0.length) ((mA k s0 (s0.getD s3.toNat apa).1).bind fun x0=>cond (!(decide (x0=s3))) (some (.inr false))<|cond (decide (s3>0)) (cond (zB (zA (s3 - 1)) s0.length) (cond (zB s3 s0.length) ((Hu k (s0.getD (zA (s3-1)).toNat apa).1 (s0.getD (zA (s3-1)).toNat apa).2.1 (s0.getD (zA (s3-1)).toNat apa).2.2.1 (s0.getD (zA (s3-1)).toNat apa).2.2.2.1 (s0.getD (zA (s3-1)).toNat apa).2.2.2.2.1 (s0.getD (zA (s3-1)).toNat apa).2.2.2.2.2.1 (s0.getD (zA (s3-1)).toNat apa).2.2.2.2.2.2 (s0.getD s3.toNat apa).1 (s0.getD s3.toNat apa).2.1 (s0.getD s3.toNat apa).2.2.1 (s0.getD s3.toNat apa).2.2.2.1 (s0.getD s3.toNat apa).2.2.2.2.1 (s0.getD s3.toNat apa).2.2.2.2.2.1 (s0.getD s3.toNat apa).2.2.2.2.2.2).bind fun x1=>cond (!x1) (some (.inr false))<|rec s0 (zA (s3+1))) none) none)<|rec s0 (zA (s3+1))) none)<|some (.inl s0)
def zn (k:Nat):Nat→qY0
 |0,_,_=>none
 |n+1,s0,s3=>Ig k (zn k n) s0 s3
def Nh (k:Nat)(a0:List zD):Option Bool:=
 (zn k k a0 0).bind fun z=>match z with
 |.inl z1=>some (decide ((z1.length:Int)≤40))
 |.inr z2=>some z2
abbrev yFm:Type:=AC→Int→Option (AC⊕Bool)
def Ih (k:Nat)(rec:yFm):yFm:=fun s0 s3=>
 cond (decide (s3<s0.length)) (cond (zB s3 s0.length) (cond (decide ((s0.getD s3.toNat 0)<1)) (some (.inr false))<|cond (decide (s3>0)) (cond (zB s3 s0.length) (cond (zB (zA (s3 - 1)) s0.length) (cond (decide ((s0.getD s3.toNat 0)≤(s0.getD (zA (s3-1)).toNat 0))) (some (.inr false))<|rec s0 (zA (s3+1))) none) none)<|rec s0 (zA (s3+1))) none)<|some (.inl s0)
def CM (k:Nat):Nat→yFm:=qZ (fun _ _=>none) (Ih k)
def Ni (k:Nat)(a0:AC):Option Bool:=
 (CM k k a0 0).bind fun z=>match z with
 |.inl z1=>some (decide ((z1.length:Int)≤200))
 |.inr z2=>some z2
abbrev yA4:Type:=Int→qY→Option (Unit⊕Bool)
def Ii (k:Nat)(rec:yA4):yA4:=fun s3 b0=>
 cond (decide (s3<b0.2.2.2.2.2.2.2.1.length)) (cond (zB s3 b0.2.2.2.2.2.2.2.1.length) ((Qi k b0.2.1 b0.2.2.1 b0.2.2.2.1 b0.2.2.2.2.1 (b0.2.2.2.2.2.2.2.1.getD s3.toNat apa).1 (b0.2.2.2.2.2.2.2.1.getD s3.toNat apa).2.1 (b0.2.2.2.2.2.2.2.1.getD s3.toNat apa).2.2.1 (b0.2.2.2.2.2.2.2.1.getD s3.toNat apa).2.2.2.1 (b0.2.2.2.2.2.2.2.1.getD s3.toNat apa).2.2.2.2.1 (b0.2.2.2.2.2.2.2.1.getD s3.toNat apa).2.2.2.2.2.1 (b0.2.2.2.2.2.2.2.1.getD s3.toNat apa).2.2.2.2.2.2).bind fun x2=>cond (!x2) (some (.inr false))<|cond (decide ((b0.2.2.2.2.2.2.2.1.getD s3.toNat apa).2.2.2.2.2.1<0)) (some (.inr false))<|cond (decide ((b0.2.2.2.2.2.2.2.1.getD s3.toNat apa).2.2.2.2.2.2<(b0.2.2.2.2.2.2.2.1.getD s3.toNat apa).2.2.2.2.2.1)) (some (.inr false))<|cond (decide ((b0.2.2.2.2.2.2.2.1.getD s3.toNat apa).2.2.2.2.2.2>1048576)) (some (.inr false))<|(Cx k b0.2.2.2.2.2.2.2.2.1 (b0.2.2.2.2.2.2.2.1.getD s3.toNat apa).1).bind fun x3=>cond (!x3) (some (.inr false))<|rec (zA (s3+1)) b0) none)<|some (.inl ())
def zp (k:Nat):Nat→yA4:=qZ (fun _ _=>none) (Ii k)
def Nj (k:Nat)(a0:qY):Option Bool:=
 (Nh k a0.2.2.2.2.2.2.2.1).bind fun x0=>cond (!x0) (some false)<|(Ni k a0.2.2.2.2.2.2.2.2.1).bind fun x1=>cond (!x1) (some false)<|(zp k k 0 a0).bind fun z=>match z with
 |.inl z1=>some true
 |.inr z2=>some z2
def R4 (k:Nat)(Ds AK a1:Int):Option vH:=
 some ((zA ((zA (Ds+(shr .i64 a1 32)))+(shr .i64 (zA (AK+(yK .i64 a1 4294967295))) 32))),(yK .i64 (zA (AK+(yK .i64 a1 4294967295))) 4294967295))
abbrev qR4:Type:=AC→Int→Int→Int→Option vH
def Ie (k:Nat)(rec:qR4):qR4:=fun s0 s5 af ah=>
 cond (decide (s5<s0.length)) (cond (zB s5 s0.length) ((R4 k af ah (s0.getD s5.toNat 0)).bind fun x0=>rec s0 (zA (s5+1)) x0.1 x0.2) none)<|some (af,ah)
def Ng (k:Nat):Nat→qR4
 |0,_,_,_,_=>none
 |n+1,s0,s5,af,ah=>Ie k (Ng k n) s0 s5 af ah
def Nf (k:Nat)(a0:AC):Option eX:=
 (Ng k k a0 0 0 0).bind fun z=>cond (decide (z.1<(-2147483648))) (some (0,false))<|cond (decide (z.1≥2147483648)) (some (0,false))<|some ((zA ((shl .i64 z.1 32)+z.2)),true)
abbrev yAg:Type:=Int→yD→qY→AC→Option qRc
def Ip (k:Nat)(rec:yAg):yAg:=fun s6 b0 b1 r2=>
 cond (decide (s6<b0.1)) (cond (zB s6 b1.2.1.length) (cond (zO (r2.length+1) 8) (let y0:AC:=(r2++[(b1.2.1.getD s6.toNat aoa).1])
    rec (zA (s6+1)) b0 b1 y0) none) none)<|some (b0,b1,r2)
def CO (k:Nat):Nat→yAg:=qZ (fun _ _ _ _=>none) (Ip k)
def Io (k:Nat)(a0:yD)(a1:qY):Option Bool:=
 cond (decide (a1.1<0)) (some false)<|cond (decide (a1.1>a0.2.2.2.1)) (some false)<|(Ff k a1.2.1 a1.2.2.1 a1.2.2.2.1 a1.2.2.2.2.1).bind fun x0=>cond (!x0) (some false)<|cond (!(decide ((a1.2.1.length:Int)=a0.1))) (some false)<|(Nk k a0 a1).bind fun x1=>cond (!x1) (some false)<|(Nj k a1).bind fun x2=>cond (!x2) (some false)<|(CO k k 0 a0 a1 []).bind fun z=>(Nf k z.2.2).bind fun x3=>cond x3.2 (cond (decide (x3.1=z.2.1.2.2.2.2.2.2.2.2.2.1)) (cond (decide (x3.1≥0)) (cond (decide (x3.1≤1152921504606846976)) (cond (eL z.2.1.2.2.2.2.2.2.2.2.2.2 (decide (z.2.1.1=z.1.2.2.2.1))) (cond (!z.2.1.2.2.2.2.2.2.2.2.2.2) (some true)<|some (decide ((z.2.1.2.2.2.2.2.2.2.1.length:Int)=0)))<|some false)<|some false)<|some false)<|some false)<|some false
abbrev qWk:Type:=Int×Bool×Dt×AC×AC×yD×wK×qY
abbrev qNu:Type:=Int→Bool→EQ→Int→Dt→AC→AC→yD→wK→qY→Option qWk
def IV (k:Nat)(rec:qNu):qNu:=fun s2 cL aQ cQ b0 r1 r2 b3 b4 b5=>
 cond (decide (cQ<aQ.length)) (cond (zB cQ aQ.length) ((Sn k (aQ.getD cQ.toNat [])).bind fun x8=>cond (decide (x8.2=0)) ((H9 k b3 b5 x8.1).bind fun x9=>rec s2 cL aQ (zA (cQ+1)) b0 r1 r2 b3 b4 x9.1)<|rec s2 cL aQ (zA (cQ+1)) b0 r1 r2 b3 b4 b5) none)<|some (s2,cL,b0,r1,r2,b3,b4,b5)
def tv (k:Nat):Nat→qNu:=qZ (fun _ _ _ _ _ _ _ _ _ _=>none) (IV k)
def lL (k:Nat)(a0:yD)(a1:wX)(a2:Int):Option ((Int×wX×kz×wK)⊕(Int×wX)):=
 (ND k a0).bind fun x0=>cond (!x0) (some (.inr (1,a1)))<|cond (decide (a2<1)) (some (.inr (1,a1)))<|cond (decide (a2>1000)) (some (.inr (1,a1)))<|(Nx k a1).bind fun x1=>(zz k a0).bind fun x2=>(ot k x2).bind fun x3=>(qO2 k a1 x3).bind fun x4=>match x4 with
 |.inl x5=>cond (!(decide (x5.2.2.1=0))) (some (.inr (x5.2.2.1,x5.2.2.2.1)))<|(IT k x5.1).bind fun x6=>cond (!x6.2) ((zz k a0).bind fun x7=>(tv k k a2 x1.2.2.2.2 x5.2.1 0 x5.2.2.2.1.2.2 x5.2.2.2.1.1 x5.2.2.2.1.2.1 a0 x5.2.2.2.2 x7).bind fun z=>cond z.2.1 ((ot k z.2.2.2.2.2.2.2).bind fun bT=>(pE k z.2.2.2.2.2.2.1 (z.2.2.2.1,z.2.2.2.2.1,z.2.2.1) bT).bind fun cN=>cond (!(decide (cN.1=0))) (some (.inr (cN.1,cN.2.2)))<|some (.inl (0,cN.2.2,(vK z.2.2.2.2.2.1 (lK z (z.1,false))),cN.2.1)))<|some (.inl (0,(z.2.2.2.1,z.2.2.2.2.1,z.2.2.1),(vK z.2.2.2.2.2.1 (lK z (z.1,false))),z.2.2.2.2.2.2.1)))<|(Io k a0 x6.1).bind fun gK=>cond (!gK) ((zz k a0).bind fun lS=>(tv k k a2 x1.2.2.2.2 x5.2.1 0 x5.2.2.2.1.2.2 x5.2.2.2.1.1 x5.2.2.2.1.2.1 a0 x5.2.2.2.2 lS).bind fun z1=>cond z1.2.1 ((ot k z1.2.2.2.2.2.2.2).bind fun iJ=>(pE k z1.2.2.2.2.2.2.1 (z1.2.2.2.1,z1.2.2.2.2.1,z1.2.2.1) iJ).bind fun bH=>cond (!(decide (bH.1=0))) (some (.inr (bH.1,bH.2.2)))<|some (.inl (0,bH.2.2,(vK z1.2.2.2.2.2.1 (lK z1 (z1.1,false))),bH.2.1)))<|some (.inl (0,(z1.2.2.2.1,z1.2.2.2.2.1,z1.2.2.1),(vK z1.2.2.2.2.2.1 (lK z1 (z1.1,false))),z1.2.2.2.2.2.2.1)))<|(tv k k a2 x1.2.2.2.2 x5.2.1 0 x5.2.2.2.1.2.2 x5.2.2.2.1.1 x5.2.2.2.1.2.1 a0 x5.2.2.2.2 x6.1).bind fun z2=>cond z2.2.1 ((ot k z2.2.2.2.2.2.2.2).bind fun oE=>(pE k z2.2.2.2.2.2.2.1 (z2.2.2.2.1,z2.2.2.2.2.1,z2.2.2.1) oE).bind fun cq=>cond (!(decide (cq.1=0))) (some (.inr (cq.1,cq.2.2)))<|some (.inl (0,cq.2.2,(vK z2.2.2.2.2.2.1 (lK z2 (z2.1,false))),cq.2.1)))<|some (.inl (0,(z2.2.2.2.1,z2.2.2.2.2.1,z2.2.2.1),(vK z2.2.2.2.2.2.1 (lK z2 (z2.1,false))),z2.2.2.2.2.2.2.1))
 |.inr ky=>cond (!(decide (ky.2.2.1=0))) (some (.inr (ky.2.2.1,ky.2.2.2)))<|(IT k ky.1).bind fun iK=>cond (!iK.2) ((zz k a0).bind fun iL=>none)<|(Io k a0 iK.1).bind fun we=>cond (!we) ((zz k a0).bind fun AJ=>none) none
def ko (k:Nat)(aC:kz)(bC:wK)(dr:vR):Option (Bool×kz×wK×vR):=
 some (aC.2.2.2.2.2.2.2.2.2.2.2.2.2.2.2.2.2,aC,bC,dr)
def Oh (k:Nat)(a0 a1:Int):Option (List qU):=
 some [(a0,16,a1,0,0,0,0,0)]
def yA8 (k:Nat)(a0:zD):Option AC:=
 (lJ k a0).bind fun x0=>cond (!x0) (some [])<|(uG k a0.1).bind fun x1=>cond ((decide (0≤x1))&&(decide (x1≤6))) ((xO k (qO [a0.2.1,a0.2.2.1,a0.2.2.2.1,a0.2.2.2.2.1,a0.2.2.2.2.2.1,a0.2.2.2.2.2.2] 0 (x1.toNat-0))).bind fun x2=>cond (zO (1+x2.length) 1) (some ([(IntKind.wrap .u8 (a0.1))]++x2)) none) none
def Sl (k:Nat)(a0:qU):Option AC:=
 (yA8 k a0.2).bind fun x0=>cond (decide ((x0.length:Int)=0)) (some [])<|(xO k [a0.1]).bind fun x1=>cond (zO (x1.length+x0.length) 1) (some (x1++x0)) none
def yu (k:Nat)(aC:wK)(bC:vR)(a1:AC):Option (Int×wK×vR):=
 (KS k a1).bind fun x0=>cond (!x0.2) (some (10,aC,bC))<|cond aC.2.2.2 (some (10,aC,bC))<|(vh k bC aC.1 x0.1).bind fun x1=>cond (decide (x1.1=3)) (some (10,aC,x1.2))<|cond (decide (x1.1=0)) ((tg k x1.2).bind fun x2=>cond (decide (x2.1=0)) (some (x2.1,(aC.1,aC.2.1,(zA (aC.2.2.1+1)),aC.2.2.2),x2.2))<|some (x2.1,aC,x2.2))<|cond (decide (x1.1=0)) (some (x1.1,(aC.1,aC.2.1,(zA (aC.2.2.1+1)),aC.2.2.2),x1.2))<|some (x1.1,aC,x1.2)
def So (k:Nat)(aC:kz)(bC:wK)(dr:vR)(a1:AC):Option (Int×kz×wK×vR):=
 (yu k bC dr a1).bind fun x0=>cond (!(decide (x0.1=10))) (some (x0.1,aC,x0.2.1,x0.2.2))<|(ni k (jS aC)).bind fun x1=>(ou k x0.2.1 x0.2.2 x1).bind fun x2=>cond (!(decide (x2.1=0))) (some (x2.1,aC,x2.2.1,x2.2.2))<|(yu k x2.2.1 x2.2.2 a1).bind fun x3=>some (x3.1,aC,x3.2.1,x3.2.2)
def qOw (k:Nat)(aC:wK)(bC:vR):Option (Int×wK×vR):=
 some (aC.2.2.1,aC,bC)
def C7 (k:Nat)(aC:kz)(bC:wK)(dr:vR)(a1:Int)(a2:AC):Option ((List qU)×kz×wK×vR):=
 (ko k aC bC dr).bind fun x0=>cond x0.1 (some ([],x0.2.1,x0.2.2.1,x0.2.2.2))<|(BR k a2).bind fun x1=>cond (!(decide (x1.2=0))) ((Oh k a1 x1.2).bind fun x2=>some (x2,x0.2.1,x0.2.2.1,x0.2.2.2))<|(M7 k (yC x0.2.1) (jS x0.2.1) (a1,x1.1)).bind fun x3=>cond (!(decide (x3.2.2=0))) ((Oh k a1 x3.2.2).bind fun x4=>some (x4,x0.2.1,x0.2.2.1,x0.2.2.2))<|cond (decide (x1.1.1=9)) (some (x3.2.1,x0.2.1,x0.2.2.1,x0.2.2.2))<|(Sl k (a1,x1.1)).bind fun x5=>(So k x0.2.1 x0.2.2.1 x0.2.2.2 x5).bind fun x6=>cond (decide (x6.1=0)) ((qOw k x6.2.2.1 x6.2.2.2).bind fun x7=>cond (decide (x7.1≥x6.2.1.2.2.2.2.2.2.2.2.2.2.2.2.2.2.2.2.1)) ((ni k x3.1).bind fun x8=>(ou k x7.2.1 x7.2.2 x8).bind fun x9=>cond (decide (x9.1=11)) (some (x3.2.1,(fL x6.2.1 (vQ x3.1 (x6.2.1.2.2.2.2.2.2.2.2.2.2.2.2.2.2.2.2.1,true))),x9.2.1,x9.2.2))<|some (x3.2.1,(fL x6.2.1 (vQ x3.1 x6.2.1.2.2.2.2.2.2.2.2.2.2.2.2.2.2.2.2)),x9.2.1,x9.2.2))<|some (x3.2.1,(fL x6.2.1 (vQ x3.1 x6.2.1.2.2.2.2.2.2.2.2.2.2.2.2.2.2.2.2)),x7.2.1,x7.2.2))<|cond (decide (x6.1=10)) ((Oh k a1 10).bind fun bT=>some (bT,x6.2.1,x6.2.2.1,x6.2.2.2))<|some ([],(yI x6.2.1 true),x6.2.2.1,x6.2.2.2)
def NB (k:Nat)(a0 a1:Int):Option (List qU):=
 (eQ k 16 [a1]).bind fun x0=>some [(a0,x0)]
def Nz (k:Nat)(a0:zD):Option (Unit⊕(AC)):=
 (th k a0).bind fun x0=>cond (!x0) (some (.inl ()))<|(BQ k a0.1).bind fun x1=>cond ((decide (0≤x1))&&(decide (x1≤6))) ((yq k (qO [a0.2.1,a0.2.2.1,a0.2.2.2.1,a0.2.2.2.2.1,a0.2.2.2.2.2.1,a0.2.2.2.2.2.2] 0 (x1.toNat-0))).bind fun x2=>cond (zO (1+x2.length) 1) (some (.inr ([(IntKind.wrap .u8 (a0.1))]++x2))) none) none
def Ny (k:Nat)(a0:qU):Option (Unit⊕(AC)):=
 (Nz k a0.2).bind fun x0=>match x0 with
 |.inl x1=>some (.inl ())
 | .inr x2=>cond (Nat.blt 0 x2.length) ((yq k [a0.1]).bind fun x3=>cond (zO (x3.length+x2.length) 1) (some (.inr (x3++x2))) none) none
def yt (k:Nat)(aC:wK)(bC:wX)(a1:AC):Option (Int×wK×wX):=
 (Mz k a1).bind fun x0=>cond aC.2.2.2 (some (10,aC,bC))<|cond (!x0.2) (some (10,aC,bC))<|(Hn k bC aC.2.1 x0.1).bind fun x1=>cond (decide (x1.1=3)) (some (10,aC,x1.2))<|cond (decide (x1.1=0)) ((Ct k x1.2).bind fun x2=>cond (decide (x2.1=0)) (some (x2.1,(aC.1,aC.2.1,(zA (aC.2.2.1+1)),aC.2.2.2),x2.2))<|some (x2.1,aC,x2.2))<|cond (decide (x1.1=0)) (some (x1.1,(aC.1,aC.2.1,(zA (aC.2.2.1+1)),aC.2.2.2),x1.2))<|some (x1.1,aC,x1.2)
def Sp (k:Nat)(aC:kz)(bC:wK)(dr:wX)(a1:qU):Option (Int×kz×wK×wX):=
 (Ny k a1).bind fun x0=>match x0 with
 |.inl x1=>(yt k bC dr []).bind fun x2=>cond (decide (x2.1=10)) ((ot k (jS aC)).bind fun x3=>(pE k x2.2.1 x2.2.2 x3).bind fun x4=>cond (decide (x4.1=0)) ((yt k x4.2.1 x4.2.2 []).bind fun x5=>some (x5.1,aC,x5.2.1,x5.2.2))<|some (x4.1,aC,x4.2.1,x4.2.2))<|some (x2.1,aC,x2.2.1,x2.2.2)
 |.inr x6=>(yt k bC dr x6).bind fun x7=>cond (decide (x7.1=10)) ((ot k (jS aC)).bind fun x8=>(pE k x7.2.1 x7.2.2 x8).bind fun x9=>cond (decide (x9.1=0)) ((yt k x9.2.1 x9.2.2 x6).bind fun bT=>some (bT.1,aC,bT.2.1,bT.2.2))<|some (x9.1,aC,x9.2.1,x9.2.2))<|some (x7.1,aC,x7.2.1,x7.2.2)
def NA (k:Nat)(aC:kz)(bC:wK)(dr:wX)(a1:Int)(a2:AC):Option ((List qU)×kz×wK×wX):=
 cond aC.2.2.2.2.2.2.2.2.2.2.2.2.2.2.2.2.2 (some ([],aC,bC,dr))<|(E1 k a2).bind fun x0=>cond (!(decide (x0.2=0))) ((NB k a1 x0.2).bind fun x1=>some (x1,aC,bC,dr))<|(H9 k (yC aC) (jS aC) (a1,x0.1)).bind fun x2=>cond (!(decide (x2.2.2=0))) ((NB k a1 x2.2.2).bind fun x3=>some (x3,aC,bC,dr))<|cond (decide (x0.1.1=9)) (some (x2.2.1,aC,bC,dr))<|(Sp k aC bC dr (a1,x0.1)).bind fun x4=>cond (decide (x4.1=0)) (cond (decide (x4.2.2.1.2.2.1≥x4.2.1.2.2.2.2.2.2.2.2.2.2.2.2.2.2.2.2.1)) ((ot k x2.1).bind fun x5=>(pE k x4.2.2.1 x4.2.2.2 x5).bind fun x6=>cond (decide (x6.1=11)) (some (x2.2.1,(fL x4.2.1 (vQ x2.1 (x4.2.1.2.2.2.2.2.2.2.2.2.2.2.2.2.2.2.2.1,true))),x6.2.1,x6.2.2))<|some (x2.2.1,(fL x4.2.1 (vQ x2.1 x4.2.1.2.2.2.2.2.2.2.2.2.2.2.2.2.2.2.2)),x6.2.1,x6.2.2))<|some (x2.2.1,(fL x4.2.1 (vQ x2.1 x4.2.1.2.2.2.2.2.2.2.2.2.2.2.2.2.2.2.2)),x4.2.2.1,x4.2.2.2))<|cond (decide (x4.1=10)) ((NB k a1 10).bind fun x7=>some (x7,x4.2.1,x4.2.2.1,x4.2.2.2))<|some ([],(yI x4.2.1 true),x4.2.2.1,x4.2.2.2)
abbrev yE7:Type:=List qU→List qU→Int→Option (Unit⊕Bool)
def G4 (k:Nat)(rec:yE7):yE7:=fun s0 s1 s5=>
 cond (decide (s5<s0.length)) (cond (zB s5 s0.length) (cond (zB s5 s1.length) (cond (!((decide ((s0.getD s5.toNat aqa).1=(s1.getD s5.toNat aqa).1))&&((decide ((s0.getD s5.toNat aqa).2.1=(s1.getD s5.toNat aqa).2.1))&&((decide ((s0.getD s5.toNat aqa).2.2.1=(s1.getD s5.toNat aqa).2.2.1))&&((decide ((s0.getD s5.toNat aqa).2.2.2.1=(s1.getD s5.toNat aqa).2.2.2.1))&&((decide ((s0.getD s5.toNat aqa).2.2.2.2.1=(s1.getD s5.toNat aqa).2.2.2.2.1))&&((decide ((s0.getD s5.toNat aqa).2.2.2.2.2.1=(s1.getD s5.toNat aqa).2.2.2.2.2.1))&&((decide ((s0.getD s5.toNat aqa).2.2.2.2.2.2.1=(s1.getD s5.toNat aqa).2.2.2.2.2.2.1))&&(decide ((s0.getD s5.toNat aqa).2.2.2.2.2.2.2=(s1.getD s5.toNat aqa).2.2.2.2.2.2.2)))))))))) (some (.inr false))<|rec s0 s1 (zA (s5+1))) none) none)<|some (.inl ())
def Mq (k:Nat):Nat→yE7
 |0,_,_,_=>none
 |n+1,s0,s1,s5=>G4 k (Mq k n) s0 s1 s5
def G3 (k:Nat)(a0 a1:List qU):Option Bool:=
 cond (!(decide ((a0.length:Int)=(a1.length:Int)))) (some false)<|(Mq k k a0 a1 0).bind fun z=>match z with
 |.inl z1=>some true
 |.inr z2=>some z2
def pG (k:Nat)(aC:kz)(bC:wK)(dr:vR):Option (qY×kz×wK×vR):=
 some ((jS aC),aC,bC,dr)
abbrev yD2:Type:=AC→AC→Int→Option (Unit⊕Bool)
def Fu (k:Nat)(rec:yD2):yD2:=fun s0 s1 s5=>
 cond (decide (s5<s0.length)) (cond (zB s5 s0.length) (cond (zB s5 s1.length) (cond (!(decide ((s0.getD s5.toNat 0)=(s1.getD s5.toNat 0)))) (some (.inr false))<|rec s0 s1 (zA (s5+1))) none) none)<|some (.inl ())
def Le (k:Nat):Nat→yD2
 |0,_,_,_=>none
 |n+1,s0,s1,s5=>Fu k (Le k n) s0 s1 s5
def uI (k:Nat)(a0 a1:AC):Option Bool:=
 cond (!(decide ((a0.length:Int)=(a1.length:Int)))) (some false)<|(Le k k a0 a1 0).bind fun z=>match z with
 |.inl z1=>some true
 |.inr z2=>some z2
abbrev qW7:Type:=EQ→EQ→Int→Option (Unit⊕Bool)
def Fv (k:Nat)(rec:qW7):qW7:=fun s0 s1 s5=>
 cond (decide (s5<s0.length)) (cond (zB s5 s0.length) (cond (zB s5 s1.length) ((uI k (s0.getD s5.toNat []) (s1.getD s5.toNat [])).bind fun x0=>cond (!x0) (some (.inr false))<|rec s0 s1 (zA (s5+1))) none) none)<|some (.inl ())
def Lf (k:Nat):Nat→qW7
 |0,_,_,_=>none
 |n+1,s0,s1,s5=>Fv k (Lf k n) s0 s1 s5
def BW (k:Nat)(a0 a1:EQ):Option Bool:=
 cond (!(decide ((a0.length:Int)=(a1.length:Int)))) (some false)<|(Lf k k a0 a1 0).bind fun z=>match z with
 |.inl z1=>some true
 |.inr z2=>some z2
abbrev yCr:Type:=Int→List zK→EQ→AC→EQ→List zK→EQ→AC→EQ→Option (Unit⊕Bool)
def Fw (k:Nat)(rec:yCr):yCr:=fun s5 af ah aj ag aw aD aE aG=>
 cond (decide (s5<af.length)) (cond (zB s5 af.length) (cond (zB s5 aw.length) (cond (!((decide ((af.getD s5.toNat aoa).1=(aw.getD s5.toNat aoa).1))&&((decide ((af.getD s5.toNat aoa).2.1=(aw.getD s5.toNat aoa).2.1))&&(decide ((af.getD s5.toNat aoa).2.2=(aw.getD s5.toNat aoa).2.2))))) (some (.inr false))<|rec (zA (s5+1)) af ah aj ag aw aD aE aG) none) none)<|some (.inl ())
def Lh (k:Nat):Nat→yCr
 |0,_,_,_,_,_,_,_,_,_=>none
 |n+1,s5,af,ah,aj,ag,aw,aD,aE,aG=>Fw k (Lh k n) s5 af ah aj ag aw aD aE aG
def Lg (k:Nat)(au:List zK)(az:EQ)(ay:AC)(ax:EQ)(cW:List zK)(jk:EQ)(jl:AC)(jm:EQ):Option Bool:=
 cond (!(decide ((au.length:Int)=(cW.length:Int)))) (some false)<|(BW k az jk).bind fun x0=>cond (!x0) (some false)<|(BW k ax jm).bind fun x1=>cond (!x1) (some false)<|(uI k ay jl).bind fun x2=>cond (!x2) (some false)<|(Lh k k 0 au az ay ax cW jk jl jm).bind fun z=>match z with
 |.inl z1=>some true
 |.inr z2=>some z2
abbrev yDe:Type:=List zD→List zD→Int→Option (Unit⊕Bool)
def Ia (k:Nat)(rec:yDe):yDe:=fun s0 s1 s5=>
 cond (decide (s5<s0.length)) (cond (zB s5 s0.length) (cond (zB s5 s1.length) (cond (!((decide ((s0.getD s5.toNat apa).1=(s1.getD s5.toNat apa).1))&&((decide ((s0.getD s5.toNat apa).2.1=(s1.getD s5.toNat apa).2.1))&&((decide ((s0.getD s5.toNat apa).2.2.1=(s1.getD s5.toNat apa).2.2.1))&&((decide ((s0.getD s5.toNat apa).2.2.2.1=(s1.getD s5.toNat apa).2.2.2.1))&&((decide ((s0.getD s5.toNat apa).2.2.2.2.1=(s1.getD s5.toNat apa).2.2.2.2.1))&&((decide ((s0.getD s5.toNat apa).2.2.2.2.2.1=(s1.getD s5.toNat apa).2.2.2.2.2.1))&&(decide ((s0.getD s5.toNat apa).2.2.2.2.2.2=(s1.getD s5.toNat apa).2.2.2.2.2.2))))))))) (some (.inr false))<|rec s0 s1 (zA (s5+1))) none) none)<|some (.inl ())
def M9 (k:Nat):Nat→yDe
 |0,_,_,_=>none
 |n+1,s0,s1,s5=>Ia k (M9 k n) s0 s1 s5
def M8 (k:Nat)(a0 a1:List zD):Option Bool:=
 cond (!(decide ((a0.length:Int)=(a1.length:Int)))) (some false)<|(M9 k k a0 a1 0).bind fun z=>match z with
 |.inl z1=>some true
 |.inr z2=>some z2
def rj (k:Nat)(a0 a1:qY):Option Bool:=
 cond (decide (a0.1=a1.1)) (cond (decide (a0.2.2.2.2.2.2.2.2.2.1=a1.2.2.2.2.2.2.2.2.2.1)) (cond (eL a0.2.2.2.2.2.2.2.2.2.2 a1.2.2.2.2.2.2.2.2.2.2) ((Lg k a0.2.1 a0.2.2.1 a0.2.2.2.1 a0.2.2.2.2.1 a1.2.1 a1.2.2.1 a1.2.2.2.1 a1.2.2.2.2.1).bind fun x0=>cond x0 ((uI k a0.2.2.2.2.2.1 a1.2.2.2.2.2.1).bind fun x1=>cond x1 ((BW k a0.2.2.2.2.2.2.1 a1.2.2.2.2.2.2.1).bind fun x2=>cond x2 ((M8 k a0.2.2.2.2.2.2.2.1 a1.2.2.2.2.2.2.2.1).bind fun x3=>cond x3 ((uI k a0.2.2.2.2.2.2.2.2.1 a1.2.2.2.2.2.2.2.2.1).bind fun x4=>some x4)<|some false)<|some false)<|some false)<|some false)<|some false)<|some false)<|some false
def NH (k:Nat)(a0:vR)(a1:vH):Option vR:=
 some (fL a0 (a1.1,a1.2,true,a0.2.2.2.2.2.2.2.2))
def NI (k:Nat)(a0:wX)(a1:vH):Option wX:=
 some (jD a0 (a1.1,a1.2,true,a0.2.2.2.2.2.2.2.2.2))
def C8 (k:Nat)(a0:vR):Option vR:=
 cond ((decide (0≤a0.2.2.1))&&(decide (a0.2.2.1≤a0.2.1.length))) (cond ((decide (0≤a0.2.2.2.2.1))&&(decide (a0.2.2.2.2.1≤a0.2.2.2.1.length))) (some (a0.1,(List.take (a0.2.2.1.toNat-0) a0.2.1),a0.2.2.1,(List.take (a0.2.2.2.2.1.toNat-0) a0.2.2.2.1),a0.2.2.2.2.1,a0.2.2.2.2.2.1,a0.2.2.2.2.2.2.1,false,false,0)) none) none
def C9 (k:Nat)(a0:wX):Option wX:=
 cond ((decide (0≤a0.2.2.1))&&(decide (a0.2.2.1≤a0.1.length))) (cond ((decide (0≤a0.2.2.2.1))&&(decide (a0.2.2.2.1≤a0.2.1.length))) (some ((List.take (a0.2.2.1.toNat-0) a0.1),(List.take (a0.2.2.2.1.toNat-0) a0.2.1),a0.2.2.1,a0.2.2.2.1,a0.2.2.2.2.1,0,a0.2.2.2.2.2.2.1,a0.2.2.2.2.2.2.2.1,false,false)) none) none
def NU (k:Nat):Option qY:=
 some (0,[],[],[],[],[],[],[],[],0,false)
def tx (k:Nat):Option Bool:=
 some true
def qV8 (k:Nat)(a1:Int)(a2:AC):Option (List qU):=
 (tx k).bind fun x0=>cond x0 (some [])<|(BR k a2).bind fun x1=>cond (!(decide (x1.2=0))) ((Oh k a1 x1.2).bind fun x2=>some x2) none
def NK (k:Nat):Option Bool:=
 (Ss k 20000).bind fun x0=>match x0 with
 |.inl x1=>(kp k 0).bind fun x2=>(fq k x2 x1 100).bind fun x3=>match x3 with
  |.inl x4=>(eQ k 10 [0,5]).bind fun x5=>(Nz k x5).bind fun x6=>match x6 with
   |.inl x7=>(C7 k x4.2.2.1 x4.2.2.2 x4.2.1 (-1) []).bind fun x8=>(kp k 0).bind fun x9=>(fq k x9 x8.2.2.2 100).bind fun bT=>match bT with
    |.inl cN=>(pG k cN.2.2.1 cN.2.2.2 cN.2.1).bind fun gK=>(kp k 0).bind fun lS=>(fq k lS gK.2.2.2 0).bind fun iJ=>match iJ with
     | .inl bH=>cond (decide (x4.1=0)) (cond (decide ((x8.1.length : Int)=0)) (cond (decide (cN.1=0)) (cond (decide ((gK.1.2.1.length : Int)=3)) (cond (zB 0 gK.1.2.1.length) (cond (decide ((gK.1.2.1.getD 0 aoa).1=5)) ((ko k x8.2.1 x8.2.2.1 bH.2.1).bind fun oE=>cond (!oE.1) (some (decide (bH.1=1)))<|some false)<|some false) none)<|some false)<|some false)<|some false)<|some false
     | .inr cq=>cond (decide (x4.1=0)) (cond (decide ((x8.1.length : Int)=0)) (cond (decide (cN.1=0)) (cond (decide ((gK.1.2.1.length : Int)=3)) (cond (zB 0 gK.1.2.1.length) (cond (decide ((gK.1.2.1.getD 0 aoa).1=5)) ((ko k x8.2.1 x8.2.2.1 cq.2).bind fun ky=>cond (!ky.1) (some (decide (cq.1=1)))<|some false)<|some false) none)<|some false)<|some false)<|some false)<|some false
    |.inr iK=>(NU k).bind fun iL=>(kp k 0).bind fun we=>(fq k we iK.2 0).bind fun AJ=>match AJ with
     | .inl TS=>cond (decide (x4.1=0)) (cond (decide ((x8.1.length : Int)=0)) (cond (decide (iK.1=0)) (cond (decide ((iL.2.1.length : Int)=3)) (cond (zB 0 iL.2.1.length) (cond (decide ((iL.2.1.getD 0 aoa).1=5)) ((ko k x8.2.1 x8.2.2.1 TS.2.1).bind fun Du=>cond (!Du.1) (some (decide (TS.1=1)))<|some false)<|some false) none)<|some false)<|some false)<|some false)<|some false
     | .inr TT=>cond (decide (x4.1=0)) (cond (decide ((x8.1.length : Int)=0)) (cond (decide (iK.1=0)) (cond (decide ((iL.2.1.length : Int)=3)) (cond (zB 0 iL.2.1.length) (cond (decide ((iL.2.1.getD 0 aoa).1=5)) ((ko k x8.2.1 x8.2.2.1 TT.2).bind fun tD=>cond (!tD.1) (some (decide (TT.1=1)))<|some false)<|some false) none)<|some false)<|some false)<|some false)<|some false
   |.inr Jl=>(C7 k x4.2.2.1 x4.2.2.2 x4.2.1 (-1) Jl).bind fun gL=>(kp k 0).bind fun x29=>(fq k x29 gL.2.2.2 100).bind fun x30=>match x30 with
    |.inl oJ=>(pG k oJ.2.2.1 oJ.2.2.2 oJ.2.1).bind fun wg=>(kp k 0).bind fun x33=>(fq k x33 wg.2.2.2 0).bind fun Jm=>match Jm with
     | .inl Dv=>cond (decide (x4.1=0)) (cond (decide ((gL.1.length : Int)=0)) (cond (decide (oJ.1=0)) (cond (decide ((wg.1.2.1.length : Int)=3)) (cond (zB 0 wg.1.2.1.length) (cond (decide ((wg.1.2.1.getD 0 aoa).1=5)) ((ko k gL.2.1 gL.2.2.1 Dv.2.1).bind fun tE=>cond (!tE.1) (some (decide (Dv.1=1)))<|some false)<|some false) none)<|some false)<|some false)<|some false)<|some false
     | .inr TU=>cond (decide (x4.1=0)) (cond (decide ((gL.1.length : Int)=0)) (cond (decide (oJ.1=0)) (cond (decide ((wg.1.2.1.length : Int)=3)) (cond (zB 0 wg.1.2.1.length) (cond (decide ((wg.1.2.1.getD 0 aoa).1=5)) ((ko k gL.2.1 gL.2.2.1 TU.2).bind fun Dw=>cond (!Dw.1) (some (decide (TU.1=1)))<|some false)<|some false) none)<|some false)<|some false)<|some false)<|some false
    |.inr Dx=>(NU k).bind fun AL=>(kp k 0).bind fun TV=>(fq k TV Dx.2 0).bind fun x42=>match x42 with
     | .inl AM=>cond (decide (x4.1=0)) (cond (decide ((gL.1.length : Int)=0)) (cond (decide (Dx.1=0)) (cond (decide ((AL.2.1.length : Int)=3)) (cond (zB 0 AL.2.1.length) (cond (decide ((AL.2.1.getD 0 aoa).1=5)) ((ko k gL.2.1 gL.2.2.1 AM.2.1).bind fun x44=>cond (!x44.1) (some (decide (AM.1=1)))<|some false)<|some false) none)<|some false)<|some false)<|some false)<|some false
     | .inr rK=>cond (decide (x4.1=0)) (cond (decide ((gL.1.length : Int)=0)) (cond (decide (Dx.1=0)) (cond (decide ((AL.2.1.length : Int)=3)) (cond (zB 0 AL.2.1.length) (cond (decide ((AL.2.1.getD 0 aoa).1=5)) ((ko k gL.2.1 gL.2.2.1 rK.2).bind fun Jn=>cond (!Jn.1) (some (decide (rK.1=1)))<|some false)<|some false) none)<|some false)<|some false)<|some false)<|some false
  |.inr jn=>(eQ k 10 [0,5]).bind fun x48=>(Nz k x48).bind fun x49=>match x49 with
   |.inl AN=>(qV8 k (-1) []).bind fun Jo=>(kp k 0).bind fun x52=>(fq k x52 jn.2 100).bind fun Jp=>match Jp with
    |.inl rL=>(pG k rL.2.2.1 rL.2.2.2 rL.2.1).bind fun rM=>(kp k 0).bind fun x56=>(fq k x56 rM.2.2.2 0).bind fun TW=>match TW with
     | .inl x58=>cond (decide (jn.1=0)) (cond (decide ((Jo.length : Int)=0)) (cond (decide (rL.1=0)) (cond (decide ((rM.1.2.1.length : Int)=3)) (cond (zB 0 rM.1.2.1.length) (cond (decide ((rM.1.2.1.getD 0 aoa).1=5)) ((tx k).bind fun Dy=>cond (!Dy) (some (decide (x58.1=1)))<|some false)<|some false) none)<|some false)<|some false)<|some false)<|some false
     | .inr x60=>cond (decide (jn.1=0)) (cond (decide ((Jo.length : Int)=0)) (cond (decide (rL.1=0)) (cond (decide ((rM.1.2.1.length : Int)=3)) (cond (zB 0 rM.1.2.1.length) (cond (decide ((rM.1.2.1.getD 0 aoa).1=5)) ((tx k).bind fun tF=>cond (!tF) (some (decide (x60.1=1)))<|some false)<|some false) none)<|some false)<|some false)<|some false)<|some false
    |.inr AO=>(NU k).bind fun mK=>(kp k 0).bind fun x64=>(fq k x64 AO.2 0).bind fun x65=>match x65 with
     | .inl wh=>cond (decide (jn.1=0)) (cond (decide ((Jo.length : Int)=0)) (cond (decide (AO.1=0)) (cond (decide ((mK.2.1.length : Int)=3)) (cond (zB 0 mK.2.1.length) (cond (decide ((mK.2.1.getD 0 aoa).1=5)) ((tx k).bind fun x67=>cond (!x67) (some (decide (wh.1=1)))<|some false)<|some false) none)<|some false)<|some false)<|some false)<|some false
     | .inr x68=>cond (decide (jn.1=0)) (cond (decide ((Jo.length : Int)=0)) (cond (decide (AO.1=0)) (cond (decide ((mK.2.1.length : Int)=3)) (cond (zB 0 mK.2.1.length) (cond (decide ((mK.2.1.getD 0 aoa).1=5)) ((tx k).bind fun Jq=>cond (!Jq) (some (decide (x68.1=1)))<|some false)<|some false) none)<|some false)<|some false)<|some false)<|some false
   |.inr x70=>(qV8 k (-1) x70).bind fun Jr=>(kp k 0).bind fun wi=>(fq k wi jn.2 100).bind fun x73=>match x73 with
    |.inl Dz=>(pG k Dz.2.2.1 Dz.2.2.2 Dz.2.1).bind fun pL=>(kp k 0).bind fun x76=>(fq k x76 pL.2.2.2 0).bind fun x77=>match x77 with
     | .inl x78=>cond (decide (jn.1=0)) (cond (decide ((Jr.length : Int)=0)) (cond (decide (Dz.1=0)) (cond (decide ((pL.1.2.1.length : Int)=3)) (cond (zB 0 pL.1.2.1.length) (cond (decide ((pL.1.2.1.getD 0 aoa).1=5)) ((tx k).bind fun x79=>cond (!x79) (some (decide (x78.1=1)))<|some false)<|some false) none)<|some false)<|some false)<|some false)<|some false
     | .inr x80=>cond (decide (jn.1=0)) (cond (decide ((Jr.length : Int)=0)) (cond (decide (Dz.1=0)) (cond (decide ((pL.1.2.1.length : Int)=3)) (cond (zB 0 pL.1.2.1.length) (cond (decide ((pL.1.2.1.getD 0 aoa).1=5)) ((tx k).bind fun x81=>cond (!x81) (some (decide (x80.1=1)))<|some false)<|some false) none)<|some false)<|some false)<|some false)<|some false
    |.inr Oj=>(NU k).bind fun Js=>(kp k 0).bind fun x84=>(fq k x84 Oj.2 0).bind fun x85=>match x85 with
     | .inl x86=>cond (decide (jn.1=0)) (cond (decide ((Jr.length : Int)=0)) (cond (decide (Oj.1=0)) (cond (decide ((Js.2.1.length : Int)=3)) (cond (zB 0 Js.2.1.length) (cond (decide ((Js.2.1.getD 0 aoa).1=5)) ((tx k).bind fun x87=>cond (!x87) (some (decide (x86.1=1)))<|some false)<|some false) none)<|some false)<|some false)<|some false)<|some false
     | .inr x88=>cond (decide (jn.1=0)) (cond (decide ((Jr.length : Int)=0)) (cond (decide (Oj.1=0)) (cond (decide ((Js.2.1.length : Int)=3)) (cond (zB 0 Js.2.1.length) (cond (decide ((Js.2.1.getD 0 aoa).1=5)) ((tx k).bind fun x89=>cond (!x89) (some (decide (x88.1=1)))<|some false)<|some false) none)<|some false)<|some false)<|some false)<|some false
 |.inr x90=>(kp k 0).bind fun x91=>none
abbrev yAl:Type:=(Int×(List wj)×Int×(Int×Int×Int×Int)×(List vH)×DA×AC×AC×Dt×AC×AC×kz×wK×kz×wK)⊕(Int×(List wj)×Int×(Int×Int×Int×Int)×(List vH)×DA×AC×AC×Dt×AC×AC)→Option (Unit⊕Bool)
def Da (k:Nat)(rec:yAl):yAl:=fun z=>match z with
 | .inl z=>cond (decide (z.2.2.1<z.2.1.length)) (cond (zB z.2.2.1 z.2.1.length) (cond (decide ((z.2.1.getD z.2.2.1.toNat (0,0,[],0,0)).1=1)) ((C7 k z.2.2.2.2.2.2.2.2.2.2.2.1 z.2.2.2.2.2.2.2.2.2.2.2.2.1 (z.2.2.2.2.2.1.1,z.2.2.2.2.2.2.1,z.2.2.2.2.2.1.2.1,z.2.2.2.2.2.2.2.1,z.2.2.2.2.2.1.2.2) (z.2.1.getD z.2.2.1.toNat (0,0,[],0,0)).2.1 (z.2.1.getD z.2.2.1.toNat (0,0,[],0,0)).2.2.1).bind fun bT=>(NA k z.2.2.2.2.2.2.2.2.2.2.2.2.2.1 z.2.2.2.2.2.2.2.2.2.2.2.2.2.2 (z.2.2.2.2.2.2.2.2.2.1,z.2.2.2.2.2.2.2.2.2.2.1,z.2.2.2.2.2.2.2.2.1) (z.2.1.getD z.2.2.1.toNat (0,0,[],0,0)).2.1 (z.2.1.getD z.2.2.1.toNat (0,0,[],0,0)).2.2.1).bind fun cN=>(G3 k bT.1 cN.1).bind fun gK=>cond (!gK) (some (.inr false))<|(ko k bT.2.1 bT.2.2.1 bT.2.2.2).bind fun lS=>cond (!(eL lS.1 cN.2.1.2.2.2.2.2.2.2.2.2.2.2.2.2.2.2.2.2)) (some (.inr false))<|(pG k lS.2.1 lS.2.2.1 lS.2.2.2).bind fun iJ=>(rj k iJ.1 (jS cN.2.1)).bind fun bH=>cond (!bH) (some (.inr false))<|rec (.inl (z.1,z.2.1,(zA (z.2.2.1+1)),z.2.2.2.1,z.2.2.2.2.1,(iJ.2.2.2.1,iJ.2.2.2.2.2.1,iJ.2.2.2.2.2.2.2),iJ.2.2.2.2.1,iJ.2.2.2.2.2.2.1,cN.2.2.2.2.2,cN.2.2.2.1,cN.2.2.2.2.1,iJ.2.1,iJ.2.2.1,cN.2.1,cN.2.2.1)))<|cond (decide ((z.2.1.getD z.2.2.1.toNat (0,0,[],0,0)).1=2)) ((NH k (z.2.2.2.2.2.1.1,z.2.2.2.2.2.2.1,z.2.2.2.2.2.1.2.1,z.2.2.2.2.2.2.2.1,z.2.2.2.2.2.1.2.2) (z.2.1.getD z.2.2.1.toNat (0,0,[],0,0)).2.2.2).bind fun oE=>(NI k (z.2.2.2.2.2.2.2.2.2.1,z.2.2.2.2.2.2.2.2.2.2.1,z.2.2.2.2.2.2.2.2.1) (z.2.1.getD z.2.2.1.toNat (0,0,[],0,0)).2.2.2).bind fun cq=>(ko k z.2.2.2.2.2.2.2.2.2.2.2.1 z.2.2.2.2.2.2.2.2.2.2.2.2.1 oE).bind fun ky=>cond (!(eL ky.1 z.2.2.2.2.2.2.2.2.2.2.2.2.2.1.2.2.2.2.2.2.2.2.2.2.2.2.2.2.2.2.2)) (some (.inr false))<|(pG k ky.2.1 ky.2.2.1 ky.2.2.2).bind fun iK=>(rj k iK.1 (jS z.2.2.2.2.2.2.2.2.2.2.2.2.2.1)).bind fun iL=>cond (!iL) (some (.inr false))<|rec (.inl (z.1,z.2.1,(zA (z.2.2.1+1)),z.2.2.2.1,z.2.2.2.2.1,(iK.2.2.2.1,iK.2.2.2.2.2.1,iK.2.2.2.2.2.2.2),iK.2.2.2.2.1,iK.2.2.2.2.2.2.1,cq.2.2,cq.1,cq.2.1,iK.2.1,iK.2.2.1,z.2.2.2.2.2.2.2.2.2.2.2.2.2.1,z.2.2.2.2.2.2.2.2.2.2.2.2.2.2)))<|cond (decide ((z.2.1.getD z.2.2.1.toNat (0,0,[],0,0)).1=3)) ((C8 k (z.2.2.2.2.2.1.1,z.2.2.2.2.2.2.1,z.2.2.2.2.2.1.2.1,z.2.2.2.2.2.2.2.1,z.2.2.2.2.2.1.2.2)).bind fun we=>(C9 k (z.2.2.2.2.2.2.2.2.2.1,z.2.2.2.2.2.2.2.2.2.2.1,z.2.2.2.2.2.2.2.2.1)).bind fun AJ=>(fq k (z.2.2.2.1.1,z.2.2.2.2.1,z.2.2.2.1.2) we z.1).bind fun TS=>match TS with
     |.inl Du=>(lL k (z.2.2.2.1.1,z.2.2.2.2.1,z.2.2.2.1.2) AJ z.1).bind fun TT=>match TT with
      |.inl tD=>cond (!(decide (Du.1=tD.1))) (some (.inr false))<|(ko k Du.2.2.1 Du.2.2.2 Du.2.1).bind fun Jl=>cond (!(eL Jl.1 tD.2.2.1.2.2.2.2.2.2.2.2.2.2.2.2.2.2.2.2.2)) (some (.inr false))<|(pG k Jl.2.1 Jl.2.2.1 Jl.2.2.2).bind fun gL=>(rj k gL.1 (jS tD.2.2.1)).bind fun x29=>cond (!x29) (some (.inr false))<|rec (.inl (z.1,z.2.1,(zA (z.2.2.1+1)),z.2.2.2.1,z.2.2.2.2.1,(gL.2.2.2.1,gL.2.2.2.2.2.1,gL.2.2.2.2.2.2.2),gL.2.2.2.2.1,gL.2.2.2.2.2.2.1,tD.2.1.2.2,tD.2.1.1,tD.2.1.2.1,gL.2.1,gL.2.2.1,tD.2.2.1,tD.2.2.2))
      |.inr x30=>cond (!(decide (Du.1=x30.1))) (some (.inr false))<|some (.inr false)
     |.inr oJ=>(lL k (z.2.2.2.1.1,z.2.2.2.2.1,z.2.2.2.1.2) AJ z.1).bind fun wg=>match wg with
      |.inl x33=>cond (!(decide (oJ.1=x33.1))) (some (.inr false))<|some (.inr false)
      |.inr Jm=>cond (!(decide (oJ.1=Jm.1))) (some (.inr false))<|rec (.inr (z.1,z.2.1,(zA (z.2.2.1+1)),z.2.2.2.1,z.2.2.2.2.1,(oJ.2.1,oJ.2.2.2.1,oJ.2.2.2.2.2),oJ.2.2.1,oJ.2.2.2.2.1,Jm.2.2.2,Jm.2.1,Jm.2.2.1)))<|(ko k z.2.2.2.2.2.2.2.2.2.2.2.1 z.2.2.2.2.2.2.2.2.2.2.2.2.1 (z.2.2.2.2.2.1.1,z.2.2.2.2.2.2.1,z.2.2.2.2.2.1.2.1,z.2.2.2.2.2.2.2.1,z.2.2.2.2.2.1.2.2)).bind fun Dv=>cond (!(eL Dv.1 z.2.2.2.2.2.2.2.2.2.2.2.2.2.1.2.2.2.2.2.2.2.2.2.2.2.2.2.2.2.2.2)) (some (.inr false))<|(pG k Dv.2.1 Dv.2.2.1 Dv.2.2.2).bind fun tE=>(rj k tE.1 (jS z.2.2.2.2.2.2.2.2.2.2.2.2.2.1)).bind fun TU=>cond (!TU) (some (.inr false))<|rec (.inl (z.1,z.2.1,(zA (z.2.2.1+1)),z.2.2.2.1,z.2.2.2.2.1,(tE.2.2.2.1,tE.2.2.2.2.2.1,tE.2.2.2.2.2.2.2),tE.2.2.2.2.1,tE.2.2.2.2.2.2.1,z.2.2.2.2.2.2.2.2.1,z.2.2.2.2.2.2.2.2.2.1,z.2.2.2.2.2.2.2.2.2.2.1,tE.2.1,tE.2.2.1,z.2.2.2.2.2.2.2.2.2.2.2.2.2.1,z.2.2.2.2.2.2.2.2.2.2.2.2.2.2))) none)<|some (.inl ())
 | .inr z1=>cond (decide (z1.2.2.1<z1.2.1.length)) (cond (zB z1.2.2.1 z1.2.1.length) (cond (decide ((z1.2.1.getD z1.2.2.1.toNat (0,0,[],0,0)).1=1)) (cond (decide ((z1.2.1.getD z1.2.2.1.toNat (0,0,[],0,0)).1=2)) ((NH k (z1.2.2.2.2.2.1.1,z1.2.2.2.2.2.2.1,z1.2.2.2.2.2.1.2.1,z1.2.2.2.2.2.2.2.1,z1.2.2.2.2.2.1.2.2) (z1.2.1.getD z1.2.2.1.toNat (0,0,[],0,0)).2.2.2).bind fun Dw=>(NI k (z1.2.2.2.2.2.2.2.2.2.1,z1.2.2.2.2.2.2.2.2.2.2,z1.2.2.2.2.2.2.2.2.1) (z1.2.1.getD z1.2.2.1.toNat (0,0,[],0,0)).2.2.2).bind fun Dx=>rec (.inr (z1.1,z1.2.1,(zA (z1.2.2.1+1)),z1.2.2.2.1,z1.2.2.2.2.1,(Dw.1,Dw.2.2.1,Dw.2.2.2.2),Dw.2.1,Dw.2.2.2.1,Dx.2.2,Dx.1,Dx.2.1)))<|cond (decide ((z1.2.1.getD z1.2.2.1.toNat (0,0,[],0,0)).1=3)) ((C8 k (z1.2.2.2.2.2.1.1,z1.2.2.2.2.2.2.1,z1.2.2.2.2.2.1.2.1,z1.2.2.2.2.2.2.2.1,z1.2.2.2.2.2.1.2.2)).bind fun AL=>(C9 k (z1.2.2.2.2.2.2.2.2.2.1,z1.2.2.2.2.2.2.2.2.2.2,z1.2.2.2.2.2.2.2.2.1)).bind fun TV=>(fq k (z1.2.2.2.1.1,z1.2.2.2.2.1,z1.2.2.2.1.2) AL z1.1).bind fun x42=>match x42 with
      |.inl AM=>(lL k (z1.2.2.2.1.1,z1.2.2.2.2.1,z1.2.2.2.1.2) TV z1.1).bind fun x44=>match x44 with
       |.inl rK=>cond (!(decide (AM.1=rK.1))) (some (.inr false))<|(ko k AM.2.2.1 AM.2.2.2 AM.2.1).bind fun Jn=>cond (!(eL Jn.1 rK.2.2.1.2.2.2.2.2.2.2.2.2.2.2.2.2.2.2.2.2)) (some (.inr false))<|(pG k Jn.2.1 Jn.2.2.1 Jn.2.2.2).bind fun jn=>(rj k jn.1 (jS rK.2.2.1)).bind fun x48=>cond (!x48) (some (.inr false))<|rec (.inl (z1.1,z1.2.1,(zA (z1.2.2.1+1)),z1.2.2.2.1,z1.2.2.2.2.1,(jn.2.2.2.1,jn.2.2.2.2.2.1,jn.2.2.2.2.2.2.2),jn.2.2.2.2.1,jn.2.2.2.2.2.2.1,rK.2.1.2.2,rK.2.1.1,rK.2.1.2.1,jn.2.1,jn.2.2.1,rK.2.2.1,rK.2.2.2))
       |.inr x49=>cond (!(decide (AM.1=x49.1))) (some (.inr false))<|some (.inr false)
      |.inr AN=>(lL k (z1.2.2.2.1.1,z1.2.2.2.2.1,z1.2.2.2.1.2) TV z1.1).bind fun Jo=>match Jo with
       |.inl x52=>cond (!(decide (AN.1=x52.1))) (some (.inr false))<|some (.inr false)
       |.inr Jp=>cond (!(decide (AN.1=Jp.1))) (some (.inr false))<|rec (.inr (z1.1,z1.2.1,(zA (z1.2.2.1+1)),z1.2.2.2.1,z1.2.2.2.2.1,(AN.2.1,AN.2.2.2.1,AN.2.2.2.2.2),AN.2.2.1,AN.2.2.2.2.1,Jp.2.2.2,Jp.2.1,Jp.2.2.1)))<|rec (.inr (z1.1,z1.2.1,(zA (z1.2.2.1+1)),z1.2.2.2.1,z1.2.2.2.2.1,z1.2.2.2.2.2.1,z1.2.2.2.2.2.2.1,z1.2.2.2.2.2.2.2.1,z1.2.2.2.2.2.2.2.2.1,z1.2.2.2.2.2.2.2.2.2.1,z1.2.2.2.2.2.2.2.2.2.2)))<|cond (decide ((z1.2.1.getD z1.2.2.1.toNat (0,0,[],0,0)).1=2)) ((NH k (z1.2.2.2.2.2.1.1,z1.2.2.2.2.2.2.1,z1.2.2.2.2.2.1.2.1,z1.2.2.2.2.2.2.2.1,z1.2.2.2.2.2.1.2.2) (z1.2.1.getD z1.2.2.1.toNat (0,0,[],0,0)).2.2.2).bind fun rL=>(NI k (z1.2.2.2.2.2.2.2.2.2.1,z1.2.2.2.2.2.2.2.2.2.2,z1.2.2.2.2.2.2.2.2.1) (z1.2.1.getD z1.2.2.1.toNat (0,0,[],0,0)).2.2.2).bind fun rM=>rec (.inr (z1.1,z1.2.1,(zA (z1.2.2.1+1)),z1.2.2.2.1,z1.2.2.2.2.1,(rL.1,rL.2.2.1,rL.2.2.2.2),rL.2.1,rL.2.2.2.1,rM.2.2,rM.1,rM.2.1)))<|cond (decide ((z1.2.1.getD z1.2.2.1.toNat (0,0,[],0,0)).1=3)) ((C8 k (z1.2.2.2.2.2.1.1,z1.2.2.2.2.2.2.1,z1.2.2.2.2.2.1.2.1,z1.2.2.2.2.2.2.2.1,z1.2.2.2.2.2.1.2.2)).bind fun x56=>(C9 k (z1.2.2.2.2.2.2.2.2.2.1,z1.2.2.2.2.2.2.2.2.2.2,z1.2.2.2.2.2.2.2.2.1)).bind fun TW=>(fq k (z1.2.2.2.1.1,z1.2.2.2.2.1,z1.2.2.2.1.2) x56 z1.1).bind fun x58=>match x58 with
     |.inl Dy=>(lL k (z1.2.2.2.1.1,z1.2.2.2.2.1,z1.2.2.2.1.2) TW z1.1).bind fun x60=>match x60 with
      |.inl tF=>cond (!(decide (Dy.1=tF.1))) (some (.inr false))<|(ko k Dy.2.2.1 Dy.2.2.2 Dy.2.1).bind fun AO=>cond (!(eL AO.1 tF.2.2.1.2.2.2.2.2.2.2.2.2.2.2.2.2.2.2.2.2)) (some (.inr false))<|(pG k AO.2.1 AO.2.2.1 AO.2.2.2).bind fun mK=>(rj k mK.1 (jS tF.2.2.1)).bind fun x64=>cond (!x64) (some (.inr false))<|rec (.inl (z1.1,z1.2.1,(zA (z1.2.2.1+1)),z1.2.2.2.1,z1.2.2.2.2.1,(mK.2.2.2.1,mK.2.2.2.2.2.1,mK.2.2.2.2.2.2.2),mK.2.2.2.2.1,mK.2.2.2.2.2.2.1,tF.2.1.2.2,tF.2.1.1,tF.2.1.2.1,mK.2.1,mK.2.2.1,tF.2.2.1,tF.2.2.2))
      |.inr x65=>cond (!(decide (Dy.1=x65.1))) (some (.inr false))<|some (.inr false)
     |.inr wh=>(lL k (z1.2.2.2.1.1,z1.2.2.2.2.1,z1.2.2.2.1.2) TW z1.1).bind fun x67=>match x67 with
      |.inl x68=>cond (!(decide (wh.1=x68.1))) (some (.inr false))<|some (.inr false)
      |.inr Jq=>cond (!(decide (wh.1=Jq.1))) (some (.inr false))<|rec (.inr (z1.1,z1.2.1,(zA (z1.2.2.1+1)),z1.2.2.2.1,z1.2.2.2.2.1,(wh.2.1,wh.2.2.2.1,wh.2.2.2.2.2),wh.2.2.1,wh.2.2.2.2.1,Jq.2.2.2,Jq.2.1,Jq.2.2.1)))<|rec (.inr (z1.1,z1.2.1,(zA (z1.2.2.1+1)),z1.2.2.2.1,z1.2.2.2.2.1,z1.2.2.2.2.2.1,z1.2.2.2.2.2.2.1,z1.2.2.2.2.2.2.2.1,z1.2.2.2.2.2.2.2.2.1,z1.2.2.2.2.2.2.2.2.2.1,z1.2.2.2.2.2.2.2.2.2.2))) none)<|some (.inl ())
def rr (k:Nat):Nat→yAl:=qZ (fun _=>none) (Da k)
def Sr (k:Nat)(a0 a1 a2:Int)(a3:List wj):Option Bool:=
 (Sq k a3).bind fun x0=>cond x0 (some true)<|(kp k a0).bind fun x1=>(Ss k a1).bind fun x2=>match x2 with
 |.inl x3=>(Su k a1).bind fun x4=>match x4 with
  |.inl x5=>(fq k x1 x3 a2).bind fun x6=>match x6 with
   |.inl x7=>(lL k x1 x5 a2).bind fun x8=>match x8 with
    |.inl x9=>cond (!(decide (x7.1=x9.1))) (some false)<|(rr k k (.inl (a2,a3,0,(x1.1,x1.2.2),x1.2.1,(x7.2.1.1,x7.2.1.2.2.1,x7.2.1.2.2.2.2),x7.2.1.2.1,x7.2.1.2.2.2.1,x9.2.1.2.2,x9.2.1.1,x9.2.1.2.1,x7.2.2.1,x7.2.2.2,x9.2.2.1,x9.2.2.2))).bind fun z2=>match z2 with
     |.inl z3=>(NK k).bind fun x70=>some x70
     |.inr z4=>some z4
    |.inr Jr=>cond (!(decide (x7.1=Jr.1))) (some false)<|some false
   |.inr wi=>(lL k x1 x5 a2).bind fun x73=>match x73 with
    |.inl Dz=>cond (!(decide (wi.1=Dz.1))) (some false)<|some false
    |.inr pL=>cond (!(decide (wi.1=pL.1))) (some false)<|(rr k k (.inr (a2,a3,0,(x1.1,x1.2.2),x1.2.1,(wi.2.1,wi.2.2.2.1,wi.2.2.2.2.2),wi.2.2.1,wi.2.2.2.2.1,pL.2.2.2,pL.2.1,pL.2.2.1))).bind fun z5=>match z5 with
     |.inl z6=>(NK k).bind fun x76=>some x76
     |.inr z7=>some z7
  |.inr x77=>some false
 |.inr x78=>(Su k a1).bind fun x79=>match x79 with
  |.inl x80=>none
  |.inr x81=>(NK k).bind fun Oj=>some Oj
end Go.Ab.Gi
