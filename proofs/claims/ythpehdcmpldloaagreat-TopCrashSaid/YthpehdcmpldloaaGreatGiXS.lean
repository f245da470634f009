/- part 5 -/
import Derived.Test.YthpehdcmpldloaaGreatGiXSa
set_option linter.unusedVariables false
set_option maxRecDepth 100000
namespace Go.Ab.Gi
abbrev qZ6:Type:=List zC→Int→List zJ→EQ→AC→EQ→AC→Option AC
def sX (k:Nat)(rec:qZ6)(s1:List zC)(s6:Int)(af:List zJ)(ai:EQ)(aj:AC)(ah:EQ)(r1:AC):Option AC:=
 bif decide (s6 < (af.length : Int)) then ((Pj k af ai aj ah s1 s6).bind fun x0=>bif x0 then (bif zL (r1.length+1) 8 then(rec s1 (zA (s6+1)) af ai aj ah (r1++[s6])) else none) else rec s1 (zA (s6+1)) af ai aj ah r1) else some r1
def uF (k:Nat):Nat→qZ6
 |0,_,_,_,_,_,_,_=>none
 |n+1,s1,s6,af,ai,aj,ah,r1=>sX k (uF k n) s1 s6 af ai aj ah r1
def uE (k:Nat)(av:List zJ)(aA:EQ)(az:AC)(ay:EQ)(a1:List zC):Option AC:=
 (uF k k a1 0 av aA az ay []).bind fun z=>some z
def Kr (k:Nat)(av:List zJ)(aA:EQ)(az:AC)(ay:EQ)(a1:List zC):Option Bool:=
 (Kk k av aA az ay a1).bind fun x0=>bif x0 then ((uE k av aA az ay a1).bind fun x1=>some (decide ((x1.length:Int)=0))) else some false
def vg (k:Nat)(av:List zJ)(aA:EQ)(az:AC)(ay:EQ)(a1:List zC):Option ((List zJ)×EQ×AC×EQ×Bool):=
 (BC k av aA az ay a1).bind fun x0=>bif decide (x0.2.2.2.2 = 0) then ((Kr k av aA az ay a1).bind fun x1=>some (wB x0 x1)) else some (wB x0 false)
abbrev qTc:Type:=zC⊕(Bool×Int×Int×Int×Int×Int×Int×Int)
abbrev qYh:Type:=Int→List zJ→EQ→AC→EQ→Int→Int→Int→Int→Int→Int→Int→List zC→Option qTc
def G8 (k:Nat)(rec:qYh)(s9:Int)(af:List zJ)(ai:EQ)(aj:AC)(ah:EQ)(aw aC aD aF aH aI aJ:Int)(r2:List zC):Option qTc:=
 bif decide (s9 < (r2.length : Int)) then (bif ((decide (0 ≤ s9)) && (decide (s9 ≤ (zA (s9 + 1))))) && (decide ((zA (s9 + 1)) ≤ (r2.length : Int))) then ((vg k af ai aj ah (qR r2 (0+s9.toNat) ((zA (s9+1)).toNat-s9.toNat))).bind fun x1=>bif x1.2.2.2.2 then (bif zB s9 r2.length then some (.inr (true,(r2.getD s9.toNat (0,0,0,0,0,0,0)).1,(r2.getD s9.toNat (0,0,0,0,0,0,0)).2.1,(r2.getD s9.toNat (0,0,0,0,0,0,0)).2.2.1,(r2.getD s9.toNat (0,0,0,0,0,0,0)).2.2.2.1,(r2.getD s9.toNat (0,0,0,0,0,0,0)).2.2.2.2.1,(r2.getD s9.toNat (0,0,0,0,0,0,0)).2.2.2.2.2.1,(r2.getD s9.toNat (0,0,0,0,0,0,0)).2.2.2.2.2.2)) else none) else rec (zA (s9+1)) af ai aj ah aw aC aD aF aH aI aJ r2) else none) else some (.inl (aw,aC,aD,aF,aH,aI,aJ))
def LF (k:Nat):Nat→qYh
 |0,_,_,_,_,_,_,_,_,_,_,_,_,_=>none
 |n+1,s9,af,ai,aj,ah,aw,aC,aD,aF,aH,aI,aJ,r2=>G8 k (LF k n) s9 af ai aj ah aw aC aD aF aH aI aJ r2
def QC (k:Nat)(av:List zJ)(aA:EQ)(az:AC)(ay:EQ)(a1:List zC)(a2:Int):Option (Int×Int×Int×Int×Int×Int×Int×Bool):=
 (KG k a1 a2).bind fun x0=>(LF k k 0 av aA az ay 0 0 0 0 0 0 0 x0).bind fun z=>match z with
 |.inl z1=>some (0,0,0,0,0,0,0,false)
 |.inr z2=>some (yJs z2 z2.1)
abbrev qQw:Type:=List zC→Int→List zJ→EQ→AC→EQ→List zC→Option qOg
def G9 (k:Nat)(rec:qQw)(s1:List zC)(s2:Int)(af:List zJ)(ai:EQ)(aj:AC)(ah:EQ)(r2:List zC):Option qOg:=
 (QC k af ai aj ah s1 s2).bind fun x0=>bif !x0.2.2.2.2.2.2.2 then some (s1,af,ai,aj,ah,r2)
 else(vg k af ai aj ah [(vY x0)]).bind fun x1=>(oF k s1 x0.1).bind fun x2=>bif zL (r2.length + 1) 56 then (let y0:List zC:=(r2++[(vY x0)])
  rec x2.1 s2 x1.1 x1.2.1 x1.2.2.1 x1.2.2.2.1 y0) else none
def LG (k:Nat):Nat→qQw
 |0,_,_,_,_,_,_,_=>none
 |n+1,s1,s2,af,ai,aj,ah,r2=>G9 k (LG k n) s1 s2 af ai aj ah r2
def QD (k:Nat)(av:List zJ)(aA:EQ)(az:AC)(ay:EQ)(a1:List zC)(a2:Int):Option tv:=
 (LG k k a1 a2 av aA az ay []).bind fun z=>some (iJ z (z.1,z.2.2.2.2.2))
abbrev qWf:Type:=(Int×(List zJ)×EQ×AC×EQ×Int×Int×Int×Int×Int×Int×Int×Int×Int×Int×Int×Int×Int×Int×(List zC))⊕(Bool×Int×Int×Int×Int×Int×Int×Int×Int×Int×Int×Int×Int×Int×Int)
abbrev qLd:Type:=Int→Int→List zJ→EQ→AC→EQ→Int→Int→Int→Int→Int→Int→Int→Int→Int→Int→Int→Int→Int→Int→List zC→Option qWf
def Ha (k:Nat)(rec:qLd)(ax aR:Int)(af:List zJ)(ai:EQ)(aj:AC)(ah:EQ)(aw aC aD aF aH aI aJ ba ca cc cX fE fF fG:Int)(r3:List zC):Option qWf:=
 bif decide (aR < (r3.length : Int)) then (bif zB ax r3.length then (bif zB aR r3.length then (bif !(decide ((r3.getD aR.toNat (0,0,0,0,0,0,0)).2.1=(r3.getD ax.toNat (0,0,0,0,0,0,0)).2.2.1)) then(rec ax (zA (aR+1)) af ai aj ah aw aC aD aF aH aI aJ ba ca cc cX fE fF fG r3) else bif !(decide ((r3.getD aR.toNat (0,0,0,0,0,0,0)).2.2.1=(r3.getD ax.toNat (0,0,0,0,0,0,0)).2.1)) then(rec ax (zA (aR+1)) af ai aj ah aw aC aD aF aH aI aJ ba ca cc cX fE fF fG r3) else bif decide ((r3.getD ax.toNat (0,0,0,0,0,0,0)).2.1≥(r3.getD aR.toNat (0,0,0,0,0,0,0)).2.1) then(rec ax (zA (aR+1)) af ai aj ah aw aC aD aF aH aI aJ ba ca cc cX fE fF fG r3)
    else(vg k af ai aj ah [(r3.getD ax.toNat (0,0,0,0,0,0,0)),(r3.getD aR.toNat (0,0,0,0,0,0,0))]).bind fun x1=>bif x1.2.2.2.2 then some (.inr (true,(gl (r3.getD ax.toNat (0,0,0,0,0,0,0)) ((r3.getD aR.toNat (0,0,0,0,0,0,0)).1,(r3.getD aR.toNat (0,0,0,0,0,0,0)).2.1,(r3.getD aR.toNat (0,0,0,0,0,0,0)).2.2.1,(r3.getD aR.toNat (0,0,0,0,0,0,0)).2.2.2.1,(r3.getD aR.toNat (0,0,0,0,0,0,0)).2.2.2.2.1,(r3.getD aR.toNat (0,0,0,0,0,0,0)).2.2.2.2.2.1,(r3.getD aR.toNat (0,0,0,0,0,0,0)).2.2.2.2.2.2)))) else rec ax (zA (aR+1)) af ai aj ah aw aC aD aF aH aI aJ ba ca cc cX fE fF fG r3) else none) else none) else some (.inl (ax,af,ai,aj,ah,aw,aC,aD,aF,aH,aI,aJ,ba,ca,cc,cX,fE,fF,fG,r3))
def LI (k:Nat):Nat→qLd
 |0,_,_,_,_,_,_,_,_,_,_,_,_,_,_,_,_,_,_,_,_,_=>none
 |n+1,ax,aR,af,ai,aj,ah,aw,aC,aD,aF,aH,aI,aJ,ba,ca,cc,cX,fE,fF,fG,r3=>Ha k (LI k n) ax aR af ai aj ah aw aC aD aF aH aI aJ ba ca cc cX fE fF fG r3
abbrev qRe:Type:=(Int×Int×Int×Int×Int×Int×Int×Int×Int×Int×Int×Int×Int×Int)⊕(Bool×Int×Int×Int×Int×Int×Int×Int×Int×Int×Int×Int×Int×Int×Int)
abbrev qKo:Type:=Int→List zJ→EQ→AC→EQ→Int→Int→Int→Int→Int→Int→Int→Int→Int→Int→Int→Int→Int→Int→List zC→Option qRe
def Hb (k:Nat)(rec:qKo)(ax:Int)(af:List zJ)(ai:EQ)(aj:AC)(ah:EQ)(aw aC aD aF aH aI aJ ba ca cc cX fE fF fG:Int)(r3:List zC):Option qRe:=
 bif decide (ax < (r3.length : Int)) then ((LI k k ax 0 af ai aj ah aw aC aD aF aH aI aJ ba ca cc cX fE fF fG r3).bind fun z=>match z with
  |.inl z1=>rec (zA (z1.1+1)) z1.2.1 z1.2.2.1 z1.2.2.2.1 z1.2.2.2.2.1 z1.2.2.2.2.2.1 z1.2.2.2.2.2.2.1 z1.2.2.2.2.2.2.2.1 z1.2.2.2.2.2.2.2.2.1 z1.2.2.2.2.2.2.2.2.2.1 z1.2.2.2.2.2.2.2.2.2.2.1 z1.2.2.2.2.2.2.2.2.2.2.2.1 z1.2.2.2.2.2.2.2.2.2.2.2.2.1 z1.2.2.2.2.2.2.2.2.2.2.2.2.2.1 z1.2.2.2.2.2.2.2.2.2.2.2.2.2.2.1 z1.2.2.2.2.2.2.2.2.2.2.2.2.2.2.2.1 z1.2.2.2.2.2.2.2.2.2.2.2.2.2.2.2.2.1 z1.2.2.2.2.2.2.2.2.2.2.2.2.2.2.2.2.2.1 z1.2.2.2.2.2.2.2.2.2.2.2.2.2.2.2.2.2.2.1 z1.2.2.2.2.2.2.2.2.2.2.2.2.2.2.2.2.2.2.2
  |.inr z2=>some (.inr (z2.1,z2.2.1,z2.2.2.1,z2.2.2.2.1,z2.2.2.2.2.1,z2.2.2.2.2.2.1,z2.2.2.2.2.2.2.1,z2.2.2.2.2.2.2.2.1,z2.2.2.2.2.2.2.2.2.1,z2.2.2.2.2.2.2.2.2.2.1,z2.2.2.2.2.2.2.2.2.2.2.1,z2.2.2.2.2.2.2.2.2.2.2.2.1,z2.2.2.2.2.2.2.2.2.2.2.2.2.1,z2.2.2.2.2.2.2.2.2.2.2.2.2.2.1,z2.2.2.2.2.2.2.2.2.2.2.2.2.2.2))) else some (.inl (aw,aC,aD,aF,aH,aI,aJ,ba,ca,cc,cX,fE,fF,fG))
def LJ (k:Nat):Nat→qKo
 |0,_,_,_,_,_,_,_,_,_,_,_,_,_,_,_,_,_,_,_,_=>none
 |n+1,ax,af,ai,aj,ah,aw,aC,aD,aF,aH,aI,aJ,ba,ca,cc,cX,fE,fF,fG,r3=>Hb k (LJ k n) ax af ai aj ah aw aC aD aF aH aI aJ ba ca cc cX fE fF fG r3
def QE (k:Nat)(av:List zJ)(aA:EQ)(az:AC)(ay:EQ)(a1:List zC)(a2:Int):Option (Int×Int×Int×Int×Int×Int×Int×Int×Int×Int×Int×Int×Int×Int×Bool):=
 (KG k a1 a2).bind fun x0=>(LJ k k 0 av aA az ay 0 0 0 0 0 0 0 0 0 0 0 0 0 0 x0).bind fun z3=>match z3 with
 |.inl z4=>some (0,0,0,0,0,0,0,0,0,0,0,0,0,0,false)
 |.inr z5=>some (adt z5 z5.1)
def Hc (k:Nat)(rec:qQw)(s1:List zC)(s2:Int)(af:List zJ)(ai:EQ)(aj:AC)(ah:EQ)(r2:List zC):Option qOg:=
 (QE k af ai aj ah s1 s2).bind fun x0=>bif !x0.2.2.2.2.2.2.2.2.2.2.2.2.2.2 then some (s1,af,ai,aj,ah,r2)
 else(vg k af ai aj ah [(vY x0),(qY9 x0)]).bind fun x1=>(oF k s1 x0.1).bind fun x2=>(oF k x2.1 x0.2.2.2.2.2.2.2.1).bind fun x3=>bif zL (r2.length + 2) 56 then (let y0:List zC:=(r2++[(vY x0),(qY9 x0)])
  rec x3.1 s2 x1.1 x1.2.1 x1.2.2.1 x1.2.2.2.1 y0) else none
def LK (k:Nat):Nat→qQw
 |0,_,_,_,_,_,_,_=>none
 |n+1,s1,s2,af,ai,aj,ah,r2=>Hc k (LK k n) s1 s2 af ai aj ah r2
def QF (k:Nat)(av:List zJ)(aA:EQ)(az:AC)(ay:EQ)(a1:List zC)(a2:Int):Option tv:=
 (LK k k a1 a2 av aA az ay []).bind fun z=>some (iJ z (z.1,z.2.2.2.2.2))
def Hl (k:Nat)(rec:qQw)(s1:List zC)(s2:Int)(af:List zJ)(ai:EQ)(aj:AC)(ah:EQ)(r2:List zC):Option qOg:=
 (QD k af ai aj ah s1 s2).bind fun x0=>(QF k x0.1 x0.2.1 x0.2.2.1 x0.2.2.2.1 x0.2.2.2.2.1 s2).bind fun x1=>bif zL (r2.length + x0.2.2.2.2.2.length) 56 then (bif zL ((r2 ++ x0.2.2.2.2.2).length + x1.2.2.2.2.2.length) 56 then (let y0:List zC:=((r2++x0.2.2.2.2.2)++x1.2.2.2.2.2)
   bif decide ((x1.2.2.2.2.2.length:Int)=0) then some (x1.2.2.2.2.1,(wB x1 y0)) else rec x1.2.2.2.2.1 s2 x1.1 x1.2.1 x1.2.2.1 x1.2.2.2.1 y0) else none) else none
def LN (k:Nat):Nat→qQw
 |0,_,_,_,_,_,_,_=>none
 |n+1,s1,s2,af,ai,aj,ah,r2=>Hl k (LN k n) s1 s2 af ai aj ah r2
def LO (k:Nat)(av:List zJ)(aA:EQ)(az:AC)(ay:EQ)(a1:List zC)(a2:Int):Option tv:=
 (LN k k a1 a2 av aA az ay []).bind fun z=>some (iJ z (z.1,z.2.2.2.2.2))
abbrev qXy:Type:=List zC→AC→Int→List zC→Option yCb
def Hf (k:Nat)(rec:qXy)(s0:List zC)(s1:AC)(s6:Int)(r0:List zC):Option yCb:=
 bif decide (s6 < (s0.length : Int)) then (bif (decide (0 ≤ s6)) && (decide (s6 ≤ (s0.length : Int))) then (bif zB s6 s0.length then ((uH k (List.take s6.toNat s0) (s0.getD s6.toNat (0,0,0,0,0,0,0)).2.1).bind fun x0=>bif zB s6 s0.length then (bif decide ((s0.getD s6.toNat (0, 0, 0, 0, 0, 0, 0)).2.1 ≥ 0) then (bif zB s6 s0.length then (bif decide ((s0.getD s6.toNat (0, 0, 0, 0, 0, 0, 0)).2.1 < (s1.length : Int)) then (bif zB s6 s0.length then (bif zB (s0.getD s6.toNat (0, 0, 0, 0, 0, 0, 0)).2.1 s1.length then (bif decide ((x0.length : Int) < (s1.getD (s0.getD s6.toNat (0, 0, 0, 0, 0, 0, 0)).2.1.toNat 0)) then (bif zB s6 s0.length then (bif zL (r0.length + 1) 56 then (let y0:List zC:=(r0++[(s0.getD s6.toNat (0,0,0,0,0,0,0))])
             rec s0 s1 (zA (s6+1)) y0) else none) else none) else rec s0 s1 (zA (s6+1)) r0) else none) else none) else rec s0 s1 (zA (s6+1)) r0) else none) else rec s0 s1 (zA (s6+1)) r0) else none) else none) else none) else some r0
def He (k:Nat):Nat→qXy
 |0,_,_,_,_=>none
 |n+1,s0,s1,s6,r0=>Hf k (He k n) s0 s1 s6 r0
def Hd (k:Nat)(a0:List zC)(a1:AC):Option (List zC):=
 (He k k a0 a1 0 []).bind fun z=>some z
abbrev qSg:Type:=(List zJ)×EQ×AC×EQ×(List zC)×AC
abbrev qN1:Type:=Int→List zJ→EQ→AC→EQ→List zC→AC→Option qSg
def Hg (k:Nat)(rec:qN1)(ax:Int)(af:List zJ)(ai:EQ)(aj:AC)(ah:EQ)(r1:List zC)(r2:AC):Option qSg:=
 bif decide (ax < (af.length : Int)) then ((uH k r1 ax).bind fun x1=>bif zL (r2.length+1) 8 then(rec (zA (ax+1)) af ai aj ah r1 (r2++[(x1.length:Int)])) else none) else some (af,ai,aj,ah,r1,r2)
def Ch (k:Nat):Nat→qN1
 |0,_,_,_,_,_,_,_=>none
 |n+1,ax,af,ai,aj,ah,r1,r2=>Hg k (Ch k n) ax af ai aj ah r1 r2
abbrev qLw:Type:=Int×(List zJ)×EQ×AC×EQ×(List zC)×AC
abbrev yAe:Type:=Int→Int→List zJ→EQ→AC→EQ→List zC→AC→AC→Option qLw
def Hi (k:Nat)(rec:yAe)(aR bC:Int)(af:List zJ)(ai:EQ)(aj:AC)(ah:EQ)(r1:List zC)(r2 r3:AC):Option qLw:=
 bif decide (bC < (r3.length : Int)) then (bif zB bC r3.length then (bif zB (r3.getD bC.toNat 0) r2.length then (bif zB (r3.getD bC.toNat 0) r2.length then (let y0:AC:=(r2.set (r3.getD bC.toNat 0).toNat (zA ((r2.getD (r3.getD bC.toNat 0).toNat 0)-1)))
     rec aR (zA (bC+1)) af ai aj ah r1 y0 r3) else none) else none) else none) else some (aR,af,ai,aj,ah,r1,r2)
def Hh (k:Nat):Nat→yAe
 |0,_,_,_,_,_,_,_,_,_=>none
 |n+1,aR,bC,af,ai,aj,ah,r1,r2,r3=>Hi k (Hh k n) aR bC af ai aj ah r1 r2 r3
abbrev qMr:Type:=Int→List zJ→EQ→AC→EQ→List zC→AC→Option (Int×AC)
def Hj (k:Nat)(rec:qMr)(aR:Int)(af:List zJ)(ai:EQ)(aj:AC)(ah:EQ)(r1:List zC)(r2:AC):Option (Int×AC):=
 (Hd k r1 r2).bind fun x2=>(uE k af ai aj ah x2).bind fun x3=>bif decide ((x3.length:Int)=0) then some (aR,r2)
 else(Hh k k aR 0 af ai aj ah r1 r2 x3).bind fun z1=>rec (zA (z1.1+1)) z1.2.1 z1.2.2.1 z1.2.2.2.1 z1.2.2.2.2.1 z1.2.2.2.2.2.1 z1.2.2.2.2.2.2
def LL (k:Nat):Nat→qMr
 |0,_,_,_,_,_,_,_=>none
 |n+1,aR,af,ai,aj,ah,r1,r2=>Hj k (LL k n) aR af ai aj ah r1 r2
def QG (k:Nat)(av:List zJ)(aA:EQ)(az:AC)(ay:EQ)(a1:List zC)(a2:Int):Option (AC×Int):=
 (FC k a1 a2).bind fun x0=>(Ch k k 0 av aA az ay x0 []).bind fun z=>(LL k k 1 z.1 z.2.1 z.2.2.1 z.2.2.2.1 z.2.2.2.2.1 z.2.2.2.2.2).bind fun z2=>some (z2.2,z2.1)
abbrev qXt:Type:=(List zC)×(List zC)×(List zJ)×EQ×AC×EQ
abbrev qWr:Type:=List zC→Int→List zC→List zJ→EQ→AC→EQ→Option qXt
def Hk (k:Nat)(rec:qWr)(s1:List zC)(bH:Int)(r1:List zC)(ba:List zJ)(ca:EQ)(cc:AC)(cX:EQ):Option qXt:=
 bif decide (bH < (r1.length : Int)) then (bif zB bH r1.length then ((oF k s1 (r1.getD bH.toNat (0,0,0,0,0,0,0)).1).bind fun x4=>rec x4.1 (zA (bH+1)) r1 ba ca cc cX) else none) else some (s1,r1,ba,ca,cc,cX)
def Ck (k:Nat):Nat→qWr
 |0,_,_,_,_,_,_,_=>none
 |n+1,s1,bH,r1,ba,ca,cc,cX=>Hk k (Ck k n) s1 bH r1 ba ca cc cX
def LM (k:Nat)(av:List zJ)(aA:EQ)(az:AC)(ay:EQ)(a1:List zC)(a2:Int):Option tv:=
 (QG k av aA az ay a1 a2).bind fun x0=>(FC k a1 a2).bind fun x1=>(Hd k x1 x0.1).bind fun x2=>(BC k av aA az ay x2).bind fun x3=>bif !(decide (x3.2.2.2.2=0)) then some (av,aA,az,ay,a1,[])
 else(Ck k k a1 0 x2 x3.1 x3.2.1 x3.2.2.1 x3.2.2.2.1).bind fun z=>some (Cb z (z.1,z.2.1))
def QH (k:Nat)(av:List zJ)(aA:EQ)(az:AC)(ay:EQ)(a1:List zC)(a2:Int)(a3:Bool):Option tv:=
 (LO k av aA az ay a1 a2).bind fun x0=>bif !a3 then some (x0.1,x0.2.1,x0.2.2.1,x0.2.2.2.1,x0.2.2.2.2.1,x0.2.2.2.2.2)
 else(LM k x0.1 x0.2.1 x0.2.2.1 x0.2.2.2.1 x0.2.2.2.2.1 a2).bind fun x1=>bif decide ((x1.2.2.2.2.2.length:Int)=0) then some (x0.1,x0.2.1,x0.2.2.1,x0.2.2.2.1,x0.2.2.2.2.1,x0.2.2.2.2.2)
 else(LO k x1.1 x1.2.1 x1.2.2.1 x1.2.2.2.1 x1.2.2.2.2.1 a2).bind fun x2=>bif zL (x0.2.2.2.2.2.length + x1.2.2.2.2.2.length) 56 then (bif zL ((x0.2.2.2.2.2 ++ x1.2.2.2.2.2).length + x2.2.2.2.2.2.length) 56 then (let y0:List zC:=((x0.2.2.2.2.2++x1.2.2.2.2.2)++x2.2.2.2.2.2)
   some (pO x2 y0)) else none) else none
abbrev yAq:Type:=List zC→Int→List qE→Option qS8
def Gw (k:Nat)(rec:yAq)(s0:List zC)(s4:Int)(r0:List qE):Option qS8:=
 bif decide (s4 < (s0.length : Int)) then (bif zB s4 s0.length then ((fT k 18 [(s0.getD s4.toNat (0,0,0,0,0,0,0)).1,(s0.getD s4.toNat (0,0,0,0,0,0,0)).2.1,(s0.getD s4.toNat (0,0,0,0,0,0,0)).2.2.1,(s0.getD s4.toNat (0,0,0,0,0,0,0)).2.2.2.1]).bind fun x0=>bif zL (r0.length + 2) 64 then (let y0:List qE:=(r0++[((s0.getD s4.toNat (0,0,0,0,0,0,0)).2.1,x0),((s0.getD s4.toNat (0,0,0,0,0,0,0)).2.2.1,x0)])
    rec s0 (zA (s4+1)) y0) else none) else none) else some r0
def Lc (k:Nat):Nat→yAq
 |0,_,_,_=>none
 |n+1,s0,s4,r0=>Gw k (Lc k n) s0 s4 r0
def P5 (k:Nat)(a0:List zC):Option (List qE):=
 (Lc k k a0 0 []).bind fun z=>some z
def oG (k:Nat)(mJ:Int)(rD:List zJ)(rE:EQ)(rF:AC)(rG:EQ)(rH:AC)(rI:EQ)(mK:List zC)(rJ:AC)(rK:Int)(rL a1:Bool):Option Sx:=
 (QH k rD rE rF rG mK mJ a1).bind fun x0=>(P5 k x0.2.2.2.2.2).bind fun x1=>some (mJ,(wB x0 (rH,rI,x0.2.2.2.2.1,rJ,rK,rL,x1)))
abbrev qVn:Type:=yG×yK×(List qE)
abbrev qZh:Type:=List zC→Int→yG→yK→List qE→Option qVn
def Hm (k:Nat)(rec:qZh)(s7:List zC)(s8:Int)(b0:yG)(b1:yK)(r2:List qE):Option qVn:=
 bif decide (s8 < (s7.length : Int)) then (bif zB s8 s7.length then (bif zB s8 s7.length then ((fT k 22 [(s7.getD s8.toNat (0,0,0,0,0,0,0)).1]).bind fun x1=>bif zL (r2.length + 1) 64 then (let y0:List qE:=(r2++[((s7.getD s8.toNat (0,0,0,0,0,0,0)).2.1,x1)])
     rec s7 (zA (s8+1)) b0 b1 y0) else none) else none) else none) else some (b0,b1,r2)
def yi (k:Nat):Nat→qZh:=yD (fun _ _ _ _ _=>none) (Hm k)
abbrev qSk:Type:=Int→yG→yK→List qE→Option qVn
def Hn (k:Nat)(rec:qSk)(s9:Int)(b0:yG)(b1:yK)(r2:List qE):Option qVn:=
 bif decide (s9 < (b0.2.1.length : Int)) then (bif zB s9 b0.2.1.length then ((fT k 23 [(b0.2.1.getD s9.toNat (0,0,0)).1]).bind fun x2=>bif zL (r2.length+1) 64 then(rec (zA (s9+1)) b0 b1 (r2++[(s9,x2)])) else none) else none) else some (b0,b1,r2)
def yj (k:Nat):Nat→qSk:=yD (fun _ _ _ _=>none) (Hn k)
abbrev qUg:Type:=vF×yG×yK×(List qE)
abbrev qL9:Type:=List zC→Int→vF→yG→yK→List qE→Option qUg
def Ho (k:Nat)(rec:qL9)(s7:List zC)(ax:Int)(b0:vF)(b1:yG)(b2:yK)(r3:List qE):Option qUg:=
 bif decide (ax < (s7.length : Int)) then (bif zB ax s7.length then ((Zn k (s7.getD ax.toNat (0,0,0,0,0,0,0)).1 (s7.getD ax.toNat (0,0,0,0,0,0,0)).2.1 (s7.getD ax.toNat (0,0,0,0,0,0,0)).2.2.1 (s7.getD ax.toNat (0,0,0,0,0,0,0)).2.2.2.1 (s7.getD ax.toNat (0,0,0,0,0,0,0)).2.2.2.2.1 (s7.getD ax.toNat (0,0,0,0,0,0,0)).2.2.2.2.2.1 (s7.getD ax.toNat (0,0,0,0,0,0,0)).2.2.2.2.2.2 b1.1).bind fun x3=>bif x3 then (bif zB ax s7.length then (bif zB ax s7.length then ((fT k 21 [(s7.getD ax.toNat (0,0,0,0,0,0,0)).1]).bind fun x4=>bif zL (r3.length + 1) 64 then (let y1:List qE:=(r3++[((s7.getD ax.toNat (0,0,0,0,0,0,0)).2.1,x4)])
       bif zB ax s7.length then ((oF k b1.2.2.2.2.2.2.2.1 (s7.getD ax.toNat (0,0,0,0,0,0,0)).1).bind fun x5=>rec s7 (zA (ax+1)) b0 (kl b1 (x5.1,b1.2.2.2.2.2.2.2.2)) b2 y1) else none) else none) else none) else none) else rec s7 (zA (ax+1)) b0 b1 b2 r3) else none) else some (b0,b1,b2,r3)
def vh (k:Nat):Nat→qL9:=yD (fun _ _ _ _ _ _=>none) (Ho k)
def Hq (k:Nat)(a0:vF)(a1:yG):Option (yG×(List qE)):=
 bif a1.2.2.2.2.2.2.2.2.2.2 then some (a1,[])
 else(QJ k a0 (zA (a1.1+1))).bind fun x0=>bif x0 then ((yi k k a1.2.2.2.2.2.2.2.1 0 ((zA (a1.1+1)),a1.2) (0,0,false) []).bind fun z=>(yj k k 0 z.1 z.2.1 z.2.2).bind fun z1=>some ((kl z1.1 ([],z1.1.2.2.2.2.2.2.2.2.1,z1.1.2.2.2.2.2.2.2.2.2.1,true)),z1.2.2))
 else(vh k k a1.2.2.2.2.2.2.2.1 0 a0 ((zA (a1.1+1)),a1.2) (0,0,false) []).bind fun z2=>(LP k z2.1 z2.2.1.1).bind fun x6=>(oG k z2.2.1.1 z2.2.1.2.1 z2.2.1.2.2.1 z2.2.1.2.2.2.1 z2.2.1.2.2.2.2.1 z2.2.1.2.2.2.2.2.1 z2.2.1.2.2.2.2.2.2.1 z2.2.1.2.2.2.2.2.2.2.1 z2.2.1.2.2.2.2.2.2.2.2.1 z2.2.1.2.2.2.2.2.2.2.2.2.1 z2.2.1.2.2.2.2.2.2.2.2.2.2 x6).bind fun x7=>bif zL (z2.2.2.2.length + x7.2.2.2.2.2.2.2.2.2.2.2.length) 64 then (let y2:List qE:=(z2.2.2.2++x7.2.2.2.2.2.2.2.2.2.2.2)
  some ((qQ x7),y2)) else none
def u9 (k:Nat)(a0:vr)(a1:Int):Option Int:=
 bif decide (a1<0) then some (-1) else bif decide (a1≥a0.1) then some (-1) else some a1
def G4 (k:Nat)(a0:vF)(a1 a2:Int):Option Int:=
 bif decide (a1≥a0.2.2.2.1) then some 7 else bif decide (a2 = 3) then (bif decide (a1≥a0.2.2.1) then some 7 else some 0) else some 0
def Cd (k:Nat)(a0:vF)(a1:Int)(a2:zC):Option Int:=
 bif decide (a2.1<1) then some 1 else bif decide (a2.2.1<0) then some 1 else bif decide (a2.2.1≥a0.1) then some 1 else bif decide (a2.2.2.1<0) then some 1 else bif decide (a2.2.2.1≥a0.1) then some 1 else bif decide (a2.2.1=a2.2.2.1) then some 1 else bif decide (a2.2.2.2.1<1) then some 1 else bif decide (a2.2.2.2.1>1099511627776) then some 1 else bif decide (a2.2.2.2.2.1<1) then some 1 else bif decide (a2.2.2.2.2.1>3) then some 1 else bif decide (a2.2.2.2.2.2.1<0) then some 1 else bif decide (a2.2.2.2.2.2.1>a2.2.2.2.2.2.2) then some 1 else bif decide (a2.2.2.2.2.2.2<a1) then some 1 else bif decide (a2.2.2.2.2.2.2>1048576) then some 1
 else(G4 k a0 a1 a2.2.2.2.2.1).bind fun x0=>some x0
def GV (k:Nat)(rec:qS1)(s0:AC)(s1 s5:Int):Option (Unit⊕Bool):=
 bif decide (s5 < (s0.length : Int)) then (bif zB s5 s0.length then (bif decide ((s0.getD s5.toNat 0)=s1) then some (.inr true) else rec s0 s1 (zA (s5+1))) else none) else some (.inl ())
def GU (k:Nat):Nat→qS1:=yD (fun _ _ _=>none) (GV k)
def Qs (k:Nat)(a0:AC)(a1:Int):Option Bool:=
 (GU k k a0 a1 0).bind fun z=>match z with
 |.inl z1=>some false
 |.inr z2=>some z2
abbrev yBj:Type:=AC→Int→Int→Option (AC×Int×Int)
def GW (k:Nat)(rec:yBj)(s0:AC)(s1 s6:Int):Option (AC×Int×Int):=
 bif decide (s6 < (s0.length : Int)) then (bif zB s6 s0.length then (bif decide ((s0.getD s6.toNat 0)<s1) then(rec s0 s1 (zA (s6+1))) else some (s0,s1,s6)) else none) else some (s0,s1,s6)
def Lx (k:Nat):Nat→yBj:=yD (fun _ _ _=>none) (GW k)
def B8 (k:Nat)(a0:AC)(a1:Int):Option (AC×Int):=
 (Qs k a0 a1).bind fun x0=>bif x0 then some (a0,6) else bif decide ((a0.length:Int)≥200) then some (a0,3)
 else(Lx k k a0 a1 0).bind fun z=>bif (decide (0 ≤ z.2.2)) && (decide (z.2.2 ≤ (z.1.length : Int))) then (bif zL (0 + (List.take z.2.2.toNat z.1).length) 8 then (bif zL ((List.take z.2.2.toNat z.1).length + 1) 8 then (bif (decide (0 ≤ z.2.2)) && (decide (z.2.2 ≤ (z.1.length : Int))) then (bif zL (((List.take z.2.2.toNat z.1) ++ [z.2.1]).length + (List.drop z.2.2.toNat z.1).length) 8 then (let y0:AC:=(((List.take z.2.2.toNat z.1)++[z.2.1])++(List.drop z.2.2.toNat z.1))
      some (y0,0)) else none) else none) else none) else none) else none
def Lq (k:Nat)(cm bh bE cz bT cg bW ik cB dz eL dA jk jl:Int):Option Bool:=
 bif decide (bh<cB) then some true else bif decide (bh=cB) then some (decide (bT≤dA)) else some false
abbrev qM6:Type:=List zC→Int→Int→Int→Int→Int→Int→Int→Int→Option Int
def GR (k:Nat)(rec:qM6)(s0:List zC)(s5 af ai aj ah aY bq bx:Int):Option Int:=
 bif decide (s5 < (s0.length : Int)) then (bif zB s5 s0.length then ((Lq k (s0.getD s5.toNat (0,0,0,0,0,0,0)).1 (s0.getD s5.toNat (0,0,0,0,0,0,0)).2.1 (s0.getD s5.toNat (0,0,0,0,0,0,0)).2.2.1 (s0.getD s5.toNat (0,0,0,0,0,0,0)).2.2.2.1 (s0.getD s5.toNat (0,0,0,0,0,0,0)).2.2.2.2.1 (s0.getD s5.toNat (0,0,0,0,0,0,0)).2.2.2.2.2.1 (s0.getD s5.toNat (0,0,0,0,0,0,0)).2.2.2.2.2.2 af ai aj ah aY bq bx).bind fun x0=>bif x0 then(rec s0 (zA (s5+1)) af ai aj ah aY bq bx) else some s5) else none) else some s5
def GQ (k:Nat):Nat→qM6
 |0,_,_,_,_,_,_,_,_,_=>none
 |n+1,s0,s5,af,ai,aj,ah,aY,bq,bx=>GR k (GQ k n) s0 s5 af ai aj ah aY bq bx
def GP (k:Nat)(a0:List zC)(ik cB dz eL dA jk jl:Int):Option Int:=
 (GQ k k a0 0 ik cB dz eL dA jk jl).bind fun z=>some z
def B6 (k:Nat)(a0:List zC)(a1 adu adv adw adx ady adz adA:Int):Option (List zC):=
 bif (decide (0 ≤ a1)) && (decide (a1 ≤ (a0.length : Int))) then (bif zL (0 + (List.take a1.toNat a0).length) 56 then (bif zL ((List.take a1.toNat a0).length + 1) 56 then (let y0:List zC:=((List.take a1.toNat a0)++[(adu,adv,adw,adx,ady,adz,adA)])
    bif (decide (0 ≤ a1)) && (decide (a1 ≤ (a0.length : Int))) then (bif zL (y0.length+(List.drop a1.toNat a0).length) 56 then some (y0++(List.drop a1.toNat a0)) else none) else none) else none) else none) else none
def B7 (k:Nat)(a0:List zC)(ik cB dz eL dA jk jl:Int):Option ((List zC)×Int):=
 (nv k a0 ik).bind fun x0=>bif decide (x0≥0) then some (a0,6) else bif decide ((a0.length:Int)≥40) then some (a0,3)
 else(GP k a0 ik cB dz eL dA jk jl).bind fun x1=>(B6 k a0 x1 ik cB dz eL dA jk jl).bind fun x2=>some (x2,0)
def Qy (k:Nat)(a0:rM)(a1:MZ):Option (Int×vr):=
 (u9 k (yE a0 ([],a0.2.2.2.2.2.2.2.2.2.2.2.2.2.2.2.2.2)) a1.2.1).bind fun x0=>bif decide (a1.2.2.2.1 ≥ 1) then (bif decide (a1.2.2.2.1 ≤ 3) then ((Cd k (yR a0) a0.2.2.2.2.2.1 (a1.1,a0.2.2.2.2.2.2.2.2.2.2.2.2.2.2.2.2.1,x0,a1.2.2)).bind fun x1=>bif !(decide (x1=0)) then some (x1,(yE a0 ([],a0.2.2.2.2.2.2.2.2.2.2.2.2.2.2.2.2.2)))
   else(B8 k a0.2.2.2.2.2.2.2.2.2.2.2.2.2.1 a1.1).bind fun x2=>bif !(decide (x2.2=0)) then some (x2.2,(yE a0 ([],a0.2.2.2.2.2.2.2.2.2.2.2.2.2.2.2.2.2)))
   else(B7 k a0.2.2.2.2.2.2.2.2.2.2.2.2.1 a1.1 a0.2.2.2.2.2.2.2.2.2.2.2.2.2.2.2.2.1 x0 a1.2.2.1 a1.2.2.2.1 a1.2.2.2.2.1 a1.2.2.2.2.2).bind fun x3=>bif !(decide (x3.2=0)) then some (x3.2,(yE a0 ([],a0.2.2.2.2.2.2.2.2.2.2.2.2.2.2.2.2.2))) else some (0,(ku a0 (x3.1,x2.1,a0.2.2.2.2.2.2.2.2.2.2.2.2.2.2.1,a0.2.2.2.2.2.2.2.2.2.2.2.2.2.2.2.1,a0.2.2.2.2.2.2.2.2.2.2.2.2.2.2.2.2.1,[],a1.1))))
  else(Cd k (yR a0) a0.2.2.2.2.2.1 (a1.1,a0.2.2.2.2.2.2.2.2.2.2.2.2.2.2.2.2.1,x0,a1.2.2.1,0,a1.2.2.2.2)).bind fun x4=>bif !(decide (x4=0)) then some (x4,(yE a0 ([],a0.2.2.2.2.2.2.2.2.2.2.2.2.2.2.2.2.2)))
  else(B8 k a0.2.2.2.2.2.2.2.2.2.2.2.2.2.1 a1.1).bind fun x5=>bif !(decide (x5.2=0)) then some (x5.2,(yE a0 ([],a0.2.2.2.2.2.2.2.2.2.2.2.2.2.2.2.2.2)))
  else(B7 k a0.2.2.2.2.2.2.2.2.2.2.2.2.1 a1.1 a0.2.2.2.2.2.2.2.2.2.2.2.2.2.2.2.2.1 x0 a1.2.2.1 0 a1.2.2.2.2.1 a1.2.2.2.2.2).bind fun x6=>bif !(decide (x6.2=0)) then some (x6.2,(yE a0 ([],a0.2.2.2.2.2.2.2.2.2.2.2.2.2.2.2.2.2))) else some (0,(ku a0 (x6.1,x5.1,a0.2.2.2.2.2.2.2.2.2.2.2.2.2.2.1,a0.2.2.2.2.2.2.2.2.2.2.2.2.2.2.2.1,a0.2.2.2.2.2.2.2.2.2.2.2.2.2.2.2.2.1,[],a1.1))))
 else(Cd k (yR a0) a0.2.2.2.2.2.1 (a1.1,a0.2.2.2.2.2.2.2.2.2.2.2.2.2.2.2.2.1,x0,a1.2.2.1,0,a1.2.2.2.2)).bind fun x7=>bif !(decide (x7=0)) then some (x7,(yE a0 ([],a0.2.2.2.2.2.2.2.2.2.2.2.2.2.2.2.2.2)))
 else(B8 k a0.2.2.2.2.2.2.2.2.2.2.2.2.2.1 a1.1).bind fun x8=>bif !(decide (x8.2=0)) then some (x8.2,(yE a0 ([],a0.2.2.2.2.2.2.2.2.2.2.2.2.2.2.2.2.2)))
 else(B7 k a0.2.2.2.2.2.2.2.2.2.2.2.2.1 a1.1 a0.2.2.2.2.2.2.2.2.2.2.2.2.2.2.2.2.1 x0 a1.2.2.1 0 a1.2.2.2.2.1 a1.2.2.2.2.2).bind fun x9=>bif !(decide (x9.2=0)) then some (x9.2,(yE a0 ([],a0.2.2.2.2.2.2.2.2.2.2.2.2.2.2.2.2.2))) else some (0,(ku a0 (x9.1,x8.1,a0.2.2.2.2.2.2.2.2.2.2.2.2.2.2.1,a0.2.2.2.2.2.2.2.2.2.2.2.2.2.2.2.1,a0.2.2.2.2.2.2.2.2.2.2.2.2.2.2.2.2.1,[],a1.1)))
def vFx (k:Nat)(a0:vr)(a1:Int):Option (zC×Bool):=
 (nv k a0.2.2.2.2.2.2.2.2.2.2.2.2.1 a1).bind fun x0=>bif decide (x0<0) then some ((0,0,0,0,0,0,0),false) else bif zB x0 a0.2.2.2.2.2.2.2.2.2.2.2.2.1.length then (bif !(decide ((a0.2.2.2.2.2.2.2.2.2.2.2.2.1.getD x0.toNat (0,0,0,0,0,0,0)).2.1=a0.2.2.2.2.2.2.2.2.2.2.2.2.2.2.2.2.1)) then some ((0,0,0,0,0,0,0),false) else bif zB x0 a0.2.2.2.2.2.2.2.2.2.2.2.2.1.length then some ((a0.2.2.2.2.2.2.2.2.2.2.2.2.1.getD x0.toNat (0,0,0,0,0,0,0)),true) else none) else none
def GS (k:Nat)(rec:yAy)(s6:List zC)(s9:Int)(b0:zC):Option qLi:=
 bif decide (s9 < (s6.length : Int)) then (bif zB s9 s6.length then ((Lq k b0.1 b0.2.1 b0.2.2.1 b0.2.2.2.1 b0.2.2.2.2.1 b0.2.2.2.2.2.1 b0.2.2.2.2.2.2 (s6.getD s9.toNat (0,0,0,0,0,0,0)).1 (s6.getD s9.toNat (0,0,0,0,0,0,0)).2.1 (s6.getD s9.toNat (0,0,0,0,0,0,0)).2.2.1 (s6.getD s9.toNat (0,0,0,0,0,0,0)).2.2.2.1 (s6.getD s9.toNat (0,0,0,0,0,0,0)).2.2.2.2.1 (s6.getD s9.toNat (0,0,0,0,0,0,0)).2.2.2.2.2.1 (s6.getD s9.toNat (0,0,0,0,0,0,0)).2.2.2.2.2.2).bind fun x1=>bif !x1 then(rec s6 (zA (s9+1)) b0) else some (s6,s9,b0)) else none) else some (s6,s9,b0)
def Lw (k:Nat):Nat→yAy:=yD (fun _ _ _=>none) (GS k)
def Lv (k:Nat)(a0:List zC)(a1:Int):Option ((List zC)×Int):=
 (oF k a0 a1).bind fun x0=>bif !(decide (x0.2.2.2.2.2.2.2.2=0)) then some (a0,x0.2.2.2.2.2.2.2.2)
 else(Lw k k x0.1 0 (Ru x0)).bind fun z=>(B6 k z.1 z.2.1 z.2.2.1 z.2.2.2.1 z.2.2.2.2.1 z.2.2.2.2.2.1 z.2.2.2.2.2.2.1 z.2.2.2.2.2.2.2.1 z.2.2.2.2.2.2.2.2).bind fun x2=>some (x2,0)
def Lu (k:Nat)(a0:List zC)(a1:Int):Option ((List zC)×Int):=
 (oF k a0 a1).bind fun x0=>bif !(decide (x0.2.2.2.2.2.2.2.2=0)) then some (a0,x0.2.2.2.2.2.2.2.2)
 else(GP k x0.1 x0.2.1 x0.2.2.1 x0.2.2.2.1 x0.2.2.2.2.1 x0.2.2.2.2.2.1 x0.2.2.2.2.2.2.1 x0.2.2.2.2.2.2.2.1).bind fun x1=>(B6 k x0.1 x1 x0.2.1 x0.2.2.1 x0.2.2.2.1 x0.2.2.2.2.1 x0.2.2.2.2.2.1 x0.2.2.2.2.2.2.1 x0.2.2.2.2.2.2.2.1).bind fun x2=>some (x2,0)
def Lt (k:Nat)(a0:List zC)(a1 a2:Int):Option ((List zC)×Int):=
 (oF k a0 a1).bind fun x0=>bif !(decide (x0.2.2.2.2.2.2.2.2=0)) then some (a0,x0.2.2.2.2.2.2.2.2)
 else(GP k x0.1 x0.2.1 x0.2.2.1 x0.2.2.2.1 x0.2.2.2.2.1 a2 x0.2.2.2.2.2.2.1 x0.2.2.2.2.2.2.2.1).bind fun x1=>(B6 k x0.1 x1 x0.2.1 x0.2.2.1 x0.2.2.2.1 x0.2.2.2.2.1 a2 x0.2.2.2.2.2.2.1 x0.2.2.2.2.2.2.2.1).bind fun x2=>some (x2,0)
def Cf (k:Nat)(a0:rM)(a1:Int)(a2:MZ):Option (Int×vr):=
 (vFx k (yE a0 ([],a0.2.2.2.2.2.2.2.2.2.2.2.2.2.2.2.2.2)) a2.1).bind fun x0=>bif !x0.2 then some (4,(yE a0 ([],a0.2.2.2.2.2.2.2.2.2.2.2.2.2.2.2.2.2))) else bif decide (a1 = 2) then ((oF k a0.2.2.2.2.2.2.2.2.2.2.2.2.1 a2.1).bind fun x1=>(fT k 20 [a2.1]).bind fun x2=>some (0,(ku a0 (x1.1,(Sy a0 ([(a0.2.2.2.2.2.2.2.2.2.2.2.2.2.2.2.2.1,x2)],a0.2.2.2.2.2.2.2.2.2.2.2.2.2.2.2.2.2)))))) else bif decide (a1 = 3) then (bif decide (a2.2.1 = 0) then ((Lv k a0.2.2.2.2.2.2.2.2.2.2.2.2.1 a2.1).bind fun x3=>some (0,(ku a0 (x3.1,(Sy a0 ([],a0.2.2.2.2.2.2.2.2.2.2.2.2.2.2.2.2.2)))))) else bif decide (a2.2.1 = 1) then ((Lu k a0.2.2.2.2.2.2.2.2.2.2.2.2.1 a2.1).bind fun x4=>some (0,(ku a0 (x4.1,(Sy a0 ([],a0.2.2.2.2.2.2.2.2.2.2.2.2.2.2.2.2.2)))))) else some (1,(yE a0 ([],a0.2.2.2.2.2.2.2.2.2.2.2.2.2.2.2.2.2)))) else bif decide (a2.2.1<1) then some (1,(yE a0 ([],a0.2.2.2.2.2.2.2.2.2.2.2.2.2.2.2.2.2))) else bif decide (a2.2.1>3) then some (1,(yE a0 ([],a0.2.2.2.2.2.2.2.2.2.2.2.2.2.2.2.2.2)))
 else(G4 k (yR a0) a0.2.2.2.2.2.1 a2.2.1).bind fun x5=>bif !(decide (x5=0)) then some (x5,(yE a0 ([],a0.2.2.2.2.2.2.2.2.2.2.2.2.2.2.2.2.2)))
 else(Lt k a0.2.2.2.2.2.2.2.2.2.2.2.2.1 a2.1 a2.2.1).bind fun x6=>some (0,(ku a0 (x6.1,(Sy a0 ([],a0.2.2.2.2.2.2.2.2.2.2.2.2.2.2.2.2.2)))))
def Cg (k:Nat)(a0:rM)(a1:Int)(a2:MZ):Option (Int×vr):=
 (px k a0.2.2.2.2.2.2.1 a0.2.2.2.2.2.2.2.1 a0.2.2.2.2.2.2.2.2.1 a0.2.2.2.2.2.2.2.2.2.1).bind fun x0=>bif decide (a1 = 5) then ((u9 k (yE a0 ([],a0.2.2.2.2.2.2.2.2.2.2.2.2.2.2.2.2.2)) a2.1).bind fun x1=>bif decide (x1<0) then some (1,(yE a0 ([],a0.2.2.2.2.2.2.2.2.2.2.2.2.2.2.2.2.2))) else bif decide (x1=a0.2.2.2.2.2.2.2.2.2.2.2.2.2.2.2.2.1) then some (1,(yE a0 ([],a0.2.2.2.2.2.2.2.2.2.2.2.2.2.2.2.2.2))) else bif decide (a2.2.1<(-1)) then some (1,(yE a0 ([],a0.2.2.2.2.2.2.2.2.2.2.2.2.2.2.2.2.2))) else bif decide (a2.2.1>1152921504606846976) then some (1,(yE a0 ([],a0.2.2.2.2.2.2.2.2.2.2.2.2.2.2.2.2.2))) else bif zB a0.2.2.2.2.2.2.2.2.2.2.2.2.2.2.2.2.1 x0.2.1.length then (bif zB x1 (x0.2.1.getD a0.2.2.2.2.2.2.2.2.2.2.2.2.2.2.2.2.1.toNat []).length then (let y0:EQ:=(x0.2.1.set a0.2.2.2.2.2.2.2.2.2.2.2.2.2.2.2.2.1.toNat ((x0.2.1.getD a0.2.2.2.2.2.2.2.2.2.2.2.2.2.2.2.2.1.toNat []).set x1.toNat a2.2.1))
    some (0,(jJ a0 (x0.1,y0,x0.2.2.1,x0.2.2.2,(qK0 a0 ([],a0.2.2.2.2.2.2.2.2.2.2.2.2.2.2.2.2.2)))))) else none) else none) else bif decide (a1 = 6) then (bif decide (a2.1<(-1)) then some (1,(yE a0 ([],a0.2.2.2.2.2.2.2.2.2.2.2.2.2.2.2.2.2))) else bif decide (a2.1>1152921504606846976) then some (1,(yE a0 ([],a0.2.2.2.2.2.2.2.2.2.2.2.2.2.2.2.2.2))) else bif zB a0.2.2.2.2.2.2.2.2.2.2.2.2.2.2.2.2.1 x0.2.2.1.length then (let y1:AC:=(x0.2.2.1.set a0.2.2.2.2.2.2.2.2.2.2.2.2.2.2.2.2.1.toNat a2.1)
   some (0,(jJ a0 (x0.1,x0.2.1,y1,x0.2.2.2,(qK0 a0 ([],a0.2.2.2.2.2.2.2.2.2.2.2.2.2.2.2.2.2)))))) else none) else bif decide (a2.1<0) then some (1,(yE a0 ([],a0.2.2.2.2.2.2.2.2.2.2.2.2.2.2.2.2.2))) else bif decide (a2.1>1152921504606846976) then some (1,(yE a0 ([],a0.2.2.2.2.2.2.2.2.2.2.2.2.2.2.2.2.2))) else bif zB a0.2.2.2.2.2.2.2.2.2.2.2.2.2.2.2.2.1 x0.1.length then (let y2:List zJ:=(x0.1.set a0.2.2.2.2.2.2.2.2.2.2.2.2.2.2.2.2.1.toNat ((x0.1.getD a0.2.2.2.2.2.2.2.2.2.2.2.2.2.2.2.2.1.toNat (0,0,0)).1,(x0.1.getD a0.2.2.2.2.2.2.2.2.2.2.2.2.2.2.2.2.1.toNat (0,0,0)).2.1,a2.1))
  some (0,(jJ a0 (y2,x0.2.1,x0.2.2.1,x0.2.2.2,(qK0 a0 ([],a0.2.2.2.2.2.2.2.2.2.2.2.2.2.2.2.2.2)))))) else none
def vd (k:Nat)(a0:AC)(a1 a2:Int):Option AC:=
 bif zL (0 + a0.length) 8 then (bif decide (a1 ≥ 0) then (bif decide (a1 < (a0.length : Int)) then (bif zB a1 a0.length then some (a0.set a1.toNat a2) else none) else some a0) else some a0) else none
def Qk (k:Nat)(a0:Int):Option AC:=
 some [(yM .i64 a0 65535),(yM .i64 (shr .i64 a0 16) 65535),(yM .i64 (shr .i64 a0 32) 65535),(yM .i64 (shr .i64 a0 48) 65535)]
def vDt (k:Nat)(rec:Int→AC→Option AC)(s3:Int)(r0:AC):Option AC:=
 bif decide ((zA (s3 + 1)) < (r0.length : Int)) then (bif zB (zA (s3 + 1)) r0.length then (bif zB s3 r0.length then (bif zB (zA (s3 + 1)) r0.length then (let y0:AC:=(r0.set (zA (s3+1)).toNat (zA ((r0.getD (zA (s3+1)).toNat 0)+(shr .i64 (r0.getD s3.toNat 0) 16))))
     bif zB s3 y0.length then (bif zB s3 y0.length then(rec (zA (s3+1)) (y0.set s3.toNat (yM .i64 (y0.getD s3.toNat 0) 65535))) else none) else none) else none) else none) else none) else some r0
def qPw (k:Nat):Nat→Int→AC→Option AC:=yD (fun _ _=>none) (vDt k)
def GJ (k:Nat)(a0:AC):Option AC:=
 (qPw k k 0 a0).bind fun z=>some z
abbrev qO7:Type:=Int×Int×AC×AC
abbrev qMl:Type:=Int→Int→Int→AC→AC→Option qO7
def yTd (k:Nat)(rec:qMl)(s1 s7 s8:Int)(r0 r1:AC):Option qO7:=
 bif decide (s8 < 4) then (bif !(decide ((IntKind.wrap .u64 ((zA (16 * s8)))) < 0)) then (bif zB (zA (s7 + s8)) r1.length then (bif zB s7 r0.length then (bif zB (zA (s7 + s8)) r1.length then (let y0:AC:=(r1.set (zA (s7+s8)).toNat (zA ((r1.getD (zA (s7+s8)).toNat 0)+(zA ((r0.getD s7.toNat 0)*(yM .i64 (shr .i64 s1 (IntKind.wrap .u64 ((zA (16*s8))))) 65535))))))
      rec s1 s7 (zA (s8+1)) r0 y0) else none) else none) else none) else none) else some (s1,s7,r0,r1)
def qQn (k:Nat):Nat→qMl:=yD (fun _ _ _ _ _=>none) (yTd k)
abbrev yAo:Type:=Int→Int→AC→AC→Option AC
def yUw (k:Nat)(rec:yAo)(s1 s7:Int)(r0 r1:AC):Option AC:=
 bif decide (s7 < 4) then ((qQn k k s1 s7 0 r0 r1).bind fun z=>rec z.1 (zA (z.2.1+1)) z.2.2.1 z.2.2.2) else some r1
def Qi (k:Nat):Nat→yAo:=yD (fun _ _ _ _=>none) (yUw k)
def Qj (k:Nat)(a0 a1:Int):Option AC:=
 (Qk k a0).bind fun x0=>(Qi k k a1 0 x0 [0,0,0,0,0,0,0,0,0]).bind fun z1=>(GJ k z1).bind fun x1=>some x1
def yJo (k:Nat)(rec:Int→Int→AC→Option AC)(s1 s5:Int)(r0:AC):Option AC:=
 bif decide (s5 < (r0.length : Int)) then (bif zB s5 r0.length then (bif zB s5 r0.length then(rec s1 (zA (s5+1)) (r0.set s5.toNat (zA ((r0.getD s5.toNat 0)*s1)))) else none) else none) else some r0
def Qg (k:Nat):Nat→Int→Int→AC→Option AC:=yD (fun _ _ _=>none) (yJo k)
def Qf (k:Nat)(a0:AC)(a1:Int):Option AC:=
 (Qg k k a1 0 a0).bind fun z=>(GJ k z).bind fun x0=>some x0
def yGq (k:Nat)(rec:qNw)(s1 s6 s7:Int)(r0:AC):Option AC:=
 bif decide (s7 ≥ 0) then (bif zB s7 r0.length then (bif !(decide (s1 = 0)) then (bif zB s7 r0.length then (let y0:AC:=(r0.set s7.toNat (zA (Int.tdiv (zA ((shl .i64 s6 16)+(r0.getD s7.toNat 0))) s1)))
     bif !(decide (s1=0)) then(rec s1 (Int.tmod (zA ((shl .i64 s6 16)+(r0.getD s7.toNat 0))) s1) (zA (s7-1)) y0) else none) else none) else none) else none) else some r0
def Ll (k:Nat):Nat→qNw:=yD (fun _ _ _ _=>none) (yGq k)
abbrev yCh:Type:=Int→AC→Option (AC⊕fD)
def yLf (k:Nat)(rec:yCh)(s9:Int)(r0:AC):Option (AC⊕fD):=
 bif decide (s9 < (r0.length : Int)) then (bif zB s9 r0.length then (bif !(decide ((r0.getD s9.toNat 0)=0)) then some (.inr (0,false)) else rec (zA (s9+1)) r0) else none) else some (.inl r0)
def GK (k:Nat):Nat→yCh:=yD (fun _ _=>none) (yLf k)
def Qh (k:Nat)(a0:AC)(a1:Int):Option fD:=
 (Ll k k a1 0 (zA ((a0.length:Int)-1)) a0).bind fun z=>(GK k k 4 z).bind fun z1=>match z1 with
 | .inl z2 => bif zB 3 z2.length then (bif decide ((z2.getD 3 0)≥32768) then some (0,false) else bif zB 3 z2.length then (bif zB 2 z2.length then (bif zB 1 z2.length then (bif zB 0 z2.length then some ((wG .i64 (wG .i64 (wG .i64 (shl .i64 (z2.getD 3 0) 48) (shl .i64 (z2.getD 2 0) 32)) (shl .i64 (z2.getD 1 0) 16)) (z2.getD 0 0)),true) else none) else none) else none) else none) else none
 |.inr z3=>some (z3.1,z3.2)
def Qq (k:Nat)(a0 a1 a2:Int):Option fD:=
 bif decide (a0<0) then some (0,false) else bif decide (a1<0) then some (0,false) else bif decide (a2<0) then some (0,false) else bif decide (a2>10000) then some (0,false)
 else(Qj k a0 a1).bind fun x0=>(Qf k x0 (zA (10000-a2))).bind fun x1=>(Qh k x1 10000).bind fun x2=>some (x2.1,x2.2)
def GM (k:Nat)(a0 a1:Int):Option fD:=
 bif decide (a1 > 0) then (bif decide (a0>(zA (9223372036854775807-a1))) then some (0,false) else bif decide (a1 < 0) then (bif decide (a0<(zA ((-9223372036854775808)-a1))) then some (0,false) else some ((zA (a0+a1)),true)) else some ((zA (a0+a1)),true)) else bif decide (a1 < 0) then (bif decide (a0<(zA ((-9223372036854775808)-a1))) then some (0,false) else some ((zA (a0+a1)),true)) else some ((zA (a0+a1)),true)
abbrev yBp:Type:=List wD→AC→AC→Int→Int→Option (Int⊕fD)
def GN (k:Nat)(rec:yBp)(s0:List wD)(s1 s2:AC)(s8 s9:Int):Option (Int⊕fD):=
 bif decide (s9 < (s0.length : Int)) then (bif zB s9 s1.length then (bif zB s9 s2.length then (bif zB s9 s0.length then ((Qq k (s1.getD s9.toNat 0) (s2.getD s9.toNat 0) (s0.getD s9.toNat (0,0)).2).bind fun x0=>(GM k s8 x0.1).bind fun x1=>bif !x0.2 then some (.inr (0,false)) else bif !x1.2 then some (.inr (0,false)) else rec s0 s1 s2 x1.1 (zA (s9+1))) else none) else none) else none) else some (.inl s8)
def Lr (k:Nat):Nat→yBp:=yD (fun _ _ _ _ _=>none) (GN k)
def B5 (k:Nat)(a0:List wD)(a1 a2:AC):Option fD:=
 bif !(decide ((a1.length:Int)=(a0.length:Int))) then some (0,false) else bif !(decide ((a2.length:Int)=(a0.length:Int))) then some (0,false)
 else(Lr k k a0 a1 a2 0 0).bind fun z=>match z with
 |.inl z1=>some (z1,true)
 |.inr z2=>some (z2.1,z2.2)
def Qz (k:Nat)(a0:rM)(a1 a2:Int):Option (Int×vr):=
 bif decide (a1<0) then some (1,(yE a0 ([],a0.2.2.2.2.2.2.2.2.2.2.2.2.2.2.2.2.2))) else bif decide (a1≥(a0.2.1.length:Int)) then some (1,(yE a0 ([],a0.2.2.2.2.2.2.2.2.2.2.2.2.2.2.2.2.2))) else bif decide (a2<0) then some (1,(yE a0 ([],a0.2.2.2.2.2.2.2.2.2.2.2.2.2.2.2.2.2))) else bif decide (a2>1099511627776) then some (1,(yE a0 ([],a0.2.2.2.2.2.2.2.2.2.2.2.2.2.2.2.2.2))) else bif zB a0.2.2.2.2.2.2.2.2.2.2.2.2.2.2.2.2.1 a0.2.2.2.2.2.2.2.2.2.2.2.1.length then ((vd k (a0.2.2.2.2.2.2.2.2.2.2.2.1.getD a0.2.2.2.2.2.2.2.2.2.2.2.2.2.2.2.2.1.toNat []) a1 a2).bind fun x0=>(B5 k a0.2.1 a0.2.2.2.2.2.2.2.2.2.2.1 x0).bind fun x1=>bif !x1.2 then some (8,(yE a0 ([],a0.2.2.2.2.2.2.2.2.2.2.2.2.2.2.2.2.2))) else bif decide (x1.1>1152921504606846976) then some (8,(yE a0 ([],a0.2.2.2.2.2.2.2.2.2.2.2.2.2.2.2.2.2)))
  else(px k a0.2.2.2.2.2.2.1 a0.2.2.2.2.2.2.2.1 a0.2.2.2.2.2.2.2.2.1 a0.2.2.2.2.2.2.2.2.2.1).bind fun x2=>bif zB a0.2.2.2.2.2.2.2.2.2.2.2.2.2.2.2.2.1 x2.1.length then (bif decide (x1.1 < (x2.1.getD a0.2.2.2.2.2.2.2.2.2.2.2.2.2.2.2.2.1.toNat (0, 0, 0)).2.1) then (bif decide ((zA ((x2.1.getD a0.2.2.2.2.2.2.2.2.2.2.2.2.2.2.2.2.1.toNat (0,0,0)).1+x1.1))<0) then some (9,(yE a0 ([],a0.2.2.2.2.2.2.2.2.2.2.2.2.2.2.2.2.2))) else bif zB a0.2.2.2.2.2.2.2.2.2.2.2.2.2.2.2.2.1 x2.1.length then (let y0:List zJ:=(x2.1.set a0.2.2.2.2.2.2.2.2.2.2.2.2.2.2.2.2.1.toNat ((x2.1.getD a0.2.2.2.2.2.2.2.2.2.2.2.2.2.2.2.2.1.toNat (0,0,0)).1,x1.1,(x2.1.getD a0.2.2.2.2.2.2.2.2.2.2.2.2.2.2.2.2.1.toNat (0,0,0)).2.2))
     bif zL (0 + a0.2.2.2.2.2.2.2.2.2.2.2.1.length) 24 then (bif zB a0.2.2.2.2.2.2.2.2.2.2.2.2.2.2.2.2.1 a0.2.2.2.2.2.2.2.2.2.2.2.1.length then (let y1:EQ:=(a0.2.2.2.2.2.2.2.2.2.2.2.1.set a0.2.2.2.2.2.2.2.2.2.2.2.2.2.2.2.2.1.toNat x0)
       some (0,(jJ a0 (y0,x2.2.1,x2.2.2.1,x2.2.2.2,a0.2.2.2.2.2.2.2.2.2.2.1,y1,(yZc a0 ([],a0.2.2.2.2.2.2.2.2.2.2.2.2.2.2.2.2.2)))))) else none) else none) else none) else bif zB a0.2.2.2.2.2.2.2.2.2.2.2.2.2.2.2.2.1 x2.1.length then (let y2:List zJ:=(x2.1.set a0.2.2.2.2.2.2.2.2.2.2.2.2.2.2.2.2.1.toNat ((x2.1.getD a0.2.2.2.2.2.2.2.2.2.2.2.2.2.2.2.2.1.toNat (0,0,0)).1,x1.1,(x2.1.getD a0.2.2.2.2.2.2.2.2.2.2.2.2.2.2.2.2.1.toNat (0,0,0)).2.2))
    bif zL (0 + a0.2.2.2.2.2.2.2.2.2.2.2.1.length) 24 then (bif zB a0.2.2.2.2.2.2.2.2.2.2.2.2.2.2.2.2.1 a0.2.2.2.2.2.2.2.2.2.2.2.1.length then (let y3:EQ:=(a0.2.2.2.2.2.2.2.2.2.2.2.1.set a0.2.2.2.2.2.2.2.2.2.2.2.2.2.2.2.2.1.toNat x0)
      some (0,(jJ a0 (y2,x2.2.1,x2.2.2.1,x2.2.2.2,a0.2.2.2.2.2.2.2.2.2.2.1,y3,(yZc a0 ([],a0.2.2.2.2.2.2.2.2.2.2.2.2.2.2.2.2.2)))))) else none) else none) else none) else none) else none
def G5 (k:Nat)(a0:zJ)(a1:Int):Option (zJ×Int):=
 (GM k a0.1 a1).bind fun x0=>bif !x0.2 then some (a0,8)
 else(JW k x0.1 a0.2.1 a0.2.2).bind fun x1=>bif !x1 then some (a0,8) else some ((x0.1,a0.2),0)
def G6 (k:Nat)(a0:rM)(a1:Bool)(a2 a3:Int):Option (Int×vr):=
 (u9 k (yE a0 ([],a0.2.2.2.2.2.2.2.2.2.2.2.2.2.2.2.2.2)) a2).bind fun x0=>bif decide (x0<0) then some (1,(yE a0 ([],a0.2.2.2.2.2.2.2.2.2.2.2.2.2.2.2.2.2))) else bif decide (a3<1) then some (1,(yE a0 ([],a0.2.2.2.2.2.2.2.2.2.2.2.2.2.2.2.2.2))) else bif decide (a3>1099511627776) then some (1,(yE a0 ([],a0.2.2.2.2.2.2.2.2.2.2.2.2.2.2.2.2.2)))
 else(px k a0.2.2.2.2.2.2.1 a0.2.2.2.2.2.2.2.1 a0.2.2.2.2.2.2.2.2.1 a0.2.2.2.2.2.2.2.2.2.1).bind fun x1=>bif a1 then (bif zB x0 x1.1.length then ((G5 k (x1.1.getD x0.toNat (0,0,0)) a3).bind fun x2=>bif decide ((zA (a0.2.2.2.2.2.2.2.2.2.2.2.2.2.2.1+a3))>1152921504606846976) then some (8,(yE a0 ([],a0.2.2.2.2.2.2.2.2.2.2.2.2.2.2.2.2.2))) else bif !(decide (x2.2=0)) then some (8,(yE a0 ([],a0.2.2.2.2.2.2.2.2.2.2.2.2.2.2.2.2.2))) else bif zB x0 x1.1.length then some (0,(jJ a0 ((x1.1.set x0.toNat x2.1),x1.2.1,x1.2.2.1,x1.2.2.2,(Im a0 ((zA (a0.2.2.2.2.2.2.2.2.2.2.2.2.2.2.1+a3)),a0.2.2.2.2.2.2.2.2.2.2.2.2.2.2.2.1,a0.2.2.2.2.2.2.2.2.2.2.2.2.2.2.2.2.1,[],a0.2.2.2.2.2.2.2.2.2.2.2.2.2.2.2.2.2))))) else none) else none) else bif zB x0 x1.1.length then (bif decide ((zA ((zA ((x1.1.getD x0.toNat (0,0,0)).1+(x1.1.getD x0.toNat (0,0,0)).2.1))-(x1.1.getD x0.toNat (0,0,0)).2.2))<a3) then some (9,(yE a0 ([],a0.2.2.2.2.2.2.2.2.2.2.2.2.2.2.2.2.2))) else bif decide (a0.2.2.2.2.2.2.2.2.2.2.2.2.2.2.1<a3) then some (9,(yE a0 ([],a0.2.2.2.2.2.2.2.2.2.2.2.2.2.2.2.2.2))) else bif zB x0 x1.1.length then (let y0:List zJ:=(x1.1.set x0.toNat ((zA ((x1.1.getD x0.toNat (0,0,0)).1-a3)),(x1.1.getD x0.toNat (0,0,0)).2))
   some (0,(jJ a0 (y0,x1.2.1,x1.2.2.1,x1.2.2.2,(Im a0 ((zA (a0.2.2.2.2.2.2.2.2.2.2.2.2.2.2.1-a3)),a0.2.2.2.2.2.2.2.2.2.2.2.2.2.2.2.1,a0.2.2.2.2.2.2.2.2.2.2.2.2.2.2.2.2.1,[],a0.2.2.2.2.2.2.2.2.2.2.2.2.2.2.2.2.2)))))) else none) else none
abbrev qV3:Type:=(rM×AC×(List zJ)×EQ×AC×EQ)⊕(Int×rM)
abbrev qYt:Type:=Int→rM→AC→List zJ→EQ→AC→EQ→Option qV3
def G7 (k:Nat)(rec:qYt)(s9:Int)(b0:rM)(r1:AC)(r3:List zJ)(m4:EQ)(r5:AC)(m6:EQ):Option qV3:=
 bif decide (s9 < (r3.length : Int)) then (bif zB s9 b0.2.2.2.2.2.2.2.2.2.2.2.1.length then ((B5 k b0.2.1 r1 (b0.2.2.2.2.2.2.2.2.2.2.2.1.getD s9.toNat [])).bind fun x2=>bif !x2.2 then some (.inr (8,b0)) else bif decide (x2.1>1152921504606846976) then some (.inr (8,b0)) else bif zB s9 r3.length then (let y0:List zJ:=(r3.set s9.toNat ((r3.getD s9.toNat (0,0,0)).1,x2.1,(r3.getD s9.toNat (0,0,0)).2.2))
    rec (zA (s9+1)) b0 r1 y0 m4 r5 m6) else none) else none) else some (.inl (b0,r1,r3,m4,r5,m6))
def vf (k:Nat):Nat→qYt:=yD (fun _ _ _ _ _ _ _=>none) (G7 k)
def QA (k:Nat)(a0:rM)(a1 a2:Int):Option (Int×vr):=
 bif decide (a1<0) then some (1,(yE a0 ([],a0.2.2.2.2.2.2.2.2.2.2.2.2.2.2.2.2.2))) else bif decide (a1≥(a0.2.1.length:Int)) then some (1,(yE a0 ([],a0.2.2.2.2.2.2.2.2.2.2.2.2.2.2.2.2.2))) else bif decide (a2<0) then some (1,(yE a0 ([],a0.2.2.2.2.2.2.2.2.2.2.2.2.2.2.2.2.2))) else bif decide (a2>1048576) then some (1,(yE a0 ([],a0.2.2.2.2.2.2.2.2.2.2.2.2.2.2.2.2.2)))
 else(vd k a0.2.2.2.2.2.2.2.2.2.2.1 a1 a2).bind fun x0=>(px k a0.2.2.2.2.2.2.1 a0.2.2.2.2.2.2.2.1 a0.2.2.2.2.2.2.2.2.1 a0.2.2.2.2.2.2.2.2.2.1).bind fun x1=>(vf k k 0 a0 x0 x1.1 x1.2.1 x1.2.2.1 x1.2.2.2).bind fun z=>match z with
 |.inl z1=>some (0,(jJ z1.1 (Cb z1 (z1.2.1,(vCr z1.1 ([],z1.1.2.2.2.2.2.2.2.2.2.2.2.2.2.2.2.2.2))))))
 |.inr z2=>some (yFu z2 ([],z2.2.2.2.2.2.2.2.2.2.2.2.2.2.2.2.2.2.2))
def yk (k:Nat)(a0:rM)(a1:zC):Option (Int×vr):=
 bif decide (a1.1 = 1) then ((Qy k a0 a1.2).bind fun x0=>some (x0.1,x0.2)) else bif decide (a1.1 = 2) then ((Cf k a0 a1.1 a1.2).bind fun x1=>some (x1.1,x1.2)) else bif decide (a1.1 = 3) then ((Cf k a0 a1.1 a1.2).bind fun x2=>some (x2.1,x2.2)) else bif decide (a1.1 = 4) then ((Cf k a0 a1.1 a1.2).bind fun x3=>some (x3.1,x3.2)) else bif decide (a1.1 = 5) then ((Cg k a0 a1.1 a1.2).bind fun x4=>some (x4.1,x4.2)) else bif decide (a1.1 = 6) then ((Cg k a0 a1.1 a1.2).bind fun x5=>some (x5.1,x5.2)) else bif decide (a1.1 = 7) then ((Cg k a0 a1.1 a1.2).bind fun x6=>some (x6.1,x6.2)) else bif decide (a1.1 = 8) then ((Qz k a0 a1.2.1 a1.2.2.1).bind fun x7=>some (x7.1,x7.2)) else bif decide (a1.1 = 10) then ((G6 k a0 (decide (a1.1=10)) a1.2.1 a1.2.2.1).bind fun x8=>some (x8.1,x8.2)) else bif decide (a1.1 = 11) then ((G6 k a0 (decide (a1.1=10)) a1.2.1 a1.2.2.1).bind fun x9=>some (x9.1,x9.2)) else bif decide (a1.1 = 12) then ((QA k a0 a1.2.1 a1.2.2.1).bind fun bZ=>some (bZ.1,bZ.2)) else some (0,(yE a0 ([],a0.2.2.2.2.2.2.2.2.2.2.2.2.2.2.2.2.2)))
def LR (k:Nat)(a0:vF)(a1:yG)(a2:qE):Option (yG×(List qE)×Int):=
 (Cm k a0 a2).bind fun x0=>bif !x0 then some (a1,[],5) else bif a1.2.2.2.2.2.2.2.2.2.2 then (bif !(decide (a2.2.1=9)) then some (a1,[],7) else bif decide (a2.2.1 = 9) then (bif zB a2.1 a1.2.1.length then ((uH k a1.2.2.2.2.2.2.2.1 a2.1).bind fun x1=>(fT k 17 [(a1.2.1.getD a2.1.toNat (0,0,0)).1,(a1.2.1.getD a2.1.toNat (0,0,0)).2.1,(a1.2.1.getD a2.1.toNat (0,0,0)).2.2,(x1.length:Int),a1.1]).bind fun x2=>some (a1,[(a2.1,x2)],0)) else none) else bif decide (a2.2.1 = 14) then ((Hq k a0 a1).bind fun x3=>some (x3.1,x3.2,0))
  else(yk k (jG a0 (vT a1 (a2.1,0))) a2.2).bind fun x4=>bif !(decide (x4.1=0)) then some (a1,[],x4.1) else bif !(decide (a2.1 = (-1))) then ((fT k 15 []).bind fun x5=>(oG k x4.2.2.2.2.2.2.1 x4.2.2.2.2.2.2.2.1 x4.2.2.2.2.2.2.2.2.1 x4.2.2.2.2.2.2.2.2.2.1 x4.2.2.2.2.2.2.2.2.2.2.1 x4.2.2.2.2.2.2.2.2.2.2.2.1 x4.2.2.2.2.2.2.2.2.2.2.2.2.1 x4.2.2.2.2.2.2.2.2.2.2.2.2.2.1 x4.2.2.2.2.2.2.2.2.2.2.2.2.2.2.1 x4.2.2.2.2.2.2.2.2.2.2.2.2.2.2.2.1 x4.2.2.2.2.2.2.2.2.2.2.2.2.2.2.2.2.1 (decide (a2.2.1=13))).bind fun x6=>bif zL (1 + x4.2.2.2.2.2.2.2.2.2.2.2.2.2.2.2.2.2.2.1.length) 64 then (let y0:List qE:=([(a2.1,x5)]++x4.2.2.2.2.2.2.2.2.2.2.2.2.2.2.2.2.2.2.1)
    bif zL (y0.length + x6.2.2.2.2.2.2.2.2.2.2.2.length) 64 then (bif decide (x4.2.2.2.2.2.2.2.2.2.2.2.2.2.2.2.2.2.2.2 > 0) then ((nv k x6.2.2.2.2.2.2.2.1 x4.2.2.2.2.2.2.2.2.2.2.2.2.2.2.2.2.2.2.2).bind fun x7=>bif decide (x7 ≥ 0) then ((fT k 19 [x4.2.2.2.2.2.2.2.2.2.2.2.2.2.2.2.2.2.2.2]).bind fun x8=>bif zL ((y0 ++ x6.2.2.2.2.2.2.2.2.2.2.2).length + 1) 64 then (let y1:List qE:=((y0++x6.2.2.2.2.2.2.2.2.2.2.2)++[(a2.1,x8)])
        some ((qQ x6),y1,0)) else none) else some ((qQ x6),(y0++x6.2.2.2.2.2.2.2.2.2.2.2),0)) else some ((qQ x6),(y0++x6.2.2.2.2.2.2.2.2.2.2.2),0)) else none) else none)
  else(oG k x4.2.2.2.2.2.2.1 x4.2.2.2.2.2.2.2.1 x4.2.2.2.2.2.2.2.2.1 x4.2.2.2.2.2.2.2.2.2.1 x4.2.2.2.2.2.2.2.2.2.2.1 x4.2.2.2.2.2.2.2.2.2.2.2.1 x4.2.2.2.2.2.2.2.2.2.2.2.2.1 x4.2.2.2.2.2.2.2.2.2.2.2.2.2.1 x4.2.2.2.2.2.2.2.2.2.2.2.2.2.2.1 x4.2.2.2.2.2.2.2.2.2.2.2.2.2.2.2.1 x4.2.2.2.2.2.2.2.2.2.2.2.2.2.2.2.2.1 (decide (a2.2.1=13))).bind fun x9=>bif zL x4.2.2.2.2.2.2.2.2.2.2.2.2.2.2.2.2.2.2.1.length 64 then (let y2:List qE:=x4.2.2.2.2.2.2.2.2.2.2.2.2.2.2.2.2.2.2.1
   bif zL (y2.length + x9.2.2.2.2.2.2.2.2.2.2.2.length) 64 then (bif decide (x4.2.2.2.2.2.2.2.2.2.2.2.2.2.2.2.2.2.2.2 > 0) then ((nv k x9.2.2.2.2.2.2.2.1 x4.2.2.2.2.2.2.2.2.2.2.2.2.2.2.2.2.2.2.2).bind fun bZ=>bif decide (bZ ≥ 0) then ((fT k 19 [x4.2.2.2.2.2.2.2.2.2.2.2.2.2.2.2.2.2.2.2]).bind fun du=>bif zL ((y2 ++ x9.2.2.2.2.2.2.2.2.2.2.2).length + 1) 64 then (let y3:List qE:=((y2++x9.2.2.2.2.2.2.2.2.2.2.2)++[(a2.1,du)])
       some ((qQ x9),y3,0)) else none) else some ((qQ x9),(y2++x9.2.2.2.2.2.2.2.2.2.2.2),0)) else some ((qQ x9),(y2++x9.2.2.2.2.2.2.2.2.2.2.2),0)) else none) else none) else bif decide (a2.2.1 = 9) then (bif zB a2.1 a1.2.1.length then ((uH k a1.2.2.2.2.2.2.2.1 a2.1).bind fun dU=>(fT k 17 [(a1.2.1.getD a2.1.toNat (0,0,0)).1,(a1.2.1.getD a2.1.toNat (0,0,0)).2.1,(a1.2.1.getD a2.1.toNat (0,0,0)).2.2,(dU.length:Int),a1.1]).bind fun mC=>some (a1,[(a2.1,mC)],0)) else none) else bif decide (a2.2.1 = 14) then ((Hq k a0 a1).bind fun oH=>some (oH.1,oH.2,0))
 else(yk k (jG a0 (vT a1 (a2.1,0))) a2.2).bind fun bO=>bif !(decide (bO.1=0)) then some (a1,[],bO.1) else bif !(decide (a2.1 = (-1))) then ((fT k 15 []).bind fun gP=>(oG k bO.2.2.2.2.2.2.1 bO.2.2.2.2.2.2.2.1 bO.2.2.2.2.2.2.2.2.1 bO.2.2.2.2.2.2.2.2.2.1 bO.2.2.2.2.2.2.2.2.2.2.1 bO.2.2.2.2.2.2.2.2.2.2.2.1 bO.2.2.2.2.2.2.2.2.2.2.2.2.1 bO.2.2.2.2.2.2.2.2.2.2.2.2.2.1 bO.2.2.2.2.2.2.2.2.2.2.2.2.2.2.1 bO.2.2.2.2.2.2.2.2.2.2.2.2.2.2.2.1 bO.2.2.2.2.2.2.2.2.2.2.2.2.2.2.2.2.1 (decide (a2.2.1=13))).bind fun eH=>bif zL (1 + bO.2.2.2.2.2.2.2.2.2.2.2.2.2.2.2.2.2.2.1.length) 64 then (let y4:List qE:=([(a2.1,gP)]++bO.2.2.2.2.2.2.2.2.2.2.2.2.2.2.2.2.2.2.1)
   bif zL (y4.length + eH.2.2.2.2.2.2.2.2.2.2.2.length) 64 then (bif decide (bO.2.2.2.2.2.2.2.2.2.2.2.2.2.2.2.2.2.2.2 > 0) then ((nv k eH.2.2.2.2.2.2.2.1 bO.2.2.2.2.2.2.2.2.2.2.2.2.2.2.2.2.2.2.2).bind fun mD=>bif decide (mD ≥ 0) then ((fT k 19 [bO.2.2.2.2.2.2.2.2.2.2.2.2.2.2.2.2.2.2.2]).bind fun je=>bif zL ((y4 ++ eH.2.2.2.2.2.2.2.2.2.2.2).length + 1) 64 then (let y5:List qE:=((y4++eH.2.2.2.2.2.2.2.2.2.2.2)++[(a2.1,je)])
       some ((qQ eH),y5,0)) else none) else some ((qQ eH),(y4++eH.2.2.2.2.2.2.2.2.2.2.2),0)) else some ((qQ eH),(y4++eH.2.2.2.2.2.2.2.2.2.2.2),0)) else none) else none)
 else(oG k bO.2.2.2.2.2.2.1 bO.2.2.2.2.2.2.2.1 bO.2.2.2.2.2.2.2.2.1 bO.2.2.2.2.2.2.2.2.2.1 bO.2.2.2.2.2.2.2.2.2.2.1 bO.2.2.2.2.2.2.2.2.2.2.2.1 bO.2.2.2.2.2.2.2.2.2.2.2.2.1 bO.2.2.2.2.2.2.2.2.2.2.2.2.2.1 bO.2.2.2.2.2.2.2.2.2.2.2.2.2.2.1 bO.2.2.2.2.2.2.2.2.2.2.2.2.2.2.2.1 bO.2.2.2.2.2.2.2.2.2.2.2.2.2.2.2.2.1 (decide (a2.2.1=13))).bind fun eI=>bif zL bO.2.2.2.2.2.2.2.2.2.2.2.2.2.2.2.2.2.2.1.length 64 then (let y6:List qE:=bO.2.2.2.2.2.2.2.2.2.2.2.2.2.2.2.2.2.2.1
  bif zL (y6.length + eI.2.2.2.2.2.2.2.2.2.2.2.length) 64 then (bif decide (bO.2.2.2.2.2.2.2.2.2.2.2.2.2.2.2.2.2.2.2 > 0) then ((nv k eI.2.2.2.2.2.2.2.1 bO.2.2.2.2.2.2.2.2.2.2.2.2.2.2.2.2.2.2.2).bind fun lK=>bif decide (lK ≥ 0) then ((fT k 19 [bO.2.2.2.2.2.2.2.2.2.2.2.2.2.2.2.2.2.2.2]).bind fun mE=>bif zL ((y6 ++ eI.2.2.2.2.2.2.2.2.2.2.2).length + 1) 64 then (let y7:List qE:=((y6++eI.2.2.2.2.2.2.2.2.2.2.2)++[(a2.1,mE)])
      some ((qQ eI),y7,0)) else none) else some ((qQ eI),(y6++eI.2.2.2.2.2.2.2.2.2.2.2),0)) else some ((qQ eI),(y6++eI.2.2.2.2.2.2.2.2.2.2.2),0)) else none) else none
def vP (k:Nat)(bm:nK)(dB:fV)(mL:vX):Option (yG×nK×fV×vX):=
 some ((rz bm),bm,dB,mL)
abbrev qL8:Type:=AC→AC→Int→Option (Unit⊕Bool)
def EY (k:Nat)(rec:qL8)(s0 s1:AC)(s5:Int):Option (Unit⊕Bool):=
 bif decide (s5 < (s0.length : Int)) then (bif zB s5 s0.length then (bif zB s5 s1.length then (bif !(decide ((s0.getD s5.toNat 0)=(s1.getD s5.toNat 0))) then some (.inr false) else rec s0 s1 (zA (s5+1))) else none) else none) else some (.inl ())
def Kg (k:Nat):Nat→qL8
 |0,_,_,_=>none
 |n+1,s0,s1,s5=>EY k (Kg k n) s0 s1 s5
def oq (k:Nat)(a0 a1:AC):Option Bool:=
 bif !(decide ((a0.length:Int)=(a1.length:Int))) then some false
 else(Kg k k a0 a1 0).bind fun z=>match z with
 |.inl z1=>some true
 |.inr z2=>some z2
abbrev qWu:Type:=EQ→EQ→Int→Option (Unit⊕Bool)
def EZ (k:Nat)(rec:qWu)(s0 s1:EQ)(s5:Int):Option (Unit⊕Bool):=
 bif decide (s5 < (s0.length : Int)) then (bif zB s5 s0.length then (bif zB s5 s1.length then ((oq k (s0.getD s5.toNat []) (s1.getD s5.toNat [])).bind fun x0=>bif !x0 then some (.inr false) else rec s0 s1 (zA (s5+1))) else none) else none) else some (.inl ())
def Kh (k:Nat):Nat→qWu
 |0,_,_,_=>none
 |n+1,s0,s1,s5=>EZ k (Kh k n) s0 s1 s5
def uA (k:Nat)(a0 a1:EQ):Option Bool:=
 bif !(decide ((a0.length:Int)=(a1.length:Int))) then some false
 else(Kh k k a0 a1 0).bind fun z=>match z with
 |.inl z1=>some true
 |.inr z2=>some z2
abbrev qYr:Type:=Int→List zJ→EQ→AC→EQ→List zJ→EQ→AC→EQ→Option (Unit⊕Bool)
def E1 (k:Nat)(rec:qYr)(s5:Int)(af:List zJ)(ai:EQ)(aj:AC)(ah:EQ)(aw:List zJ)(aC:EQ)(aD:AC)(aF:EQ):Option (Unit⊕Bool):=
 bif decide (s5 < (af.length : Int)) then (bif zB s5 af.length then (bif zB s5 aw.length then (bif !((decide ((af.getD s5.toNat (0,0,0)).1=(aw.getD s5.toNat (0,0,0)).1))&&((decide ((af.getD s5.toNat (0,0,0)).2.1=(aw.getD s5.toNat (0,0,0)).2.1))&&(decide ((af.getD s5.toNat (0,0,0)).2.2=(aw.getD s5.toNat (0,0,0)).2.2)))) then some (.inr false) else rec (zA (s5+1)) af ai aj ah aw aC aD aF) else none) else none) else some (.inl ())
def Ki (k:Nat):Nat→qYr
 |0,_,_,_,_,_,_,_,_,_=>none
 |n+1,s5,af,ai,aj,ah,aw,aC,aD,aF=>E1 k (Ki k n) s5 af ai aj ah aw aC aD aF
def E0 (k:Nat)(av:List zJ)(aA:EQ)(az:AC)(ay:EQ)(cY:List zJ)(jm:EQ)(jn:AC)(jo:EQ):Option Bool:=
 bif !(decide ((av.length:Int)=(cY.length:Int))) then some false
 else(uA k aA jm).bind fun x0=>bif !x0 then some false
 else(uA k ay jo).bind fun x1=>bif !x1 then some false
 else(oq k az jn).bind fun x2=>bif !x2 then some false
 else(Ki k k 0 av aA az ay cY jm jn jo).bind fun z=>match z with
 |.inl z1=>some true
 |.inr z2=>some z2
abbrev qLl:Type:=List zC→List zC→Int→Option (Unit⊕Bool)
def HG (k:Nat)(rec:qLl)(s0 s1:List zC)(s5:Int):Option (Unit⊕Bool):=
 bif decide (s5 < (s0.length : Int)) then (bif zB s5 s0.length then (bif zB s5 s1.length then (bif !((decide ((s0.getD s5.toNat (0,0,0,0,0,0,0)).1=(s1.getD s5.toNat (0,0,0,0,0,0,0)).1))&&((decide ((s0.getD s5.toNat (0,0,0,0,0,0,0)).2.1=(s1.getD s5.toNat (0,0,0,0,0,0,0)).2.1))&&((decide ((s0.getD s5.toNat (0,0,0,0,0,0,0)).2.2.1=(s1.getD s5.toNat (0,0,0,0,0,0,0)).2.2.1))&&((decide ((s0.getD s5.toNat (0,0,0,0,0,0,0)).2.2.2.1=(s1.getD s5.toNat (0,0,0,0,0,0,0)).2.2.2.1))&&((decide ((s0.getD s5.toNat (0,0,0,0,0,0,0)).2.2.2.2.1=(s1.getD s5.toNat (0,0,0,0,0,0,0)).2.2.2.2.1))&&((decide ((s0.getD s5.toNat (0,0,0,0,0,0,0)).2.2.2.2.2.1=(s1.getD s5.toNat (0,0,0,0,0,0,0)).2.2.2.2.2.1))&&(decide ((s0.getD s5.toNat (0,0,0,0,0,0,0)).2.2.2.2.2.2=(s1.getD s5.toNat (0,0,0,0,0,0,0)).2.2.2.2.2.2)))))))) then some (.inr false) else rec s0 s1 (zA (s5+1))) else none) else none) else some (.inl ())
def L8 (k:Nat):Nat→qLl
 |0,_,_,_=>none
 |n+1,s0,s1,s5=>HG k (L8 k n) s0 s1 s5
def Cx (k:Nat)(a0 a1:List zC):Option Bool:=
 bif !(decide ((a0.length:Int)=(a1.length:Int))) then some false
 else(L8 k k a0 a1 0).bind fun z=>match z with
 |.inl z1=>some true
 |.inr z2=>some z2
def jN (k:Nat)(a0 a1:yG):Option Bool:=
 bif decide (a0.1 = a1.1) then (bif decide (a0.2.2.2.2.2.2.2.2.2.1 = a1.2.2.2.2.2.2.2.2.2.1) then (bif mR a0.2.2.2.2.2.2.2.2.2.2 a1.2.2.2.2.2.2.2.2.2.2 then ((E0 k a0.2.1 a0.2.2.1 a0.2.2.2.1 a0.2.2.2.2.1 a1.2.1 a1.2.2.1 a1.2.2.2.1 a1.2.2.2.2.1).bind fun x0=>bif x0 then ((oq k a0.2.2.2.2.2.1 a1.2.2.2.2.2.1).bind fun x1=>bif x1 then ((uA k a0.2.2.2.2.2.2.1 a1.2.2.2.2.2.2.1).bind fun x2=>bif x2 then ((Cx k a0.2.2.2.2.2.2.2.1 a1.2.2.2.2.2.2.2.1).bind fun x3=>bif x3 then ((oq k a0.2.2.2.2.2.2.2.2.1 a1.2.2.2.2.2.2.2.2.1).bind fun x4=>some x4) else some false) else some false) else some false) else some false) else some false) else some false) else some false
def nH (k:Nat)(a0:vX):Option vX:=
 bif (decide (0 ≤ a0.2.2.1)) && (decide (a0.2.2.1 ≤ (a0.2.1.length : Int))) then (bif (decide (0≤a0.2.2.2.2.1))&&(decide (a0.2.2.2.2.1≤(a0.2.2.2.1.length:Int))) then some (a0.1,(List.take (a0.2.2.1.toNat-0) a0.2.1),a0.2.2.1,(List.take (a0.2.2.2.2.1.toNat-0) a0.2.2.2.1),a0.2.2.2.2.1,a0.2.2.2.2.2.1,a0.2.2.2.2.2.2.1,false,false,0) else none) else none
abbrev yCd:Type:=AC→Int→Int→AC→Option qL0
def Q6 (k:Nat)(rec:yCd)(s0:AC)(s4 s5:Int)(r0:AC):Option qL0:=
 bif decide (s5 ≥ 0) then (bif zB s4 s0.length then (bif !(decide ((IntKind.wrap .u64 (s5)) < 0)) then (bif zL (r0.length+1) 1 then(rec s0 s4 (zA (s5-8)) (r0++[(IntKind.wrap .u8 ((shr .u64 (IntKind.wrap .u64 ((s0.getD s4.toNat 0))) (IntKind.wrap .u64 (s5)))))])) else none) else none) else none) else some (s0,s4,r0)
def Mo (k:Nat):Nat→yCd:=yD (fun _ _ _ _=>none) (Q6 k)
def HN (k:Nat)(rec:qNd)(s0:AC)(s4:Int)(r0:AC):Option AC:=
 bif decide (s4 < (s0.length : Int)) then ((Mo k k s0 s4 56 r0).bind fun z=>rec z.1 (zA (z.2.1+1)) z.2.2) else some r0
def CF (k:Nat):Nat→qNd:=yD (fun _ _ _=>none) (HN k)
def HM (k:Nat)(a0:AC):Option AC:=
 (CF k k a0 0 []).bind fun z1=>some z1
def ko (k:Nat)(a0:AC):Option AC:=
 (HM k [(a0.length:Int)]).bind fun x0=>(HM k a0).bind fun x1=>bif zL (x0.length+x1.length) 1 then some (x0++x1) else none
abbrev qTe:Type:=EQ→Int→AC→Option AC
def HP (k:Nat)(rec:qTe)(s0:EQ)(s4:Int)(r0:AC):Option AC:=
 bif decide (s4 < (s0.length : Int)) then (bif zB s4 s0.length then ((ko k (s0.getD s4.toNat [])).bind fun x0=>bif zL (r0.length+x0.length) 1 then(rec s0 (zA (s4+1)) (r0++x0)) else none) else none) else some r0
def HO (k:Nat):Nat→qTe:=yD (fun _ _ _=>none) (HP k)
def pJ (k:Nat)(a0:EQ):Option AC:=
 (HO k k a0 0 []).bind fun z=>some z
abbrev qUv:Type:=yG×zk×AC
abbrev qPr:Type:=Int→yG→zk→AC→Option qUv
def HQ (k:Nat)(rec:qPr)(s6:Int)(b0:yG)(b1:zk)(r2:AC):Option qUv:=
 bif decide (s6 < (b1.1.length : Int)) then (bif zB s6 b1.1.length then (bif zB s6 b1.1.length then (bif zB s6 b1.1.length then ((ko k [(b1.1.getD s6.toNat (0,0,0)).1,(b1.1.getD s6.toNat (0,0,0)).2.1,(b1.1.getD s6.toNat (0,0,0)).2.2]).bind fun x1=>bif zL (r2.length+x1.length) 1 then(rec (zA (s6+1)) b0 b1 (r2++x1)) else none) else none) else none) else none) else some (b0,b1,r2)
def vl (k:Nat):Nat→qPr:=yD (fun _ _ _ _=>none) (HQ k)
abbrev qUl:Type:=yG×AC
abbrev qZy:Type:=Int→yG→AC→Option qUl
def HR (k:Nat)(rec:qZy)(s7:Int)(b0:yG)(r1:AC):Option qUl:=
 bif decide (s7 < (b0.2.2.2.2.2.2.2.1.length : Int)) then (bif zB s7 b0.2.2.2.2.2.2.2.1.length then ((ko k [(b0.2.2.2.2.2.2.2.1.getD s7.toNat (0,0,0,0,0,0,0)).1,(b0.2.2.2.2.2.2.2.1.getD s7.toNat (0,0,0,0,0,0,0)).2.1,(b0.2.2.2.2.2.2.2.1.getD s7.toNat (0,0,0,0,0,0,0)).2.2.1,(b0.2.2.2.2.2.2.2.1.getD s7.toNat (0,0,0,0,0,0,0)).2.2.2.1,(b0.2.2.2.2.2.2.2.1.getD s7.toNat (0,0,0,0,0,0,0)).2.2.2.2.1,(b0.2.2.2.2.2.2.2.1.getD s7.toNat (0,0,0,0,0,0,0)).2.2.2.2.2.1,(b0.2.2.2.2.2.2.2.1.getD s7.toNat (0,0,0,0,0,0,0)).2.2.2.2.2.2]).bind fun x7=>bif zL (r1.length+x7.length) 1 then(rec (zA (s7+1)) b0 (r1++x7)) else none) else none) else some (b0,r1)
def vm (k:Nat):Nat→qZy:=yD (fun _ _ _=>none) (HR k)
def HS (k:Nat)(a0:yG):Option AC:=
 bif a0.2.2.2.2.2.2.2.2.2.2 then ((ko k [a0.1,a0.2.2.2.2.2.2.2.2.2.1,1,(a0.2.1.length:Int),(a0.2.2.1.length:Int),(a0.2.2.2.1.length:Int),(a0.2.2.2.2.1.length:Int),(a0.2.2.2.2.2.2.1.length:Int),(a0.2.2.2.2.2.2.2.1.length:Int)]).bind fun x0=>(vl k k 0 a0 (Ii a0) x0).bind fun z=>(pJ k z.2.1.2.1).bind fun x2=>bif zL (z.2.2.length + x2.length) 1 then ((ko k z.2.1.2.2.1).bind fun x3=>bif zL ((z.2.2 ++ x2).length + x3.length) 1 then ((pJ k z.2.1.2.2.2).bind fun x4=>bif zL (((z.2.2 ++ x2) ++ x3).length + x4.length) 1 then ((ko k z.1.2.2.2.2.2.1).bind fun x5=>bif zL ((((z.2.2 ++ x2) ++ x3) ++ x4).length + x5.length) 1 then ((pJ k z.1.2.2.2.2.2.2.1).bind fun x6=>bif zL (((((z.2.2 ++ x2) ++ x3) ++ x4) ++ x5).length + x6.length) 1 then ((vm k k 0 z.1 (((((z.2.2++x2)++x3)++x4)++x5)++x6)).bind fun z1=>(ko k z1.1.2.2.2.2.2.2.2.2.1).bind fun x8=>bif zL (z1.2.length+x8.length) 1 then some (z1.2++x8) else none) else none) else none) else none) else none) else none)
 else(ko k [a0.1,a0.2.2.2.2.2.2.2.2.2.1,0,(a0.2.1.length:Int),(a0.2.2.1.length:Int),(a0.2.2.2.1.length:Int),(a0.2.2.2.2.1.length:Int),(a0.2.2.2.2.2.2.1.length:Int),(a0.2.2.2.2.2.2.2.1.length:Int)]).bind fun x9=>(vl k k 0 a0 (Ii a0) x9).bind fun z2=>(pJ k z2.2.1.2.1).bind fun bZ=>bif zL (z2.2.2.length + bZ.length) 1 then ((ko k z2.2.1.2.2.1).bind fun du=>bif zL ((z2.2.2 ++ bZ).length + du.length) 1 then ((pJ k z2.2.1.2.2.2).bind fun dU=>bif zL (((z2.2.2 ++ bZ) ++ du).length + dU.length) 1 then ((ko k z2.1.2.2.2.2.2.1).bind fun mC=>bif zL ((((z2.2.2 ++ bZ) ++ du) ++ dU).length + mC.length) 1 then ((pJ k z2.1.2.2.2.2.2.2.1).bind fun oH=>bif zL (((((z2.2.2 ++ bZ) ++ du) ++ dU) ++ mC).length + oH.length) 1 then ((vm k k 0 z2.1 (((((z2.2.2++bZ)++du)++dU)++mC)++oH)).bind fun z3=>(ko k z3.1.2.2.2.2.2.2.2.2.1).bind fun bO=>bif zL (z3.2.length+bO.length) 1 then some (z3.2++bO) else none) else none) else none) else none) else none) else none
def Q7 (k:Nat)(a0:AC):Option (AC×AC×Bool):=
 bif decide ((a0.length:Int)<8) then some ([],[],false) else bif decide (8 ≤ (a0.length : Int)) then ((JN k (List.take 8 a0)).bind fun x0=>bif decide (x0<0) then some ([],[],false) else bif decide (x0>(zA (Int.tdiv (zA ((a0.length:Int)-8)) 8))) then some ([],[],false) else bif (decide (8 ≤ (zA (8 + (zA (8 * x0)))))) && (decide ((zA (8 + (zA (8 * x0)))) ≤ (a0.length : Int))) then ((JP k (qR a0 8 ((zA (8+(zA (8*x0)))).toNat-8))).bind fun x1=>bif (decide (0≤(zA (8+(zA (8*x0))))))&&(decide ((zA (8+(zA (8*x0))))≤(a0.length:Int))) then some (x1.1,(List.drop (zA (8+(zA (8*x0)))).toNat a0),true) else none) else none) else none
def yu (k:Nat)(a0:jF):Option (AC×jF):=
 (Q7 k a0.1).bind fun x0=>bif a0.2 then some (x0.1,x0.2) else some (x0.1,x0.2.1,false)
def HT (k:Nat)(a0:jF)(a1:Int):Option (AC×jF):=
 (yu k a0).bind fun x0=>bif !(decide ((x0.1.length : Int) = a1)) then (bif qe a1 a1 8 then some ((List.replicate a1.toNat (0:Int)),x0.2.1,false) else none) else some (x0.1,x0.2)
abbrev yAu:Type:=Int→Int→jF→EQ→Option qRf
def HV (k:Nat)(rec:yAu)(s1 s6:Int)(b0:jF)(r1:EQ):Option qRf:=
 bif decide (s6 < s1) then (bif b0.2 then ((yu k b0).bind fun x0=>bif zL (r1.length+1) 24 then(rec s1 (zA (s6+1)) x0.2 (r1++[x0.1])) else none) else some (b0,r1)) else some (b0,r1)
def CH (k:Nat):Nat→yAu:=yD (fun _ _ _ _=>none) (HV k)
def HU (k:Nat)(a0:jF)(a1:Int):Option (EQ×jF):=
 (CH k k a1 0 a0 []).bind fun z=>some (z.2,z.1)
def HW (k:Nat)(rec:qXp)(s0:AC)(s7:Int)(b0:yK)(b1:jF)(r2:AC)(b3:yK)(r4:List zJ):Option qXr:=
 bif zB 3 r2.length then (bif decide (s7 < (r2.getD 3 0)) then (bif b1.2 then ((HT k b1 3).bind fun x1=>bif zB 0 x1.1.length then (bif zB 1 x1.1.length then (bif zB 2 x1.1.length then (bif zL (r4.length + 1) 24 then (let y0:List zJ:=(r4++[((x1.1.getD 0 0),(x1.1.getD 1 0),(x1.1.getD 2 0))])
        rec s0 (zA (s7+1)) b0 x1.2 r2 b3 y0) else none) else none) else none) else none) else some (s0,b0,b1,r2,b3,r4)) else some (s0,b0,b1,r2,b3,r4)) else none
def CI (k:Nat):Nat→qXp:=yD (fun _ _ _ _ _ _ _=>none) (HW k)
abbrev qMz:Type:=AC→Int→yK→jF→AC→yK→List zJ→EQ→AC→EQ→AC→EQ→List zC→Option qJd
def HX (k:Nat)(rec:qMz)(s0:AC)(s9:Int)(b0:yK)(b1:jF)(r2:AC)(b3:yK)(r4:List zJ)(r5:EQ)(r6:AC)(r7:EQ)(r8:AC)(r9:EQ)(Sz:List zC):Option qJd:=
 bif zB 8 r2.length then (bif decide (s9 < (r2.getD 8 0)) then (bif b1.2 then ((HT k b1 7).bind fun x7=>bif zB 0 x7.1.length then (bif zB 1 x7.1.length then (bif zB 2 x7.1.length then (bif zB 3 x7.1.length then (bif zB 4 x7.1.length then (bif zB 5 x7.1.length then (bif zB 6 x7.1.length then (bif zL (Sz.length + 1) 56 then (let y1:List zC:=(Sz++[((x7.1.getD 0 0),(x7.1.getD 1 0),(x7.1.getD 2 0),(x7.1.getD 3 0),(x7.1.getD 4 0),(x7.1.getD 5 0),(x7.1.getD 6 0))])
            rec s0 (zA (s9+1)) b0 x7.2 r2 b3 r4 r5 r6 r7 r8 r9 y1) else none) else none) else none) else none) else none) else none) else none) else none) else some (s0,b0,b1,b3,r4,r5,r6,r7,r8,r9,Sz)) else some (s0,b0,b1,b3,r4,r5,r6,r7,r8,r9,Sz)) else none
def CJ (k:Nat):Nat→qMz:=yD (fun _ _ _ _ _ _ _ _ _ _ _ _ _=>none) (HX k)
def Mr (k:Nat)(a0:AC):Option (yG×Bool):=
 (HT k (a0,true) 9).bind fun x0=>bif zB 0 x0.1.length then (bif zB 1 x0.1.length then (bif zB 2 x0.1.length then ((CI k k a0 0 (0,0,false) x0.2 x0.1 ((x0.1.getD 0 0),(x0.1.getD 1 0),(decide ((x0.1.getD 2 0)=1))) []).bind fun z=>bif zB 4 z.2.2.2.1.length then ((HU k z.2.2.1 (z.2.2.2.1.getD 4 0)).bind fun x2=>(yu k x2.2).bind fun x3=>bif zB 6 z.2.2.2.1.length then ((HU k x3.2 (z.2.2.2.1.getD 6 0)).bind fun x4=>(yu k x4.2).bind fun x5=>bif zB 7 z.2.2.2.1.length then ((HU k x5.2 (z.2.2.2.1.getD 7 0)).bind fun x6=>(CJ k k z.1 0 z.2.1 x6.2 z.2.2.2.1 z.2.2.2.2.1 z.2.2.2.2.2 x2.1 x3.1 x4.1 x5.1 x6.1 []).bind fun z1=>(yu k z1.2.2.1).bind fun x8=>bif !x8.2.2 then some ((0,[],[],[],[],[],[],[],[],0,false),false) else bif decide ((x8.2.1.length:Int)>0) then some ((0,[],[],[],[],[],[],[],[],0,false),false)
       else(HS k (z1.2.2.2.1.1,(MI z1 (x8.1,z1.2.2.2.1.2)))).bind fun x9=>bif !(rU x9 z1.1) then some ((0,[],[],[],[],[],[],[],[],0,false),false) else some ((z1.2.2.2.1.1,(MI z1 (x8.1,z1.2.2.2.1.2))),true)) else none) else none) else none) else none) else none) else none
def jc (k:Nat)(a0:yG):Option yG:=
 (HS k a0).bind fun x0=>(Mr k x0).bind fun x1=>some x1.1
def MW (k:Nat)(a0 a1:Int)(a2:AC):Option qE:=
 (fT k a1 a2).bind fun x0=>some (a0,x0)
def yR8 (k:Nat)(a0:zC):Option AC:=
 (Cl k a0).bind fun x0=>bif !x0 then some []
 else(Bt k a0.1).bind fun x1=>bif (decide (0 ≤ x1)) && (decide (x1 ≤ 6)) then ((HM k (qR [a0.2.1,a0.2.2.1,a0.2.2.2.1,a0.2.2.2.2.1,a0.2.2.2.2.2.1,a0.2.2.2.2.2.2] 0 (x1.toNat-0))).bind fun x2=>bif zL (1+x2.length) 1 then some ([(IntKind.wrap .u8 (a0.1))]++x2) else none) else none
def MX (k:Nat)(a0:qE):Option oL:=
 (yR8 k a0.2).bind fun x0=>some (1,a0.1,x0,0,0)
def yS6 (k:Nat)(a0:qE):Option Bool:=
 some (decide (a0.2.1=16))
abbrev qTo:Type:=List qE→Int→Int→Option (Unit⊕Int)
def vDq (k:Nat)(rec:qTo)(s0:List qE)(s7 s8:Int):Option (Unit⊕Int):=
 bif decide (s8 < s7) then (bif zB s8 s0.length then ((yS6 k (s0.getD s8.toNat (0,0,0,0,0,0,0,0))).bind fun x0=>bif x0 then some (.inr s8) else rec s0 s7 (zA (s8+1))) else none) else some (.inl ())
def qKv (k:Nat):Nat→qTo:=yD (fun _ _ _=>none) (vDq k)
def yLt (k:Nat)(a0:List qE):Option Int:=
 (qKv k k a0 (a0.length:Int) 0).bind fun z=>match z with
 |.inl z1=>some (-1)
 |.inr z2=>some z2
def yHn (k:Nat)(a0:List qE):Option Bool:=
 (yLt k a0).bind fun x0=>some (decide (x0≥0))
def qYe (k:Nat)(a0:List qE):Option Bool:=
 (yHn k a0).bind fun x0=>some x0
def MY (k:Nat):Option Bool:=
 some true
def yK8 (k:Nat)(a1:Int)(a2:AC):Option (List qE):=
 (MY k).bind fun x0=>bif x0 then some []
 else(uy k a2).bind fun x1=>bif !(decide (x1.2 = 0)) then ((MM k a1 x1.2).bind fun x2=>some x2) else none
def qNr (k:Nat):Option yG:=
 some (0,[],[],[],[],[],[],[],[],0,false)
abbrev Sv:Type:=(pP×pP×(List (List qE))×(List qE))⊕(pP×nK×fV×tw×AC×AC×pP×(List (List qE))×(List qE))
abbrev qT2:Type:=(Int×(List oL)×Int×Int×vF×pP×tw×AC×AC×nK×fV×pP×(List (List qE))×(List qE))⊕(Int×(List oL)×Int×Int×vF×pP×tw×AC×AC×pP×(List (List qE))×(List qE))→Option Sv
def yD8 (k:Nat)(rec:qT2)(z:(Int×(List oL)×Int×Int×vF×pP×tw×AC×AC×nK×fV×pP×(List (List qE))×(List qE))⊕(Int×(List oL)×Int×Int×vF×pP×tw×AC×AC×pP×(List (List qE))×(List qE))):Option Sv:=match z with
 | .inl z => bif decide (z.2.2.2.1 < z.2.2.1) then (bif zB z.2.2.2.1 z.2.1.length then (bif decide ((z.2.1.getD z.2.2.2.1.toNat (0, 0, [], 0, 0)).1 = 1) then ((Mn k z.2.2.2.2.2.2.2.2.2.1 z.2.2.2.2.2.2.2.2.2.2.1 (z.2.2.2.2.2.2.1.1,z.2.2.2.2.2.2.2.1,z.2.2.2.2.2.2.1.2.1,z.2.2.2.2.2.2.2.2.1,z.2.2.2.2.2.2.1.2.2) (z.2.1.getD z.2.2.2.1.toNat (0,0,[],0,0)).2.1 (z.2.1.getD z.2.2.2.1.toNat (0,0,[],0,0)).2.2.1).bind fun x3=>(uy k (z.2.1.getD z.2.2.2.1.toNat (0,0,[],0,0)).2.2.1).bind fun x4=>bif decide (x4.2 = 0) then ((qYe k x3.1).bind fun x5=>bif !x5 then (bif decide ((x3.1.length : Int) > 0) then (bif zL (z.2.2.2.2.2.2.2.2.2.2.2.2.2.length + 1) 64 then (let y0:List qE:=(z.2.2.2.2.2.2.2.2.2.2.2.2.2++[((z.2.1.getD z.2.2.2.1.toNat (0,0,[],0,0)).2.1,x4.1)])
         bif zL (z.2.2.2.2.2.2.2.2.2.2.2.2.1.length + 1) 24 then (let y1:List (List qE):=(z.2.2.2.2.2.2.2.2.2.2.2.2.1++[x3.1])
          rec (.inl (z.1,z.2.1,z.2.2.1,(zA (z.2.2.2.1+1)),z.2.2.2.2.1,z.2.2.2.2.2.1,(x3.2.2.2.1,x3.2.2.2.2.2.1,x3.2.2.2.2.2.2.2),x3.2.2.2.2.1,x3.2.2.2.2.2.2.1,x3.2.1,x3.2.2.1,z.2.2.2.2.2.2.2.2.2.2.2.1,y1,y0))) else none) else none)
       else(lk k x3.2.1 x3.2.2.1 x3.2.2.2).bind fun x6=>bif !x6.1 then (bif zL (z.2.2.2.2.2.2.2.2.2.2.2.2.2.length + 1) 64 then (let y2:List qE:=(z.2.2.2.2.2.2.2.2.2.2.2.2.2++[((z.2.1.getD z.2.2.2.1.toNat (0,0,[],0,0)).2.1,x4.1)])
         bif zL (z.2.2.2.2.2.2.2.2.2.2.2.2.1.length + 1) 24 then (let y3:List (List qE):=(z.2.2.2.2.2.2.2.2.2.2.2.2.1++[x3.1])
          rec (.inl (z.1,z.2.1,z.2.2.1,(zA (z.2.2.2.1+1)),z.2.2.2.2.1,z.2.2.2.2.2.1,(x6.2.2.2.1,x6.2.2.2.2.2.1,x6.2.2.2.2.2.2.2),x6.2.2.2.2.1,x6.2.2.2.2.2.2.1,x6.2.1,x6.2.2.1,z.2.2.2.2.2.2.2.2.2.2.2.1,y3,y2))) else none) else none) else bif zL (z.2.2.2.2.2.2.2.2.2.2.2.2.1.length + 1) 24 then (let y4:List (List qE):=(z.2.2.2.2.2.2.2.2.2.2.2.2.1++[x3.1])
        rec (.inl (z.1,z.2.1,z.2.2.1,(zA (z.2.2.2.1+1)),z.2.2.2.2.1,z.2.2.2.2.2.1,(x6.2.2.2.1,x6.2.2.2.2.2.1,x6.2.2.2.2.2.2.2),x6.2.2.2.2.1,x6.2.2.2.2.2.2.1,x6.2.1,x6.2.2.1,z.2.2.2.2.2.2.2.2.2.2.2.1,y4,z.2.2.2.2.2.2.2.2.2.2.2.2.2))) else none) else bif zL (z.2.2.2.2.2.2.2.2.2.2.2.2.1.length + 1) 24 then (let y5:List (List qE):=(z.2.2.2.2.2.2.2.2.2.2.2.2.1++[x3.1])
       rec (.inl (z.1,z.2.1,z.2.2.1,(zA (z.2.2.2.1+1)),z.2.2.2.2.1,z.2.2.2.2.2.1,(x3.2.2.2.1,x3.2.2.2.2.2.1,x3.2.2.2.2.2.2.2),x3.2.2.2.2.1,x3.2.2.2.2.2.2.1,x3.2.1,x3.2.2.1,z.2.2.2.2.2.2.2.2.2.2.2.1,y5,z.2.2.2.2.2.2.2.2.2.2.2.2.2))) else none) else bif zL (z.2.2.2.2.2.2.2.2.2.2.2.2.1.length + 1) 24 then (let y6:List (List qE):=(z.2.2.2.2.2.2.2.2.2.2.2.2.1++[x3.1])
      rec (.inl (z.1,z.2.1,z.2.2.1,(zA (z.2.2.2.1+1)),z.2.2.2.2.1,z.2.2.2.2.2.1,(x3.2.2.2.1,x3.2.2.2.2.2.1,x3.2.2.2.2.2.2.2),x3.2.2.2.2.1,x3.2.2.2.2.2.2.1,x3.2.1,x3.2.2.1,z.2.2.2.2.2.2.2.2.2.2.2.1,y6,z.2.2.2.2.2.2.2.2.2.2.2.2.2))) else none) else bif decide ((z.2.1.getD z.2.2.2.1.toNat (0, 0, [], 0, 0)).1 = 2) then ((RZ k (z.2.2.2.2.2.2.1.1,z.2.2.2.2.2.2.2.1,z.2.2.2.2.2.2.1.2.1,z.2.2.2.2.2.2.2.2.1,z.2.2.2.2.2.2.1.2.2) (z.2.1.getD z.2.2.2.1.toNat (0,0,[],0,0)).2.2.2).bind fun x7=>bif zL (z.2.2.2.2.2.2.2.2.2.2.2.2.1.length + 1) 24 then (let y7:List (List qE):=(z.2.2.2.2.2.2.2.2.2.2.2.2.1++[[]])
      rec (.inl (z.1,z.2.1,z.2.2.1,(zA (z.2.2.2.1+1)),z.2.2.2.2.1,z.2.2.2.2.2.1,(x7.1,x7.2.2.1,x7.2.2.2.2),x7.2.1,x7.2.2.2.1,z.2.2.2.2.2.2.2.2.2.1,z.2.2.2.2.2.2.2.2.2.2.1,z.2.2.2.2.2.2.2.2.2.2.2.1,y7,z.2.2.2.2.2.2.2.2.2.2.2.2.2))) else none) else bif decide ((z.2.1.getD z.2.2.2.1.toNat (0, 0, [], 0, 0)).1 = 3) then ((nH k (z.2.2.2.2.2.2.1.1,z.2.2.2.2.2.2.2.1,z.2.2.2.2.2.2.1.2.1,z.2.2.2.2.2.2.2.2.1,z.2.2.2.2.2.2.1.2.2)).bind fun x8=>(fB k z.2.2.2.2.1 x8 z.1).bind fun x9=>match x9 with
     | .inl bZ => bif zL (z.2.2.2.2.2.2.2.2.2.2.2.2.1.length + 1) 24 then (let y8:List (List qE):=(z.2.2.2.2.2.2.2.2.2.2.2.2.1++[[]])
       rec (.inl (z.1,z.2.1,z.2.2.1,(zA (z.2.2.2.1+1)),z.2.2.2.2.1,z.2.2.2.2.2.1,(bZ.2.1.1,bZ.2.1.2.2.1,bZ.2.1.2.2.2.2),bZ.2.1.2.1,bZ.2.1.2.2.2.1,bZ.2.2.1,bZ.2.2.2,z.2.2.2.2.2.2.2.2.2.2.2.1,y8,z.2.2.2.2.2.2.2.2.2.2.2.2.2))) else none
     | .inr du => bif zL (z.2.2.2.2.2.2.2.2.2.2.2.2.1.length + 1) 24 then (let y9:List (List qE):=(z.2.2.2.2.2.2.2.2.2.2.2.2.1++[[]])
       rec (.inr (z.1,z.2.1,z.2.2.1,(zA (z.2.2.2.1+1)),z.2.2.2.2.1,z.2.2.2.2.2.1,(du.2.1,du.2.2.2.1,du.2.2.2.2.2),du.2.2.1,du.2.2.2.2.1,z.2.2.2.2.2.2.2.2.2.2.2.1,y9,z.2.2.2.2.2.2.2.2.2.2.2.2.2))) else none) else bif zL (z.2.2.2.2.2.2.2.2.2.2.2.2.1.length + 1) 24 then (let y10:List (List qE):=(z.2.2.2.2.2.2.2.2.2.2.2.2.1++[[]])
     rec (.inl (z.1,z.2.1,z.2.2.1,(zA (z.2.2.2.1+1)),(adB z (y10,z.2.2.2.2.2.2.2.2.2.2.2.2.2))))) else none) else none) else some (.inr (z.2.2.2.2.2.1,z.2.2.2.2.2.2.2.2.2.1,z.2.2.2.2.2.2.2.2.2.2.1,z.2.2.2.2.2.2.1,z.2.2.2.2.2.2.2.1,z.2.2.2.2.2.2.2.2.1,z.2.2.2.2.2.2.2.2.2.2.2.1,z.2.2.2.2.2.2.2.2.2.2.2.2.1,z.2.2.2.2.2.2.2.2.2.2.2.2.2))
 | .inr z1 => bif decide (z1.2.2.2.1 < z1.2.2.1) then (bif zB z1.2.2.2.1 z1.2.1.length then (bif decide ((z1.2.1.getD z1.2.2.2.1.toNat (0, 0, [], 0, 0)).1 = 1) then ((yK8 k (z1.2.1.getD z1.2.2.2.1.toNat (0,0,[],0,0)).2.1 (z1.2.1.getD z1.2.2.2.1.toNat (0,0,[],0,0)).2.2.1).bind fun dU=>(uy k (z1.2.1.getD z1.2.2.2.1.toNat (0,0,[],0,0)).2.2.1).bind fun mC=>bif decide (mC.2 = 0) then ((qYe k dU).bind fun oH=>bif !oH then (bif decide ((dU.length : Int) > 0) then (bif zL (z1.2.2.2.2.2.2.2.2.2.2.2.length + 1) 64 then (let y11:List qE:=(z1.2.2.2.2.2.2.2.2.2.2.2++[((z1.2.1.getD z1.2.2.2.1.toNat (0,0,[],0,0)).2.1,mC.1)])
         bif zL (z1.2.2.2.2.2.2.2.2.2.2.1.length + 1) 24 then (let y12:List (List qE):=(z1.2.2.2.2.2.2.2.2.2.2.1++[dU])
          rec (.inr (z1.1,z1.2.1,z1.2.2.1,(zA (z1.2.2.2.1+1)),(Io z1 (y12,y11))))) else none) else none)
       else(MY k).bind fun bO=>bif !bO then (bif zL (z1.2.2.2.2.2.2.2.2.2.2.2.length + 1) 64 then (let y13:List qE:=(z1.2.2.2.2.2.2.2.2.2.2.2++[((z1.2.1.getD z1.2.2.2.1.toNat (0,0,[],0,0)).2.1,mC.1)])
         bif zL (z1.2.2.2.2.2.2.2.2.2.2.1.length + 1) 24 then (let y14:List (List qE):=(z1.2.2.2.2.2.2.2.2.2.2.1++[dU])
          rec (.inr (z1.1,z1.2.1,z1.2.2.1,(zA (z1.2.2.2.1+1)),(Io z1 (y14,y13))))) else none) else none) else bif zL (z1.2.2.2.2.2.2.2.2.2.2.1.length + 1) 24 then (let y15:List (List qE):=(z1.2.2.2.2.2.2.2.2.2.2.1++[dU])
        rec (.inr (z1.1,z1.2.1,z1.2.2.1,(zA (z1.2.2.2.1+1)),(Io z1 (y15,z1.2.2.2.2.2.2.2.2.2.2.2))))) else none) else bif zL (z1.2.2.2.2.2.2.2.2.2.2.1.length + 1) 24 then (let y16:List (List qE):=(z1.2.2.2.2.2.2.2.2.2.2.1++[dU])
       rec (.inr (z1.1,z1.2.1,z1.2.2.1,(zA (z1.2.2.2.1+1)),(Io z1 (y16,z1.2.2.2.2.2.2.2.2.2.2.2))))) else none) else bif zL (z1.2.2.2.2.2.2.2.2.2.2.1.length + 1) 24 then (let y17:List (List qE):=(z1.2.2.2.2.2.2.2.2.2.2.1++[dU])
      rec (.inr (z1.1,z1.2.1,z1.2.2.1,(zA (z1.2.2.2.1+1)),(Io z1 (y17,z1.2.2.2.2.2.2.2.2.2.2.2))))) else none) else bif decide ((z1.2.1.getD z1.2.2.2.1.toNat (0, 0, [], 0, 0)).1 = 2) then ((RZ k (z1.2.2.2.2.2.2.1.1,z1.2.2.2.2.2.2.2.1,z1.2.2.2.2.2.2.1.2.1,z1.2.2.2.2.2.2.2.2.1,z1.2.2.2.2.2.2.1.2.2) (z1.2.1.getD z1.2.2.2.1.toNat (0,0,[],0,0)).2.2.2).bind fun gP=>bif zL (z1.2.2.2.2.2.2.2.2.2.2.1.length + 1) 24 then (let y18:List (List qE):=(z1.2.2.2.2.2.2.2.2.2.2.1++[[]])
      rec (.inr (z1.1,z1.2.1,z1.2.2.1,(zA (z1.2.2.2.1+1)),z1.2.2.2.2.1,z1.2.2.2.2.2.1,(gP.1,gP.2.2.1,gP.2.2.2.2),gP.2.1,gP.2.2.2.1,z1.2.2.2.2.2.2.2.2.2.1,y18,z1.2.2.2.2.2.2.2.2.2.2.2))) else none) else bif decide ((z1.2.1.getD z1.2.2.2.1.toNat (0, 0, [], 0, 0)).1 = 3) then ((nH k (z1.2.2.2.2.2.2.1.1,z1.2.2.2.2.2.2.2.1,z1.2.2.2.2.2.2.1.2.1,z1.2.2.2.2.2.2.2.2.1,z1.2.2.2.2.2.2.1.2.2)).bind fun eH=>(fB k z1.2.2.2.2.1 eH z1.1).bind fun mD=>match mD with
     | .inl je => bif zL (z1.2.2.2.2.2.2.2.2.2.2.1.length + 1) 24 then (let y19:List (List qE):=(z1.2.2.2.2.2.2.2.2.2.2.1++[[]])
       rec (.inl (z1.1,z1.2.1,z1.2.2.1,(zA (z1.2.2.2.1+1)),z1.2.2.2.2.1,z1.2.2.2.2.2.1,(je.2.1.1,je.2.1.2.2.1,je.2.1.2.2.2.2),je.2.1.2.1,je.2.1.2.2.2.1,je.2.2.1,je.2.2.2,z1.2.2.2.2.2.2.2.2.2.1,y19,z1.2.2.2.2.2.2.2.2.2.2.2))) else none
     | .inr eI => bif zL (z1.2.2.2.2.2.2.2.2.2.2.1.length + 1) 24 then (let y20:List (List qE):=(z1.2.2.2.2.2.2.2.2.2.2.1++[[]])
       rec (.inr (z1.1,z1.2.1,z1.2.2.1,(zA (z1.2.2.2.1+1)),z1.2.2.2.2.1,z1.2.2.2.2.2.1,(eI.2.1,eI.2.2.2.1,eI.2.2.2.2.2),eI.2.2.1,eI.2.2.2.2.1,z1.2.2.2.2.2.2.2.2.2.1,y20,z1.2.2.2.2.2.2.2.2.2.2.2))) else none) else bif zL (z1.2.2.2.2.2.2.2.2.2.2.1.length + 1) 24 then (let y21:List (List qE):=(z1.2.2.2.2.2.2.2.2.2.2.1++[[]])
     rec (.inr (z1.1,z1.2.1,z1.2.2.1,(zA (z1.2.2.2.1+1)),(Io z1 (y21,z1.2.2.2.2.2.2.2.2.2.2.2))))) else none) else none) else some (.inl (z1.2.2.2.2.2.1,z1.2.2.2.2.2.2.2.2.2.1,z1.2.2.2.2.2.2.2.2.2.2.1,z1.2.2.2.2.2.2.2.2.2.2.2))
def Sw (k:Nat):Nat→qT2:=yD (fun _=>none) (yD8 k)
def yK1 (k:Nat)(a0:vF)(a1 a2:Int)(a3:List oL):Option ((List (List qE))×(List qE)×Int×(List zJ)×EQ×AC×EQ×AC×EQ×(List zC)×AC×Int×Bool×Bool):=
 (Q5 k a1).bind fun x0=>(fB k a0 x0 a2).bind fun x1=>match x1 with
 |.inl x2=>bif !(decide (x2.1=0)) then some ([],[],0,[],[],[],[],[],[],[],[],0,false,false)
  else(Sw k k (.inl (a2,a3,(a3.length:Int),0,a0,(0,0,false,false),(x2.2.1.1,x2.2.1.2.2.1,x2.2.1.2.2.2.2),x2.2.1.2.1,x2.2.1.2.2.2.1,x2.2.2.1,x2.2.2.2,(0,0,false,false),[],[]))).bind fun z2=>match z2 with
  |.inl z3=>(qNr k).bind fun lK=>(MY k).bind fun mE=>some (z3.2.2.1,z3.2.2.2,(vT lK (!mE)))
  |.inr z4=>(vP k z4.2.1 z4.2.2.1 (z4.2.2.2.1.1,z4.2.2.2.2.1,z4.2.2.2.1.2.1,z4.2.2.2.2.2.1,z4.2.2.2.1.2.2)).bind fun mF=>(lk k mF.2.1 mF.2.2.1 mF.2.2.2).bind fun Mv=>some (z4.2.2.2.2.2.2.2.1,z4.2.2.2.2.2.2.2.2,(vT mF.1 (!Mv.1)))
 |.inr lL=>bif !(decide (lL.1=0)) then some ([],[],0,[],[],[],[],[],[],[],[],0,false,false)
  else(Sw k k (.inr (a2,a3,(a3.length:Int),0,a0,(0,0,false,false),(lL.2.1,lL.2.2.2.1,lL.2.2.2.2.2),lL.2.2.1,lL.2.2.2.2.1,(0,0,false,false),[],[]))).bind fun z5=>match z5 with
  |.inl z6=>(qNr k).bind fun CW=>(MY k).bind fun tx=>some (z6.2.2.1,z6.2.2.2,(vT CW (!tx)))
  |.inr z7=>(vP k z7.2.1 z7.2.2.1 (z7.2.2.2.1.1,z7.2.2.2.2.1,z7.2.2.2.1.2.1,z7.2.2.2.2.2.1,z7.2.2.2.1.2.2)).bind fun Ip=>(lk k Ip.2.1 Ip.2.2.1 Ip.2.2.2).bind fun x29=>some (z7.2.2.2.2.2.2.2.1,z7.2.2.2.2.2.2.2.2,(vT Ip.1 (!x29.1)))
def qSn (k:Nat):Option Bool:=
 (Mt k 0).bind fun x0=>(MW k 0 1 [1,1,5,3,0,19]).bind fun x1=>(MX k x1).bind fun x2=>(MW k 1 1 [2,2,5,3,0,19]).bind fun x3=>(MX k x3).bind fun x4=>(MW k 2 1 [3,0,5,3,0,19]).bind fun x5=>(MX k x5).bind fun x6=>(MW k (-1) 13 []).bind fun x7=>(MX k x7).bind fun x8=>(yK1 k x0 50000 10 [x2,x4,x6,x8]).bind fun x9=>bif x9.2.2.2.2.2.2.2.2.2.2.2.2.2 then (bif decide ((x9.1.length : Int) = 4) then (bif zB 3 x9.1.length then (bif decide (((x9.1.getD 3 []).length:Int)=6) then some (decide ((x9.2.2.2.2.2.2.2.2.2.1.length:Int)=0)) else some false) else none) else some false) else some false
abbrev H2:Type:=Int→List oL→Int→(Int×Int×Int×Int)→List wD→tw→AC→AC→nK→fV→yG→Option (Unit⊕Bool)
def H3 (k:Nat)(rec:H2)(s1:Int)(s2:List oL)(bB:Int)(b0:(Int×Int×Int×Int))(r1:List wD)(b2:tw)(r3 r4:AC)(b5:nK)(b6:fV)(b7:yG):Option (Unit⊕Bool):=
 bif decide (bB < (s2.length : Int)) then (bif zB bB s2.length then (bif decide ((s2.getD bB.toNat (0, 0, [], 0, 0)).1 = 2) then ((RZ k (b2.1,r3,b2.2.1,r4,b2.2.2) (s2.getD bB.toNat (0,0,[],0,0)).2.2.2).bind fun x6=>rec s1 s2 (zA (bB+1)) b0 r1 (x6.1,x6.2.2.1,x6.2.2.2.2) x6.2.1 x6.2.2.2.1 b5 b6 b7) else bif decide ((s2.getD bB.toNat (0, 0, [], 0, 0)).1 = 1) then ((Mn k b5 b6 (b2.1,r3,b2.2.1,r4,b2.2.2) (s2.getD bB.toNat (0,0,[],0,0)).2.1 (s2.getD bB.toNat (0,0,[],0,0)).2.2.1).bind fun x7=>(JQ k (s2.getD bB.toNat (0,0,[],0,0)).2.2.1).bind fun x8=>bif decide (x8.2 = 0) then ((LR k (b0.1,r1,b0.2) b7 ((s2.getD bB.toNat (0,0,[],0,0)).2.1,x8.1)).bind fun x9=>bif decide ((x7.1.length : Int) > 0) then ((lk k x7.2.1 x7.2.2.1 x7.2.2.2).bind fun bZ=>bif !bZ.1 then ((vP k bZ.2.1 bZ.2.2.1 bZ.2.2.2).bind fun du=>(jN k du.1 x9.1).bind fun dU=>bif !dU then some (.inr false) else rec s1 s2 (zA (bB+1)) b0 r1 (du.2.2.2.1,du.2.2.2.2.2.1,du.2.2.2.2.2.2.2) du.2.2.2.2.1 du.2.2.2.2.2.2.1 du.2.1 du.2.2.1 x9.1)
      else(nH k bZ.2.2.2).bind fun mC=>(fB k (b0.1,r1,b0.2) mC s1).bind fun oH=>match oH with
      |.inl bO=>bif !(decide (bO.1=0)) then some (.inr false)
       else(vP k bO.2.2.1 bO.2.2.2 bO.2.1).bind fun gP=>(jN k gP.1 x9.1).bind fun eH=>bif !eH then ((vP k gP.2.1 gP.2.2.1 gP.2.2.2).bind fun mD=>(jN k mD.1 x9.1).bind fun je=>bif !je then some (.inr false)
        else(vP k mD.2.1 mD.2.2.1 mD.2.2.2).bind fun eI=>(jc k eI.1).bind fun lK=>rec s1 s2 (zA (bB+1)) b0 r1 (eI.2.2.2.1,eI.2.2.2.2.2.1,eI.2.2.2.2.2.2.2) eI.2.2.2.2.1 eI.2.2.2.2.2.2.1 eI.2.1 eI.2.2.1 lK)
       else(vP k gP.2.1 gP.2.2.1 gP.2.2.2).bind fun mE=>(jc k mE.1).bind fun mF=>rec s1 s2 (zA (bB+1)) b0 r1 (mE.2.2.2.1,mE.2.2.2.2.2.1,mE.2.2.2.2.2.2.2) mE.2.2.2.2.1 mE.2.2.2.2.2.2.1 mE.2.1 mE.2.2.1 mF
      |.inr Mv=>bif !(decide (Mv.1=0)) then some (.inr false) else some (.inr false))
     else(lk k x7.2.1 x7.2.2.1 x7.2.2.2).bind fun lL=>bif !lL.1 then ((lk k lL.2.1 lL.2.2.1 lL.2.2.2).bind fun CW=>bif !CW.1 then ((vP k CW.2.1 CW.2.2.1 CW.2.2.2).bind fun tx=>(jN k tx.1 x9.1).bind fun Ip=>bif !Ip then some (.inr false) else rec s1 s2 (zA (bB+1)) b0 r1 (tx.2.2.2.1,tx.2.2.2.2.2.1,tx.2.2.2.2.2.2.2) tx.2.2.2.2.1 tx.2.2.2.2.2.2.1 tx.2.1 tx.2.2.1 x9.1)
      else(nH k CW.2.2.2).bind fun x29=>(fB k (b0.1,r1,b0.2) x29 s1).bind fun x30=>match x30 with
      |.inl SA=>bif !(decide (SA.1=0)) then some (.inr false)
       else(vP k SA.2.2.1 SA.2.2.2 SA.2.1).bind fun CX=>(jN k CX.1 x9.1).bind fun x33=>bif !x33 then ((vP k CX.2.1 CX.2.2.1 CX.2.2.2).bind fun SB=>(jN k SB.1 x9.1).bind fun x35=>bif !x35 then some (.inr false)
        else(vP k SB.2.1 SB.2.2.1 SB.2.2.2).bind fun zl=>(jc k zl.1).bind fun x37=>rec s1 s2 (zA (bB+1)) b0 r1 (zl.2.2.2.1,zl.2.2.2.2.2.1,zl.2.2.2.2.2.2.2) zl.2.2.2.2.1 zl.2.2.2.2.2.2.1 zl.2.1 zl.2.2.1 x37)
       else(vP k CX.2.1 CX.2.2.1 CX.2.2.2).bind fun zm=>(jc k zm.1).bind fun x39=>rec s1 s2 (zA (bB+1)) b0 r1 (zm.2.2.2.1,zm.2.2.2.2.2.1,zm.2.2.2.2.2.2.2) zm.2.2.2.2.1 zm.2.2.2.2.2.2.1 zm.2.1 zm.2.2.1 x39
      |.inr x40=>bif !(decide (x40.1=0)) then some (.inr false) else some (.inr false))
     else(lk k lL.2.1 lL.2.2.1 lL.2.2.2).bind fun M3=>bif !M3.1 then ((vP k M3.2.1 M3.2.2.1 M3.2.2.2).bind fun zn=>(jN k zn.1 b7).bind fun x43=>bif !x43 then some (.inr false) else rec s1 s2 (zA (bB+1)) b0 r1 (zn.2.2.2.1,zn.2.2.2.2.2.1,zn.2.2.2.2.2.2.2) zn.2.2.2.2.1 zn.2.2.2.2.2.2.1 zn.2.1 zn.2.2.1 b7)
     else(nH k M3.2.2.2).bind fun x44=>(fB k (b0.1,r1,b0.2) x44 s1).bind fun x45=>match x45 with
     |.inl SC=>bif !(decide (SC.1=0)) then some (.inr false)
      else(vP k SC.2.2.1 SC.2.2.2 SC.2.1).bind fun CY=>(jN k CY.1 b7).bind fun x48=>bif !x48 then ((vP k CY.2.1 CY.2.2.1 CY.2.2.2).bind fun SD=>(jN k SD.1 x9.1).bind fun x50=>bif !x50 then some (.inr false)
       else(vP k SD.2.1 SD.2.2.1 SD.2.2.2).bind fun zo=>(jc k zo.1).bind fun x52=>rec s1 s2 (zA (bB+1)) b0 r1 (zo.2.2.2.1,zo.2.2.2.2.2.1,zo.2.2.2.2.2.2.2) zo.2.2.2.2.1 zo.2.2.2.2.2.2.1 zo.2.1 zo.2.2.1 x52)
      else(vP k CY.2.1 CY.2.2.1 CY.2.2.2).bind fun zp=>(jc k zp.1).bind fun x54=>rec s1 s2 (zA (bB+1)) b0 r1 (zp.2.2.2.1,zp.2.2.2.2.2.1,zp.2.2.2.2.2.2.2) zp.2.2.2.2.1 zp.2.2.2.2.2.2.1 zp.2.1 zp.2.2.1 x54
     |.inr x55=>bif !(decide (x55.1=0)) then some (.inr false) else some (.inr false)) else bif decide ((x7.1.length : Int) > 0) then ((lk k x7.2.1 x7.2.2.1 x7.2.2.2).bind fun M4=>bif !M4.1 then ((vP k M4.2.1 M4.2.2.1 M4.2.2.2).bind fun zq=>(jN k zq.1 b7).bind fun x58=>bif !x58 then some (.inr false) else rec s1 s2 (zA (bB+1)) b0 r1 (zq.2.2.2.1,zq.2.2.2.2.2.1,zq.2.2.2.2.2.2.2) zq.2.2.2.2.1 zq.2.2.2.2.2.2.1 zq.2.1 zq.2.2.1 b7)
     else(nH k M4.2.2.2).bind fun x59=>(fB k (b0.1,r1,b0.2) x59 s1).bind fun x60=>match x60 with
     |.inl SE=>bif !(decide (SE.1=0)) then some (.inr false)
      else(vP k SE.2.2.1 SE.2.2.2 SE.2.1).bind fun CZ=>(jN k CZ.1 b7).bind fun x63=>bif !x63 then ((vP k CZ.2.1 CZ.2.2.1 CZ.2.2.2).bind fun SF=>(jN k SF.1 b7).bind fun x65=>bif !x65 then some (.inr false)
       else(vP k SF.2.1 SF.2.2.1 SF.2.2.2).bind fun zr=>(jc k zr.1).bind fun x67=>rec s1 s2 (zA (bB+1)) b0 r1 (zr.2.2.2.1,zr.2.2.2.2.2.1,zr.2.2.2.2.2.2.2) zr.2.2.2.2.1 zr.2.2.2.2.2.2.1 zr.2.1 zr.2.2.1 x67)
      else(vP k CZ.2.1 CZ.2.2.1 CZ.2.2.2).bind fun zt=>(jc k zt.1).bind fun x69=>rec s1 s2 (zA (bB+1)) b0 r1 (zt.2.2.2.1,zt.2.2.2.2.2.1,zt.2.2.2.2.2.2.2) zt.2.2.2.2.1 zt.2.2.2.2.2.2.1 zt.2.1 zt.2.2.1 x69
     |.inr x70=>bif !(decide (x70.1=0)) then some (.inr false) else some (.inr false))
    else(lk k x7.2.1 x7.2.2.1 x7.2.2.2).bind fun C3=>bif !C3.1 then ((lk k C3.2.1 C3.2.2.1 C3.2.2.2).bind fun M5=>bif !M5.1 then ((vP k M5.2.1 M5.2.2.1 M5.2.2.2).bind fun zu=>(jN k zu.1 b7).bind fun x74=>bif !x74 then some (.inr false) else rec s1 s2 (zA (bB+1)) b0 r1 (zu.2.2.2.1,zu.2.2.2.2.2.1,zu.2.2.2.2.2.2.2) zu.2.2.2.2.1 zu.2.2.2.2.2.2.1 zu.2.1 zu.2.2.1 b7)
     else(nH k M5.2.2.2).bind fun x75=>(fB k (b0.1,r1,b0.2) x75 s1).bind fun x76=>match x76 with
     |.inl SG=>bif !(decide (SG.1=0)) then some (.inr false)
      else(vP k SG.2.2.1 SG.2.2.2 SG.2.1).bind fun C4=>(jN k C4.1 b7).bind fun x79=>bif !x79 then ((vP k C4.2.1 C4.2.2.1 C4.2.2.2).bind fun SH=>(jN k SH.1 b7).bind fun x81=>bif !x81 then some (.inr false)
       else(vP k SH.2.1 SH.2.2.1 SH.2.2.2).bind fun zv=>(jc k zv.1).bind fun x83=>rec s1 s2 (zA (bB+1)) b0 r1 (zv.2.2.2.1,zv.2.2.2.2.2.1,zv.2.2.2.2.2.2.2) zv.2.2.2.2.1 zv.2.2.2.2.2.2.1 zv.2.1 zv.2.2.1 x83)
      else(vP k C4.2.1 C4.2.2.1 C4.2.2.2).bind fun zw=>(jc k zw.1).bind fun x85=>rec s1 s2 (zA (bB+1)) b0 r1 (zw.2.2.2.1,zw.2.2.2.2.2.1,zw.2.2.2.2.2.2.2) zw.2.2.2.2.1 zw.2.2.2.2.2.2.1 zw.2.1 zw.2.2.1 x85
     |.inr x86=>bif !(decide (x86.1=0)) then some (.inr false) else some (.inr false))
    else(lk k C3.2.1 C3.2.2.1 C3.2.2.2).bind fun M6=>bif !M6.1 then ((vP k M6.2.1 M6.2.2.1 M6.2.2.2).bind fun zx=>(jN k zx.1 b7).bind fun x89=>bif !x89 then some (.inr false) else rec s1 s2 (zA (bB+1)) b0 r1 (zx.2.2.2.1,zx.2.2.2.2.2.1,zx.2.2.2.2.2.2.2) zx.2.2.2.2.1 zx.2.2.2.2.2.2.1 zx.2.1 zx.2.2.1 b7)
    else(nH k M6.2.2.2).bind fun x90=>(fB k (b0.1,r1,b0.2) x90 s1).bind fun x91=>match x91 with
    |.inl SI=>bif !(decide (SI.1=0)) then some (.inr false)
     else(vP k SI.2.2.1 SI.2.2.2 SI.2.1).bind fun C5=>(jN k C5.1 b7).bind fun x94=>bif !x94 then ((vP k C5.2.1 C5.2.2.1 C5.2.2.2).bind fun SJ=>(jN k SJ.1 b7).bind fun x96=>bif !x96 then some (.inr false)
      else(vP k SJ.2.1 SJ.2.2.1 SJ.2.2.2).bind fun zy=>(jc k zy.1).bind fun x98=>rec s1 s2 (zA (bB+1)) b0 r1 (zy.2.2.2.1,zy.2.2.2.2.2.1,zy.2.2.2.2.2.2.2) zy.2.2.2.2.1 zy.2.2.2.2.2.2.1 zy.2.1 zy.2.2.1 x98)
     else(vP k C5.2.1 C5.2.2.1 C5.2.2.2).bind fun zz=>(jc k zz.1).bind fun adC=>rec s1 s2 (zA (bB+1)) b0 r1 (zz.2.2.2.1,zz.2.2.2.2.2.1,zz.2.2.2.2.2.2.2) zz.2.2.2.2.1 zz.2.2.2.2.2.2.1 zz.2.1 zz.2.2.1 adC
    |.inr adD=>bif !(decide (adD.1=0)) then some (.inr false) else some (.inr false))
   else(lk k b5 b6 (b2.1,r3,b2.2.1,r4,b2.2.2)).bind fun rN=>bif !rN.1 then ((vP k rN.2.1 rN.2.2.1 rN.2.2.2).bind fun lq=>(jN k lq.1 b7).bind fun adE=>bif !adE then some (.inr false) else rec s1 s2 (zA (bB+1)) b0 r1 (lq.2.2.2.1,lq.2.2.2.2.2.1,lq.2.2.2.2.2.2.2) lq.2.2.2.2.1 lq.2.2.2.2.2.2.1 lq.2.1 lq.2.2.1 b7)
   else(nH k rN.2.2.2).bind fun adF=>(fB k (b0.1,r1,b0.2) adF s1).bind fun adG=>match adG with
   |.inl vt=>bif !(decide (vt.1=0)) then some (.inr false)
    else(vP k vt.2.2.1 vt.2.2.2 vt.2.1).bind fun mM=>(jN k mM.1 b7).bind fun adH=>bif !adH then ((vP k mM.2.1 mM.2.2.1 mM.2.2.2).bind fun vu=>(jN k vu.1 b7).bind fun adI=>bif !adI then some (.inr false)
     else(vP k vu.2.1 vu.2.2.1 vu.2.2.2).bind fun lr=>(jc k lr.1).bind fun adJ=>rec s1 s2 (zA (bB+1)) b0 r1 (lr.2.2.2.1,lr.2.2.2.2.2.1,lr.2.2.2.2.2.2.2) lr.2.2.2.2.1 lr.2.2.2.2.2.2.1 lr.2.1 lr.2.2.1 adJ)
    else(vP k mM.2.1 mM.2.2.1 mM.2.2.2).bind fun lu=>(jc k lu.1).bind fun adK=>rec s1 s2 (zA (bB+1)) b0 r1 (lu.2.2.2.1,lu.2.2.2.2.2.1,lu.2.2.2.2.2.2.2) lu.2.2.2.2.1 lu.2.2.2.2.2.2.1 lu.2.1 lu.2.2.1 adK
   |.inr adL=>bif !(decide (adL.1=0)) then some (.inr false) else some (.inr false)) else none) else some (.inl ())
def H4 (k:Nat):Nat→H2:=yD (fun _ _ _ _ _ _ _ _ _ _ _=>none) (H3 k)
def Q9 (k:Nat)(a0 a1:Int)(a2:List oL):Option Bool:=
 (Q8 k a2).bind fun x0=>bif x0 then some true else bif decide ((a2.length:Int)>50) then some true else bif decide (a1<1) then some true else bif decide (a1>50) then some true
 else(Mt k a0).bind fun x1=>(Q5 k 200000).bind fun x2=>(fB k x1 x2 a1).bind fun x3=>match x3 with
 |.inl x4=>bif !(decide (x4.1=0)) then some false
  else(qTy k x1).bind fun x5=>(H4 k k a1 a2 0 (x1.1,x1.2.2) x1.2.1 (x4.2.1.1,x4.2.1.2.2.1,x4.2.1.2.2.2.2) x4.2.1.2.1 x4.2.1.2.2.2.1 x4.2.2.1 x4.2.2.2 x5).bind fun z=>match z with
  |.inl z1=>(qSn k).bind fun adM=>some adM
  |.inr z2=>some z2
 |.inr adN=>bif !(decide (adN.1=0)) then some false else some false
end Go.Ab.Gi
