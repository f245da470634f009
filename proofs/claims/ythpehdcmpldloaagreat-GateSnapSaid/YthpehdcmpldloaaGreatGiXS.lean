/- part 5 -/
import Derived.Test.YthpehdcmpldloaaGreatGiXSa
set_option linter.unusedVariables false
set_option maxRecDepth 100000
namespace Go.Ab.Gi
abbrev qO1:Type:=zC⊕(Bool×Int×Int×Int×Int×Int×Int×Int)
abbrev qM1:Type:=Int→List zI→EQ→AC→EQ→Int→Int→Int→Int→Int→Int→Int→List zC→Option qO1
def F9 (k:Nat)(rec:qM1)(s9:Int)(af:List zI)(ah:EQ)(ai:AC)(ag:EQ)(av aA aB aD aG aH aI:Int)(r2:List zC):Option qO1:=
 bif decide (s9 < (r2.length : Int)) then (bif ((decide (0 ≤ s9)) && (decide (s9 ≤ (zA (s9 + 1))))) && (decide ((zA (s9 + 1)) ≤ (r2.length : Int))) then ((uc k af ah ai ag (qR r2 (0+s9.toNat) ((zA (s9+1)).toNat-s9.toNat))).bind fun x1=>
   bif x1.2.2.2.2 then (bif zB s9 r2.length then some (.inr (true,(r2.getD s9.toNat (0,0,0,0,0,0,0)).1,(r2.getD s9.toNat (0,0,0,0,0,0,0)).2.1,(r2.getD s9.toNat (0,0,0,0,0,0,0)).2.2.1,(r2.getD s9.toNat (0,0,0,0,0,0,0)).2.2.2.1,(r2.getD s9.toNat (0,0,0,0,0,0,0)).2.2.2.2.1,(r2.getD s9.toNat (0,0,0,0,0,0,0)).2.2.2.2.2.1,(r2.getD s9.toNat (0,0,0,0,0,0,0)).2.2.2.2.2.2))
    else none)
   else rec (zA (s9+1)) af ah ai ag av aA aB aD aG aH aI r2)
  else none)
 else some (.inl (av,aA,aB,aD,aG,aH,aI))
def KA (k:Nat):Nat→qM1
 |0,_,_,_,_,_,_,_,_,_,_,_,_,_=>none
 |n+1,s9,af,ah,ai,ag,av,aA,aB,aD,aG,aH,aI,r2=>F9 k (KA k n) s9 af ah ai ag av aA aB aD aG aH aI r2
def Pc (k:Nat)(au:List zI)(az:EQ)(ay:AC)(ax:EQ)(a1:List zC)(a2:Int):Option (Int×Int×Int×Int×Int×Int×Int×Bool):=
 (Jn k a1 a2).bind fun x0=>
 (KA k k 0 au az ay ax 0 0 0 0 0 0 0 x0).bind fun z=>
 match z with
 |.inl z1=>some (0,0,0,0,0,0,0,false)
 |.inr z2=>some (yGz z2 z2.1)
abbrev qUx:Type:=List zC→Int→List zI→EQ→AC→EQ→List zC→Option yA0
def Ga (k:Nat)(rec:qUx)(s1:List zC)(s2:Int)(af:List zI)(ah:EQ)(ai:AC)(ag:EQ)(r2:List zC):Option yA0:=
 (Pc k af ah ai ag s1 s2).bind fun x0=>
 bif !x0.2.2.2.2.2.2.2 then some (s1,af,ah,ai,ag,r2)
 else(uc k af ah ai ag [(wF x0)]).bind fun x1=>
 (nu k s1 x0.1).bind fun x2=>
 bif zN (r2.length + 1) 56 then (let y0:List zC:=(r2++[(wF x0)])
  rec x2.1 s2 x1.1 x1.2.1 x1.2.2.1 x1.2.2.2.1 y0)
 else none
def KB (k:Nat):Nat→qUx
 |0,_,_,_,_,_,_,_=>none
 |n+1,s1,s2,af,ah,ai,ag,r2=>Ga k (KB k n) s1 s2 af ah ai ag r2
def Pd (k:Nat)(au:List zI)(az:EQ)(ay:AC)(ax:EQ)(a1:List zC)(a2:Int):Option sd:=
 (KB k k a1 a2 au az ay ax []).bind fun z=>
 some (ij z (z.1,z.2.2.2.2.2))
abbrev qLp:Type:=(Int×(List zI)×EQ×AC×EQ×Int×Int×Int×Int×Int×Int×Int×Int×Int×Int×Int×Int×Int×Int×(List zC))⊕(Bool×Int×Int×Int×Int×Int×Int×Int×Int×Int×Int×Int×Int×Int×Int)
abbrev yAr:Type:=Int→Int→List zI→EQ→AC→EQ→Int→Int→Int→Int→Int→Int→Int→Int→Int→Int→Int→Int→Int→Int→List zC→Option qLp
def Gc (k:Nat)(rec:yAr)(aw aN:Int)(af:List zI)(ah:EQ)(ai:AC)(ag:EQ)(av aA aB aD aG aH aI ba bS bT cS eQ eS eW:Int)(r3:List zC):Option qLp:=
 bif decide (aN < (r3.length : Int)) then (bif zB aw r3.length then (bif zB aN r3.length then (bif !(decide ((r3.getD aN.toNat (0,0,0,0,0,0,0)).2.1=(r3.getD aw.toNat (0,0,0,0,0,0,0)).2.2.1)) then(rec aw (zA (aN+1)) af ah ai ag av aA aB aD aG aH aI ba bS bT cS eQ eS eW r3)
    else bif !(decide ((r3.getD aN.toNat (0,0,0,0,0,0,0)).2.2.1=(r3.getD aw.toNat (0,0,0,0,0,0,0)).2.1)) then(rec aw (zA (aN+1)) af ah ai ag av aA aB aD aG aH aI ba bS bT cS eQ eS eW r3)
    else bif decide ((r3.getD aw.toNat (0,0,0,0,0,0,0)).2.1≥(r3.getD aN.toNat (0,0,0,0,0,0,0)).2.1) then(rec aw (zA (aN+1)) af ah ai ag av aA aB aD aG aH aI ba bS bT cS eQ eS eW r3)
    else(uc k af ah ai ag [(r3.getD aw.toNat (0,0,0,0,0,0,0)),(r3.getD aN.toNat (0,0,0,0,0,0,0))]).bind fun x1=>
    bif x1.2.2.2.2 then some (.inr (true,(ie (r3.getD aw.toNat (0,0,0,0,0,0,0)) ((r3.getD aN.toNat (0,0,0,0,0,0,0)).1,(r3.getD aN.toNat (0,0,0,0,0,0,0)).2.1,(r3.getD aN.toNat (0,0,0,0,0,0,0)).2.2.1,(r3.getD aN.toNat (0,0,0,0,0,0,0)).2.2.2.1,(r3.getD aN.toNat (0,0,0,0,0,0,0)).2.2.2.2.1,(r3.getD aN.toNat (0,0,0,0,0,0,0)).2.2.2.2.2.1,(r3.getD aN.toNat (0,0,0,0,0,0,0)).2.2.2.2.2.2))))
    else rec aw (zA (aN+1)) af ah ai ag av aA aB aD aG aH aI ba bS bT cS eQ eS eW r3)
   else none)
  else none)
 else some (.inl (aw,af,ah,ai,ag,av,aA,aB,aD,aG,aH,aI,ba,bS,bT,cS,eQ,eS,eW,r3))
def KD (k:Nat):Nat→yAr
 |0,_,_,_,_,_,_,_,_,_,_,_,_,_,_,_,_,_,_,_,_,_=>none
 |n+1,aw,aN,af,ah,ai,ag,av,aA,aB,aD,aG,aH,aI,ba,bS,bT,cS,eQ,eS,eW,r3=>Gc k (KD k n) aw aN af ah ai ag av aA aB aD aG aH aI ba bS bT cS eQ eS eW r3
abbrev qZv:Type:=(Int×Int×Int×Int×Int×Int×Int×Int×Int×Int×Int×Int×Int×Int)⊕(Bool×Int×Int×Int×Int×Int×Int×Int×Int×Int×Int×Int×Int×Int×Int)
abbrev yA3:Type:=Int→List zI→EQ→AC→EQ→Int→Int→Int→Int→Int→Int→Int→Int→Int→Int→Int→Int→Int→Int→List zC→Option qZv
def Gd (k:Nat)(rec:yA3)(aw:Int)(af:List zI)(ah:EQ)(ai:AC)(ag:EQ)(av aA aB aD aG aH aI ba bS bT cS eQ eS eW:Int)(r3:List zC):Option qZv:=
 bif decide (aw < (r3.length : Int)) then ((KD k k aw 0 af ah ai ag av aA aB aD aG aH aI ba bS bT cS eQ eS eW r3).bind fun z=>
  match z with
  |.inl z1=>rec (zA (z1.1+1)) z1.2.1 z1.2.2.1 z1.2.2.2.1 z1.2.2.2.2.1 z1.2.2.2.2.2.1 z1.2.2.2.2.2.2.1 z1.2.2.2.2.2.2.2.1 z1.2.2.2.2.2.2.2.2.1 z1.2.2.2.2.2.2.2.2.2.1 z1.2.2.2.2.2.2.2.2.2.2.1 z1.2.2.2.2.2.2.2.2.2.2.2.1 z1.2.2.2.2.2.2.2.2.2.2.2.2.1 z1.2.2.2.2.2.2.2.2.2.2.2.2.2.1 z1.2.2.2.2.2.2.2.2.2.2.2.2.2.2.1 z1.2.2.2.2.2.2.2.2.2.2.2.2.2.2.2.1 z1.2.2.2.2.2.2.2.2.2.2.2.2.2.2.2.2.1 z1.2.2.2.2.2.2.2.2.2.2.2.2.2.2.2.2.2.1 z1.2.2.2.2.2.2.2.2.2.2.2.2.2.2.2.2.2.2.1 z1.2.2.2.2.2.2.2.2.2.2.2.2.2.2.2.2.2.2.2
  |.inr z2=>some (.inr (z2.1,z2.2.1,z2.2.2.1,z2.2.2.2.1,z2.2.2.2.2.1,z2.2.2.2.2.2.1,z2.2.2.2.2.2.2.1,z2.2.2.2.2.2.2.2.1,z2.2.2.2.2.2.2.2.2.1,z2.2.2.2.2.2.2.2.2.2.1,z2.2.2.2.2.2.2.2.2.2.2.1,z2.2.2.2.2.2.2.2.2.2.2.2.1,z2.2.2.2.2.2.2.2.2.2.2.2.2.1,z2.2.2.2.2.2.2.2.2.2.2.2.2.2.1,z2.2.2.2.2.2.2.2.2.2.2.2.2.2.2)))
 else some (.inl (av,aA,aB,aD,aG,aH,aI,ba,bS,bT,cS,eQ,eS,eW))
def KE (k:Nat):Nat→yA3
 |0,_,_,_,_,_,_,_,_,_,_,_,_,_,_,_,_,_,_,_,_=>none
 |n+1,aw,af,ah,ai,ag,av,aA,aB,aD,aG,aH,aI,ba,bS,bT,cS,eQ,eS,eW,r3=>Gd k (KE k n) aw af ah ai ag av aA aB aD aG aH aI ba bS bT cS eQ eS eW r3
def Pe (k:Nat)(au:List zI)(az:EQ)(ay:AC)(ax:EQ)(a1:List zC)(a2:Int):Option (Int×Int×Int×Int×Int×Int×Int×Int×Int×Int×Int×Int×Int×Int×Bool):=
 (Jn k a1 a2).bind fun x0=>
 (KE k k 0 au az ay ax 0 0 0 0 0 0 0 0 0 0 0 0 0 0 x0).bind fun z3=>
 match z3 with
 |.inl z4=>some (0,0,0,0,0,0,0,0,0,0,0,0,0,0,false)
 |.inr z5=>some (vX3 z5 z5.1)
def Ge (k:Nat)(rec:qUx)(s1:List zC)(s2:Int)(af:List zI)(ah:EQ)(ai:AC)(ag:EQ)(r2:List zC):Option yA0:=
 (Pe k af ah ai ag s1 s2).bind fun x0=>
 bif !x0.2.2.2.2.2.2.2.2.2.2.2.2.2.2 then some (s1,af,ah,ai,ag,r2)
 else(uc k af ah ai ag [(wF x0),(qW1 x0)]).bind fun x1=>
 (nu k s1 x0.1).bind fun x2=>
 (nu k x2.1 x0.2.2.2.2.2.2.2.1).bind fun x3=>
 bif zN (r2.length + 2) 56 then (let y0:List zC:=(r2++[(wF x0),(qW1 x0)])
  rec x3.1 s2 x1.1 x1.2.1 x1.2.2.1 x1.2.2.2.1 y0)
 else none
def KF (k:Nat):Nat→qUx
 |0,_,_,_,_,_,_,_=>none
 |n+1,s1,s2,af,ah,ai,ag,r2=>Ge k (KF k n) s1 s2 af ah ai ag r2
def Pf (k:Nat)(au:List zI)(az:EQ)(ay:AC)(ax:EQ)(a1:List zC)(a2:Int):Option sd:=
 (KF k k a1 a2 au az ay ax []).bind fun z=>
 some (ij z (z.1,z.2.2.2.2.2))
def Gp (k:Nat)(rec:qUx)(s1:List zC)(s2:Int)(af:List zI)(ah:EQ)(ai:AC)(ag:EQ)(r2:List zC):Option yA0:=
 (Pd k af ah ai ag s1 s2).bind fun x0=>
 (Pf k x0.1 x0.2.1 x0.2.2.1 x0.2.2.2.1 x0.2.2.2.2.1 s2).bind fun x1=>
 bif zN (r2.length + x0.2.2.2.2.2.length) 56 then (bif zN ((r2 ++ x0.2.2.2.2.2).length + x1.2.2.2.2.2.length) 56 then (let y0:List zC:=((r2++x0.2.2.2.2.2)++x1.2.2.2.2.2)
   bif decide ((x1.2.2.2.2.2.length:Int)=0) then some (x1.2.2.2.2.1,(vT x1 y0))
   else rec x1.2.2.2.2.1 s2 x1.1 x1.2.1 x1.2.2.1 x1.2.2.2.1 y0)
  else none)
 else none
def KI (k:Nat):Nat→qUx
 |0,_,_,_,_,_,_,_=>none
 |n+1,s1,s2,af,ah,ai,ag,r2=>Gp k (KI k n) s1 s2 af ah ai ag r2
def KJ (k:Nat)(au:List zI)(az:EQ)(ay:AC)(ax:EQ)(a1:List zC)(a2:Int):Option sd:=
 (KI k k a1 a2 au az ay ax []).bind fun z=>
 some (ij z (z.1,z.2.2.2.2.2))
abbrev qQ7:Type:=List zC→AC→Int→List zC→Option Zs
def Gh (k:Nat)(rec:qQ7)(s0:List zC)(s1:AC)(s6:Int)(r0:List zC):Option Zs:=
 bif decide (s6 < (s0.length : Int)) then (bif (decide (0 ≤ s6)) && (decide (s6 ≤ (s0.length : Int))) then (bif zB s6 s0.length then ((tF k (List.take s6.toNat s0) (s0.getD s6.toNat (0,0,0,0,0,0,0)).2.1).bind fun x0=>
    bif zB s6 s0.length then (bif decide ((s0.getD s6.toNat (0, 0, 0, 0, 0, 0, 0)).2.1 ≥ 0) then (bif zB s6 s0.length then (bif decide ((s0.getD s6.toNat (0, 0, 0, 0, 0, 0, 0)).2.1 < (s1.length : Int)) then (bif zB s6 s0.length then (bif zB (s0.getD s6.toNat (0, 0, 0, 0, 0, 0, 0)).2.1 s1.length then (bif decide ((x0.length : Int) < (s1.getD (s0.getD s6.toNat (0, 0, 0, 0, 0, 0, 0)).2.1.toNat 0)) then (bif zB s6 s0.length then (bif zN (r0.length + 1) 56 then (let y0:List zC:=(r0++[(s0.getD s6.toNat (0,0,0,0,0,0,0))])
             rec s0 s1 (zA (s6+1)) y0)
            else none)
           else none)
          else rec s0 s1 (zA (s6+1)) r0)
         else none)
        else none)
       else rec s0 s1 (zA (s6+1)) r0)
      else none)
     else rec s0 s1 (zA (s6+1)) r0)
    else none)
   else none)
  else none)
 else some r0
def Gg (k:Nat):Nat→qQ7
 |0,_,_,_,_=>none
 |n+1,s0,s1,s6,r0=>Gh k (Gg k n) s0 s1 s6 r0
def Gf (k:Nat)(a0:List zC)(a1:AC):Option (List zC):=
 (Gg k k a0 a1 0 []).bind fun z=>
 some z
abbrev qR3:Type:=(List zI)×EQ×AC×EQ×(List zC)×AC
abbrev qSj:Type:=Int→List zI→EQ→AC→EQ→List zC→AC→Option qR3
def Gj (k:Nat)(rec:qSj)(aw:Int)(af:List zI)(ah:EQ)(ai:AC)(ag:EQ)(r1:List zC)(r2:AC):Option qR3:=
 bif decide (aw < (af.length : Int)) then ((tF k r1 aw).bind fun x1=>
  bif zN (r2.length+1) 8 then(rec (zA (aw+1)) af ah ai ag r1 (r2++[(x1.length:Int)]))
  else none)
 else some (af,ah,ai,ag,r1,r2)
def Bh (k:Nat):Nat→qSj
 |0,_,_,_,_,_,_,_=>none
 |n+1,aw,af,ah,ai,ag,r1,r2=>Gj k (Bh k n) aw af ah ai ag r1 r2
abbrev qSz:Type:=Int×(List zI)×EQ×AC×EQ×(List zC)×AC
abbrev qXo:Type:=Int→Int→List zI→EQ→AC→EQ→List zC→AC→AC→Option qSz
def Gl (k:Nat)(rec:qXo)(aN bz:Int)(af:List zI)(ah:EQ)(ai:AC)(ag:EQ)(r1:List zC)(r2 r3:AC):Option qSz:=
 bif decide (bz < (r3.length : Int)) then (bif zB bz r3.length then (bif zB (r3.getD bz.toNat 0) r2.length then (bif zB (r3.getD bz.toNat 0) r2.length then (let y0:AC:=(r2.set (r3.getD bz.toNat 0).toNat (zA ((r2.getD (r3.getD bz.toNat 0).toNat 0)-1)))
     rec aN (zA (bz+1)) af ah ai ag r1 y0 r3)
    else none)
   else none)
  else none)
 else some (aN,af,ah,ai,ag,r1,r2)
def Gk (k:Nat):Nat→qXo
 |0,_,_,_,_,_,_,_,_,_=>none
 |n+1,aN,bz,af,ah,ai,ag,r1,r2,r3=>Gl k (Gk k n) aN bz af ah ai ag r1 r2 r3
abbrev qQk:Type:=Int→List zI→EQ→AC→EQ→List zC→AC→Option (Int×AC)
def Gm (k:Nat)(rec:qQk)(aN:Int)(af:List zI)(ah:EQ)(ai:AC)(ag:EQ)(r1:List zC)(r2:AC):Option (Int×AC):=
 (Gf k r1 r2).bind fun x2=>
 (tC k af ah ai ag x2).bind fun x3=>
 bif decide ((x3.length:Int)=0) then some (aN,r2)
 else(Gk k k aN 0 af ah ai ag r1 r2 x3).bind fun z1=>
 rec (zA (z1.1+1)) z1.2.1 z1.2.2.1 z1.2.2.2.1 z1.2.2.2.2.1 z1.2.2.2.2.2.1 z1.2.2.2.2.2.2
def KG (k:Nat):Nat→qQk
 |0,_,_,_,_,_,_,_=>none
 |n+1,aN,af,ah,ai,ag,r1,r2=>Gm k (KG k n) aN af ah ai ag r1 r2
def Pg (k:Nat)(au:List zI)(az:EQ)(ay:AC)(ax:EQ)(a1:List zC)(a2:Int):Option (AC×Int):=
 (Ep k a1 a2).bind fun x0=>
 (Bh k k 0 au az ay ax x0 []).bind fun z=>
 (KG k k 1 z.1 z.2.1 z.2.2.1 z.2.2.2.1 z.2.2.2.2.1 z.2.2.2.2.2).bind fun z2=>
 some (z2.2,z2.1)
abbrev qI6:Type:=(List zC)×(List zC)×(List zI)×EQ×AC×EQ
abbrev qJa:Type:=List zC→Int→List zC→List zI→EQ→AC→EQ→Option qI6
def Gn (k:Nat)(rec:qJa)(s1:List zC)(bC:Int)(r1:List zC)(ba:List zI)(bS:EQ)(bT:AC)(cS:EQ):Option qI6:=
 bif decide (bC < (r1.length : Int)) then (bif zB bC r1.length then ((nu k s1 (r1.getD bC.toNat (0,0,0,0,0,0,0)).1).bind fun x4=>
   rec x4.1 (zA (bC+1)) r1 ba bS bT cS)
  else none)
 else some (s1,r1,ba,bS,bT,cS)
def Bi (k:Nat):Nat→qJa
 |0,_,_,_,_,_,_,_=>none
 |n+1,s1,bC,r1,ba,bS,bT,cS=>Gn k (Bi k n) s1 bC r1 ba bS bT cS
def KH (k:Nat)(au:List zI)(az:EQ)(ay:AC)(ax:EQ)(a1:List zC)(a2:Int):Option sd:=
 (Pg k au az ay ax a1 a2).bind fun x0=>
 (Ep k a1 a2).bind fun x1=>
 (Gf k x1 x0.1).bind fun x2=>
 (Az k au az ay ax x2).bind fun x3=>
 bif !(decide (x3.2.2.2.2=0)) then some (au,az,ay,ax,a1,[])
 else(Bi k k a1 0 x2 x3.1 x3.2.1 x3.2.2.1 x3.2.2.2.1).bind fun z=>
 some (Bb z (z.1,z.2.1))
def Ph (k:Nat)(au:List zI)(az:EQ)(ay:AC)(ax:EQ)(a1:List zC)(a2:Int)(a3:Bool):Option sd:=
 (KJ k au az ay ax a1 a2).bind fun x0=>
 bif !a3 then some (x0.1,x0.2.1,x0.2.2.1,x0.2.2.2.1,x0.2.2.2.2.1,x0.2.2.2.2.2)
 else(KH k x0.1 x0.2.1 x0.2.2.1 x0.2.2.2.1 x0.2.2.2.2.1 a2).bind fun x1=>
 bif decide ((x1.2.2.2.2.2.length:Int)=0) then some (x0.1,x0.2.1,x0.2.2.1,x0.2.2.2.1,x0.2.2.2.2.1,x0.2.2.2.2.2)
 else(KJ k x1.1 x1.2.1 x1.2.2.1 x1.2.2.2.1 x1.2.2.2.2.1 a2).bind fun x2=>
 bif zN (x0.2.2.2.2.2.length + x1.2.2.2.2.2.length) 56 then (bif zN ((x0.2.2.2.2.2 ++ x1.2.2.2.2.2).length + x2.2.2.2.2.2.length) 56 then (let y0:List zC:=((x0.2.2.2.2.2++x1.2.2.2.2.2)++x2.2.2.2.2.2)
   some (rY x2 y0))
  else none)
 else none
abbrev qXi:Type:=List zC→Int→List qQ→Option qVy
def Fm (k:Nat)(rec:qXi)(s0:List zC)(s4:Int)(r0:List qQ):Option qVy:=
 bif decide (s4 < (s0.length : Int)) then (bif zB s4 s0.length then ((eP k 18 [(s0.getD s4.toNat (0,0,0,0,0,0,0)).1,(s0.getD s4.toNat (0,0,0,0,0,0,0)).2.1,(s0.getD s4.toNat (0,0,0,0,0,0,0)).2.2.1,(s0.getD s4.toNat (0,0,0,0,0,0,0)).2.2.2.1]).bind fun x0=>
   bif zN (r0.length + 2) 64 then (let y0:List qQ:=(r0++[((s0.getD s4.toNat (0,0,0,0,0,0,0)).2.1,x0),((s0.getD s4.toNat (0,0,0,0,0,0,0)).2.2.1,x0)])
    rec s0 (zA (s4+1)) y0)
   else none)
  else none)
 else some r0
def JT (k:Nat):Nat→qXi
 |0,_,_,_=>none
 |n+1,s0,s4,r0=>Fm k (JT k n) s0 s4 r0
def Oz (k:Nat)(a0:List zC):Option (List qQ):=
 (JT k k a0 0 []).bind fun z=>
 some z
def nv (k:Nat)(lM:Int)(pK:List zI)(pL:EQ)(pM:AC)(pN:EQ)(pO:AC)(pP:EQ)(lN:List zC)(pQ:AC)(pR:Int)(pS a1:Bool):Option Q0:=
 (Ph k pK pL pM pN lN lM a1).bind fun x0=>
 (Oz k x0.2.2.2.2.2).bind fun x1=>
 some (lM,(vT x0 (pO,pP,x0.2.2.2.2.1,pQ,pR,pS,x1)))
abbrev qPf:Type:=yA×yF×(List qQ)
abbrev qOe:Type:=List zC→Int→yA→yF→List qQ→Option qPf
def Gq (k:Nat)(rec:qOe)(s7:List zC)(s8:Int)(b0:yA)(b1:yF)(r2:List qQ):Option qPf:=
 bif decide (s8 < (s7.length : Int)) then (bif zB s8 s7.length then (bif zB s8 s7.length then ((eP k 22 [(s7.getD s8.toNat (0,0,0,0,0,0,0)).1]).bind fun x1=>
    bif zN (r2.length + 1) 64 then (let y0:List qQ:=(r2++[((s7.getD s8.toNat (0,0,0,0,0,0,0)).2.1,x1)])
     rec s7 (zA (s8+1)) b0 b1 y0)
    else none)
   else none)
  else none)
 else some (b0,b1,r2)
def xo (k:Nat):Nat→qOe:=qZ (fun _ _ _ _ _=>none) (Gq k)
abbrev qWb:Type:=Int→yA→yF→List qQ→Option qPf
def Gr (k:Nat)(rec:qWb)(s9:Int)(b0:yA)(b1:yF)(r2:List qQ):Option qPf:=
 bif decide (s9 < (b0.2.1.length : Int)) then (bif zB s9 b0.2.1.length then ((eP k 23 [(b0.2.1.getD s9.toNat (0,0,0)).1]).bind fun x2=>
   bif zN (r2.length+1) 64 then(rec (zA (s9+1)) b0 b1 (r2++[(s9,x2)]))
   else none)
  else none)
 else some (b0,b1,r2)
def xp (k:Nat):Nat→qWb:=qZ (fun _ _ _ _=>none) (Gr k)
abbrev qQd:Type:=yZ×yA×yF×(List qQ)
abbrev qM4:Type:=List zC→Int→yZ→yA→yF→List qQ→Option qQd
def Gs (k:Nat)(rec:qM4)(s7:List zC)(aw:Int)(b0:yZ)(b1:yA)(b2:yF)(r3:List qQ):Option qQd:=
 bif decide (aw < (s7.length : Int)) then (bif zB aw s7.length then ((Xv k (s7.getD aw.toNat (0,0,0,0,0,0,0)).1 (s7.getD aw.toNat (0,0,0,0,0,0,0)).2.1 (s7.getD aw.toNat (0,0,0,0,0,0,0)).2.2.1 (s7.getD aw.toNat (0,0,0,0,0,0,0)).2.2.2.1 (s7.getD aw.toNat (0,0,0,0,0,0,0)).2.2.2.2.1 (s7.getD aw.toNat (0,0,0,0,0,0,0)).2.2.2.2.2.1 (s7.getD aw.toNat (0,0,0,0,0,0,0)).2.2.2.2.2.2 b1.1).bind fun x3=>
   bif x3 then (bif zB aw s7.length then (bif zB aw s7.length then ((eP k 21 [(s7.getD aw.toNat (0,0,0,0,0,0,0)).1]).bind fun x4=>
      bif zN (r3.length + 1) 64 then (let y1:List qQ:=(r3++[((s7.getD aw.toNat (0,0,0,0,0,0,0)).2.1,x4)])
       bif zB aw s7.length then ((nu k b1.2.2.2.2.2.2.2.1 (s7.getD aw.toNat (0,0,0,0,0,0,0)).1).bind fun x5=>
        rec s7 (zA (aw+1)) b0 (jo b1 (x5.1,b1.2.2.2.2.2.2.2.2)) b2 y1)
       else none)
      else none)
     else none)
    else none)
   else rec s7 (zA (aw+1)) b0 b1 b2 r3)
  else none)
 else some (b0,b1,b2,r3)
def ud (k:Nat):Nat→qM4:=qZ (fun _ _ _ _ _ _=>none) (Gs k)
def Gt (k:Nat)(a0:yZ)(a1:yA):Option (yA×(List qQ)):=
 bif a1.2.2.2.2.2.2.2.2.2.2 then some (a1,[])
 else(Pk k a0 (zA (a1.1+1))).bind fun x0=>
 bif x0 then ((xo k k a1.2.2.2.2.2.2.2.1 0 ((zA (a1.1+1)),a1.2) (0,0,false) []).bind fun z=>
  (xp k k 0 z.1 z.2.1 z.2.2).bind fun z1=>
  some ((jo z1.1 ([],z1.1.2.2.2.2.2.2.2.2.1,z1.1.2.2.2.2.2.2.2.2.2.1,true)),z1.2.2))
 else(ud k k a1.2.2.2.2.2.2.2.1 0 a0 ((zA (a1.1+1)),a1.2) (0,0,false) []).bind fun z2=>
 (KK k z2.1 z2.2.1.1).bind fun x6=>
 (nv k z2.2.1.1 z2.2.1.2.1 z2.2.1.2.2.1 z2.2.1.2.2.2.1 z2.2.1.2.2.2.2.1 z2.2.1.2.2.2.2.2.1 z2.2.1.2.2.2.2.2.2.1 z2.2.1.2.2.2.2.2.2.2.1 z2.2.1.2.2.2.2.2.2.2.2.1 z2.2.1.2.2.2.2.2.2.2.2.2.1 z2.2.1.2.2.2.2.2.2.2.2.2.2 x6).bind fun x7=>
 bif zN (z2.2.2.2.length + x7.2.2.2.2.2.2.2.2.2.2.2.length) 64 then (let y2:List qQ:=(z2.2.2.2++x7.2.2.2.2.2.2.2.2.2.2.2)
  some ((qS x7),y2))
 else none
def tZ (k:Nat)(a0:um)(a1:Int):Option Int:=
 bif decide (a1<0) then some (-1)
 else bif decide (a1≥a0.1) then some (-1)
 else some a1
def F5 (k:Nat)(a0:yZ)(a1 a2:Int):Option Int:=
 bif decide (a1≥a0.2.2.2.1) then some 7
 else bif decide (a2 = 3) then (bif decide (a1≥a0.2.2.1) then some 7
  else some 0)
 else some 0
def Bd (k:Nat)(a0:yZ)(a1:Int)(a2:zC):Option Int:=
 bif decide (a2.1<1) then some 1
 else bif decide (a2.2.1<0) then some 1
 else bif decide (a2.2.1≥a0.1) then some 1
 else bif decide (a2.2.2.1<0) then some 1
 else bif decide (a2.2.2.1≥a0.1) then some 1
 else bif decide (a2.2.1=a2.2.2.1) then some 1
 else bif decide (a2.2.2.2.1<1) then some 1
 else bif decide (a2.2.2.2.1>1099511627776) then some 1
 else bif decide (a2.2.2.2.2.1<1) then some 1
 else bif decide (a2.2.2.2.2.1>3) then some 1
 else bif decide (a2.2.2.2.2.2.1<0) then some 1
 else bif decide (a2.2.2.2.2.2.1>a2.2.2.2.2.2.2) then some 1
 else bif decide (a2.2.2.2.2.2.2<a1) then some 1
 else bif decide (a2.2.2.2.2.2.2>1048576) then some 1
 else(F5 k a0 a1 a2.2.2.2.2.1).bind fun x0=>
 some x0
def FW (k:Nat)(rec:Zn)(s0:AC)(s1 s5:Int):Option (Unit⊕Bool):=
 bif decide (s5 < (s0.length : Int)) then (bif zB s5 s0.length then (bif decide ((s0.getD s5.toNat 0)=s1) then some (.inr true)
   else rec s0 s1 (zA (s5+1)))
  else none)
 else some (.inl ())
def FV (k:Nat):Nat→Zn:=qZ (fun _ _ _=>none) (FW k)
def O1 (k:Nat)(a0:AC)(a1:Int):Option Bool:=
 (FV k k a0 a1 0).bind fun z=>
 match z with
 |.inl z1=>some false
 |.inr z2=>some z2
abbrev qRu:Type:=AC→Int→Int→Option (AC×Int×Int)
def FX (k:Nat)(rec:qRu)(s0:AC)(s1 s6:Int):Option (AC×Int×Int):=
 bif decide (s6 < (s0.length : Int)) then (bif zB s6 s0.length then (bif decide ((s0.getD s6.toNat 0)<s1) then(rec s0 s1 (zA (s6+1)))
   else some (s0,s1,s6))
  else none)
 else some (s0,s1,s6)
def Kt (k:Nat):Nat→qRu:=qZ (fun _ _ _=>none) (FX k)
def Ba (k:Nat)(a0:AC)(a1:Int):Option (AC×Int):=
 (O1 k a0 a1).bind fun x0=>
 bif x0 then some (a0,6)
 else bif decide ((a0.length:Int)≥200) then some (a0,3)
 else(Kt k k a0 a1 0).bind fun z=>
 bif (decide (0 ≤ z.2.2)) && (decide (z.2.2 ≤ (z.1.length : Int))) then (bif zN (0 + (List.take z.2.2.toNat z.1).length) 8 then (bif zN ((List.take z.2.2.toNat z.1).length + 1) 8 then (bif (decide (0 ≤ z.2.2)) && (decide (z.2.2 ≤ (z.1.length : Int))) then (bif zN (((List.take z.2.2.toNat z.1) ++ [z.2.1]).length + (List.drop z.2.2.toNat z.1).length) 8 then (let y0:AC:=(((List.take z.2.2.toNat z.1)++[z.2.1])++(List.drop z.2.2.toNat z.1))
      some (y0,0))
     else none)
    else none)
   else none)
  else none)
 else none
def Km (k:Nat)(ca bc bB cq bM bX bO gG ct dt dZ du iE iF:Int):Option Bool:=
 bif decide (bc<ct) then some true
 else bif decide (bc=ct) then some (decide (bM≤du))
 else some false
abbrev qRb:Type:=List zC→Int→Int→Int→Int→Int→Int→Int→Int→Option Int
def FT (k:Nat)(rec:qRb)(s0:List zC)(s5 af ah ai ag aZ bn bo:Int):Option Int:=
 bif decide (s5 < (s0.length : Int)) then (bif zB s5 s0.length then ((Km k (s0.getD s5.toNat (0,0,0,0,0,0,0)).1 (s0.getD s5.toNat (0,0,0,0,0,0,0)).2.1 (s0.getD s5.toNat (0,0,0,0,0,0,0)).2.2.1 (s0.getD s5.toNat (0,0,0,0,0,0,0)).2.2.2.1 (s0.getD s5.toNat (0,0,0,0,0,0,0)).2.2.2.2.1 (s0.getD s5.toNat (0,0,0,0,0,0,0)).2.2.2.2.2.1 (s0.getD s5.toNat (0,0,0,0,0,0,0)).2.2.2.2.2.2 af ah ai ag aZ bn bo).bind fun x0=>
   bif x0 then(rec s0 (zA (s5+1)) af ah ai ag aZ bn bo)
   else some s5)
  else none)
 else some s5
def FR (k:Nat):Nat→qRb
 |0,_,_,_,_,_,_,_,_,_=>none
 |n+1,s0,s5,af,ah,ai,ag,aZ,bn,bo=>FT k (FR k n) s0 s5 af ah ai ag aZ bn bo
def FQ (k:Nat)(a0:List zC)(gG ct dt dZ du iE iF:Int):Option Int:=
 (FR k k a0 0 gG ct dt dZ du iE iF).bind fun z=>
 some z
def A8 (k:Nat)(a0:List zC)(a1 abo abp abq abr abt abu abv:Int):Option (List zC):=
 bif (decide (0 ≤ a1)) && (decide (a1 ≤ (a0.length : Int))) then (bif zN (0 + (List.take a1.toNat a0).length) 56 then (bif zN ((List.take a1.toNat a0).length + 1) 56 then (let y0:List zC:=((List.take a1.toNat a0)++[(abo,abp,abq,abr,abt,abu,abv)])
    bif (decide (0 ≤ a1)) && (decide (a1 ≤ (a0.length : Int))) then (bif zN (y0.length+(List.drop a1.toNat a0).length) 56 then some (y0++(List.drop a1.toNat a0))
     else none)
    else none)
   else none)
  else none)
 else none
def A9 (k:Nat)(a0:List zC)(gG ct dt dZ du iE iF:Int):Option ((List zC)×Int):=
 (mv k a0 gG).bind fun x0=>
 bif decide (x0≥0) then some (a0,6)
 else bif decide ((a0.length:Int)≥40) then some (a0,3)
 else(FQ k a0 gG ct dt dZ du iE iF).bind fun x1=>
 (A8 k a0 x1 gG ct dt dZ du iE iF).bind fun x2=>
 some (x2,0)
def O6 (k:Nat)(a0:pT)(a1:Lt):Option (Int×um):=
 (tZ k (yB a0 ([],a0.2.2.2.2.2.2.2.2.2.2.2.2.2.2.2.2.2)) a1.2.1).bind fun x0=>
 bif decide (a1.2.2.2.1 ≥ 1) then (bif decide (a1.2.2.2.1 ≤ 3) then ((Bd k (yR a0) a0.2.2.2.2.2.1 (a1.1,a0.2.2.2.2.2.2.2.2.2.2.2.2.2.2.2.2.1,x0,a1.2.2)).bind fun x1=>
   bif !(decide (x1=0)) then some (x1,(yB a0 ([],a0.2.2.2.2.2.2.2.2.2.2.2.2.2.2.2.2.2)))
   else(Ba k a0.2.2.2.2.2.2.2.2.2.2.2.2.2.1 a1.1).bind fun x2=>
   bif !(decide (x2.2=0)) then some (x2.2,(yB a0 ([],a0.2.2.2.2.2.2.2.2.2.2.2.2.2.2.2.2.2)))
   else(A9 k a0.2.2.2.2.2.2.2.2.2.2.2.2.1 a1.1 a0.2.2.2.2.2.2.2.2.2.2.2.2.2.2.2.2.1 x0 a1.2.2.1 a1.2.2.2.1 a1.2.2.2.2.1 a1.2.2.2.2.2).bind fun x3=>
   bif !(decide (x3.2=0)) then some (x3.2,(yB a0 ([],a0.2.2.2.2.2.2.2.2.2.2.2.2.2.2.2.2.2)))
   else some (0,(jx a0 (x3.1,x2.1,a0.2.2.2.2.2.2.2.2.2.2.2.2.2.2.1,a0.2.2.2.2.2.2.2.2.2.2.2.2.2.2.2.1,a0.2.2.2.2.2.2.2.2.2.2.2.2.2.2.2.2.1,[],a1.1))))
  else(Bd k (yR a0) a0.2.2.2.2.2.1 (a1.1,a0.2.2.2.2.2.2.2.2.2.2.2.2.2.2.2.2.1,x0,a1.2.2.1,0,a1.2.2.2.2)).bind fun x4=>
  bif !(decide (x4=0)) then some (x4,(yB a0 ([],a0.2.2.2.2.2.2.2.2.2.2.2.2.2.2.2.2.2)))
  else(Ba k a0.2.2.2.2.2.2.2.2.2.2.2.2.2.1 a1.1).bind fun x5=>
  bif !(decide (x5.2=0)) then some (x5.2,(yB a0 ([],a0.2.2.2.2.2.2.2.2.2.2.2.2.2.2.2.2.2)))
  else(A9 k a0.2.2.2.2.2.2.2.2.2.2.2.2.1 a1.1 a0.2.2.2.2.2.2.2.2.2.2.2.2.2.2.2.2.1 x0 a1.2.2.1 0 a1.2.2.2.2.1 a1.2.2.2.2.2).bind fun x6=>
  bif !(decide (x6.2=0)) then some (x6.2,(yB a0 ([],a0.2.2.2.2.2.2.2.2.2.2.2.2.2.2.2.2.2)))
  else some (0,(jx a0 (x6.1,x5.1,a0.2.2.2.2.2.2.2.2.2.2.2.2.2.2.1,a0.2.2.2.2.2.2.2.2.2.2.2.2.2.2.2.1,a0.2.2.2.2.2.2.2.2.2.2.2.2.2.2.2.2.1,[],a1.1))))
 else(Bd k (yR a0) a0.2.2.2.2.2.1 (a1.1,a0.2.2.2.2.2.2.2.2.2.2.2.2.2.2.2.2.1,x0,a1.2.2.1,0,a1.2.2.2.2)).bind fun x7=>
 bif !(decide (x7=0)) then some (x7,(yB a0 ([],a0.2.2.2.2.2.2.2.2.2.2.2.2.2.2.2.2.2)))
 else(Ba k a0.2.2.2.2.2.2.2.2.2.2.2.2.2.1 a1.1).bind fun x8=>
 bif !(decide (x8.2=0)) then some (x8.2,(yB a0 ([],a0.2.2.2.2.2.2.2.2.2.2.2.2.2.2.2.2.2)))
 else(A9 k a0.2.2.2.2.2.2.2.2.2.2.2.2.1 a1.1 a0.2.2.2.2.2.2.2.2.2.2.2.2.2.2.2.2.1 x0 a1.2.2.1 0 a1.2.2.2.2.1 a1.2.2.2.2.2).bind fun x9=>
 bif !(decide (x9.2=0)) then some (x9.2,(yB a0 ([],a0.2.2.2.2.2.2.2.2.2.2.2.2.2.2.2.2.2)))
 else some (0,(jx a0 (x9.1,x8.1,a0.2.2.2.2.2.2.2.2.2.2.2.2.2.2.1,a0.2.2.2.2.2.2.2.2.2.2.2.2.2.2.2.1,a0.2.2.2.2.2.2.2.2.2.2.2.2.2.2.2.2.1,[],a1.1)))
def yC9 (k:Nat)(a0:um)(a1:Int):Option (zC×Bool):=
 (mv k a0.2.2.2.2.2.2.2.2.2.2.2.2.1 a1).bind fun x0=>
 bif decide (x0<0) then some ((0,0,0,0,0,0,0),false)
 else bif zB x0 a0.2.2.2.2.2.2.2.2.2.2.2.2.1.length then (bif !(decide ((a0.2.2.2.2.2.2.2.2.2.2.2.2.1.getD x0.toNat (0,0,0,0,0,0,0)).2.1=a0.2.2.2.2.2.2.2.2.2.2.2.2.2.2.2.2.1)) then some ((0,0,0,0,0,0,0),false)
  else bif zB x0 a0.2.2.2.2.2.2.2.2.2.2.2.2.1.length then some ((a0.2.2.2.2.2.2.2.2.2.2.2.2.1.getD x0.toNat (0,0,0,0,0,0,0)),true)
  else none)
 else none
def FU (k:Nat)(rec:ZJ)(s6:List zC)(s9:Int)(b0:zC):Option ZL:=
 bif decide (s9 < (s6.length : Int)) then (bif zB s9 s6.length then ((Km k b0.1 b0.2.1 b0.2.2.1 b0.2.2.2.1 b0.2.2.2.2.1 b0.2.2.2.2.2.1 b0.2.2.2.2.2.2 (s6.getD s9.toNat (0,0,0,0,0,0,0)).1 (s6.getD s9.toNat (0,0,0,0,0,0,0)).2.1 (s6.getD s9.toNat (0,0,0,0,0,0,0)).2.2.1 (s6.getD s9.toNat (0,0,0,0,0,0,0)).2.2.2.1 (s6.getD s9.toNat (0,0,0,0,0,0,0)).2.2.2.2.1 (s6.getD s9.toNat (0,0,0,0,0,0,0)).2.2.2.2.2.1 (s6.getD s9.toNat (0,0,0,0,0,0,0)).2.2.2.2.2.2).bind fun x1=>
   bif !x1 then(rec s6 (zA (s9+1)) b0)
   else some (s6,s9,b0))
  else none)
 else some (s6,s9,b0)
def Ks (k:Nat):Nat→ZJ:=qZ (fun _ _ _=>none) (FU k)
def Kr (k:Nat)(a0:List zC)(a1:Int):Option ((List zC)×Int):=
 (nu k a0 a1).bind fun x0=>
 bif !(decide (x0.2.2.2.2.2.2.2.2=0)) then some (a0,x0.2.2.2.2.2.2.2.2)
 else(Ks k k x0.1 0 (P7 x0)).bind fun z=>
 (A8 k z.1 z.2.1 z.2.2.1 z.2.2.2.1 z.2.2.2.2.1 z.2.2.2.2.2.1 z.2.2.2.2.2.2.1 z.2.2.2.2.2.2.2.1 z.2.2.2.2.2.2.2.2).bind fun x2=>
 some (x2,0)
def Kq (k:Nat)(a0:List zC)(a1:Int):Option ((List zC)×Int):=
 (nu k a0 a1).bind fun x0=>
 bif !(decide (x0.2.2.2.2.2.2.2.2=0)) then some (a0,x0.2.2.2.2.2.2.2.2)
 else(FQ k x0.1 x0.2.1 x0.2.2.1 x0.2.2.2.1 x0.2.2.2.2.1 x0.2.2.2.2.2.1 x0.2.2.2.2.2.2.1 x0.2.2.2.2.2.2.2.1).bind fun x1=>
 (A8 k x0.1 x1 x0.2.1 x0.2.2.1 x0.2.2.2.1 x0.2.2.2.2.1 x0.2.2.2.2.2.1 x0.2.2.2.2.2.2.1 x0.2.2.2.2.2.2.2.1).bind fun x2=>
 some (x2,0)
def Kp (k:Nat)(a0:List zC)(a1 a2:Int):Option ((List zC)×Int):=
 (nu k a0 a1).bind fun x0=>
 bif !(decide (x0.2.2.2.2.2.2.2.2=0)) then some (a0,x0.2.2.2.2.2.2.2.2)
 else(FQ k x0.1 x0.2.1 x0.2.2.1 x0.2.2.2.1 x0.2.2.2.2.1 a2 x0.2.2.2.2.2.2.1 x0.2.2.2.2.2.2.2.1).bind fun x1=>
 (A8 k x0.1 x1 x0.2.1 x0.2.2.1 x0.2.2.2.1 x0.2.2.2.2.1 a2 x0.2.2.2.2.2.2.1 x0.2.2.2.2.2.2.2.1).bind fun x2=>
 some (x2,0)
def Bf (k:Nat)(a0:pT)(a1:Int)(a2:Lt):Option (Int×um):=
 (yC9 k (yB a0 ([],a0.2.2.2.2.2.2.2.2.2.2.2.2.2.2.2.2.2)) a2.1).bind fun x0=>
 bif !x0.2 then some (4,(yB a0 ([],a0.2.2.2.2.2.2.2.2.2.2.2.2.2.2.2.2.2)))
 else bif decide (a1 = 2) then ((nu k a0.2.2.2.2.2.2.2.2.2.2.2.2.1 a2.1).bind fun x1=>
  (eP k 20 [a2.1]).bind fun x2=>
  some (0,(jx a0 (x1.1,(Q1 a0 ([(a0.2.2.2.2.2.2.2.2.2.2.2.2.2.2.2.2.1,x2)],a0.2.2.2.2.2.2.2.2.2.2.2.2.2.2.2.2.2))))))
 else bif decide (a1 = 3) then (bif decide (a2.2.1 = 0) then ((Kr k a0.2.2.2.2.2.2.2.2.2.2.2.2.1 a2.1).bind fun x3=>
   some (0,(jx a0 (x3.1,(Q1 a0 ([],a0.2.2.2.2.2.2.2.2.2.2.2.2.2.2.2.2.2))))))
  else bif decide (a2.2.1 = 1) then ((Kq k a0.2.2.2.2.2.2.2.2.2.2.2.2.1 a2.1).bind fun x4=>
   some (0,(jx a0 (x4.1,(Q1 a0 ([],a0.2.2.2.2.2.2.2.2.2.2.2.2.2.2.2.2.2))))))
  else some (1,(yB a0 ([],a0.2.2.2.2.2.2.2.2.2.2.2.2.2.2.2.2.2))))
 else bif decide (a2.2.1<1) then some (1,(yB a0 ([],a0.2.2.2.2.2.2.2.2.2.2.2.2.2.2.2.2.2)))
 else bif decide (a2.2.1>3) then some (1,(yB a0 ([],a0.2.2.2.2.2.2.2.2.2.2.2.2.2.2.2.2.2)))
 else(F5 k (yR a0) a0.2.2.2.2.2.1 a2.2.1).bind fun x5=>
 bif !(decide (x5=0)) then some (x5,(yB a0 ([],a0.2.2.2.2.2.2.2.2.2.2.2.2.2.2.2.2.2)))
 else(Kp k a0.2.2.2.2.2.2.2.2.2.2.2.2.1 a2.1 a2.2.1).bind fun x6=>
 some (0,(jx a0 (x6.1,(Q1 a0 ([],a0.2.2.2.2.2.2.2.2.2.2.2.2.2.2.2.2.2)))))
def Bg (k:Nat)(a0:pT)(a1:Int)(a2:Lt):Option (Int×um):=
 (oe k a0.2.2.2.2.2.2.1 a0.2.2.2.2.2.2.2.1 a0.2.2.2.2.2.2.2.2.1 a0.2.2.2.2.2.2.2.2.2.1).bind fun x0=>
 bif decide (a1 = 5) then ((tZ k (yB a0 ([],a0.2.2.2.2.2.2.2.2.2.2.2.2.2.2.2.2.2)) a2.1).bind fun x1=>
  bif decide (x1<0) then some (1,(yB a0 ([],a0.2.2.2.2.2.2.2.2.2.2.2.2.2.2.2.2.2)))
  else bif decide (x1=a0.2.2.2.2.2.2.2.2.2.2.2.2.2.2.2.2.1) then some (1,(yB a0 ([],a0.2.2.2.2.2.2.2.2.2.2.2.2.2.2.2.2.2)))
  else bif decide (a2.2.1<(-1)) then some (1,(yB a0 ([],a0.2.2.2.2.2.2.2.2.2.2.2.2.2.2.2.2.2)))
  else bif decide (a2.2.1>1152921504606846976) then some (1,(yB a0 ([],a0.2.2.2.2.2.2.2.2.2.2.2.2.2.2.2.2.2)))
  else bif zB a0.2.2.2.2.2.2.2.2.2.2.2.2.2.2.2.2.1 x0.2.1.length then (bif zB x1 (x0.2.1.getD a0.2.2.2.2.2.2.2.2.2.2.2.2.2.2.2.2.1.toNat []).length then (let y0:EQ:=(x0.2.1.set a0.2.2.2.2.2.2.2.2.2.2.2.2.2.2.2.2.1.toNat ((x0.2.1.getD a0.2.2.2.2.2.2.2.2.2.2.2.2.2.2.2.2.1.toNat []).set x1.toNat a2.2.1))
    some (0,(jF a0 (x0.1,y0,x0.2.2.1,x0.2.2.2,(qQ3 a0 ([],a0.2.2.2.2.2.2.2.2.2.2.2.2.2.2.2.2.2))))))
   else none)
  else none)
 else bif decide (a1 = 6) then (bif decide (a2.1<(-1)) then some (1,(yB a0 ([],a0.2.2.2.2.2.2.2.2.2.2.2.2.2.2.2.2.2)))
  else bif decide (a2.1>1152921504606846976) then some (1,(yB a0 ([],a0.2.2.2.2.2.2.2.2.2.2.2.2.2.2.2.2.2)))
  else bif zB a0.2.2.2.2.2.2.2.2.2.2.2.2.2.2.2.2.1 x0.2.2.1.length then (let y1:AC:=(x0.2.2.1.set a0.2.2.2.2.2.2.2.2.2.2.2.2.2.2.2.2.1.toNat a2.1)
   some (0,(jF a0 (x0.1,x0.2.1,y1,x0.2.2.2,(qQ3 a0 ([],a0.2.2.2.2.2.2.2.2.2.2.2.2.2.2.2.2.2))))))
  else none)
 else bif decide (a2.1<0) then some (1,(yB a0 ([],a0.2.2.2.2.2.2.2.2.2.2.2.2.2.2.2.2.2)))
 else bif decide (a2.1>1152921504606846976) then some (1,(yB a0 ([],a0.2.2.2.2.2.2.2.2.2.2.2.2.2.2.2.2.2)))
 else bif zB a0.2.2.2.2.2.2.2.2.2.2.2.2.2.2.2.2.1 x0.1.length then (let y2:List zI:=(x0.1.set a0.2.2.2.2.2.2.2.2.2.2.2.2.2.2.2.2.1.toNat ((x0.1.getD a0.2.2.2.2.2.2.2.2.2.2.2.2.2.2.2.2.1.toNat (0,0,0)).1,(x0.1.getD a0.2.2.2.2.2.2.2.2.2.2.2.2.2.2.2.2.1.toNat (0,0,0)).2.1,a2.1))
  some (0,(jF a0 (y2,x0.2.1,x0.2.2.1,x0.2.2.2,(qQ3 a0 ([],a0.2.2.2.2.2.2.2.2.2.2.2.2.2.2.2.2.2))))))
 else none
def ua (k:Nat)(a0:AC)(a1 a2:Int):Option AC:=
 bif zN (0 + a0.length) 8 then (bif decide (a1 ≥ 0) then (bif decide (a1 < (a0.length : Int)) then (bif zB a1 a0.length then some (a0.set a1.toNat a2)
    else none)
   else some a0)
  else some a0)
 else none
def OT (k:Nat)(a0:Int):Option AC:=
 some [(yJ .i64 a0 65535),(yJ .i64 (shr .i64 a0 16) 65535),(yJ .i64 (shr .i64 a0 32) 65535),(yJ .i64 (shr .i64 a0 48) 65535)]
def ySm (k:Nat)(rec:Int→AC→Option AC)(s3:Int)(r0:AC):Option AC:=
 bif decide ((zA (s3 + 1)) < (r0.length : Int)) then (bif zB (zA (s3 + 1)) r0.length then (bif zB s3 r0.length then (bif zB (zA (s3 + 1)) r0.length then (let y0:AC:=(r0.set (zA (s3+1)).toNat (zA ((r0.getD (zA (s3+1)).toNat 0)+(shr .i64 (r0.getD s3.toNat 0) 16))))
     bif zB s3 y0.length then (bif zB s3 y0.length then(rec (zA (s3+1)) (y0.set s3.toNat (yJ .i64 (y0.getD s3.toNat 0) 65535)))
      else none)
     else none)
    else none)
   else none)
  else none)
 else some r0
def qSx (k:Nat):Nat→Int→AC→Option AC:=qZ (fun _ _=>none) (ySm k)
def FK (k:Nat)(a0:AC):Option AC:=
 (qSx k k 0 a0).bind fun z=>
 some z
abbrev qTl:Type:=Int×Int×AC×AC
abbrev qT1:Type:=Int→Int→Int→AC→AC→Option qTl
def yFe (k:Nat)(rec:qT1)(s1 s7 s8:Int)(r0 r1:AC):Option qTl:=
 bif decide (s8 < 4) then (bif !(decide ((IntKind.wrap .u64 ((zA (16 * s8)))) < 0)) then (bif zB (zA (s7 + s8)) r1.length then (bif zB s7 r0.length then (bif zB (zA (s7 + s8)) r1.length then (let y0:AC:=(r1.set (zA (s7+s8)).toNat (zA ((r1.getD (zA (s7+s8)).toNat 0)+(zA ((r0.getD s7.toNat 0)*(yJ .i64 (shr .i64 s1 (IntKind.wrap .u64 ((zA (16*s8))))) 65535))))))
      rec s1 s7 (zA (s8+1)) r0 y0)
     else none)
    else none)
   else none)
  else none)
 else some (s1,s7,r0,r1)
def qLg (k:Nat):Nat→qT1:=qZ (fun _ _ _ _ _=>none) (yFe k)
abbrev qSd:Type:=Int→Int→AC→AC→Option AC
def yO0 (k:Nat)(rec:qSd)(s1 s7:Int)(r0 r1:AC):Option AC:=
 bif decide (s7 < 4) then ((qLg k k s1 s7 0 r0 r1).bind fun z=>
  rec z.1 (zA (z.2.1+1)) z.2.2.1 z.2.2.2)
 else some r1
def OQ (k:Nat):Nat→qSd:=qZ (fun _ _ _ _=>none) (yO0 k)
def OR (k:Nat)(a0 a1:Int):Option AC:=
 (OT k a0).bind fun x0=>
 (OQ k k a1 0 x0 [0,0,0,0,0,0,0,0,0]).bind fun z1=>
 (FK k z1).bind fun x1=>
 some x1
def yW2 (k:Nat)(rec:Int→Int→AC→Option AC)(s1 s5:Int)(r0:AC):Option AC:=
 bif decide (s5 < (r0.length : Int)) then (bif zB s5 r0.length then (bif zB s5 r0.length then(rec s1 (zA (s5+1)) (r0.set s5.toNat (zA ((r0.getD s5.toNat 0)*s1))))
   else none)
  else none)
 else some r0
def OO (k:Nat):Nat→Int→Int→AC→Option AC:=qZ (fun _ _ _=>none) (yW2 k)
def ON (k:Nat)(a0:AC)(a1:Int):Option AC:=
 (OO k k a1 0 a0).bind fun z=>
 (FK k z).bind fun x0=>
 some x0
def yZ8 (k:Nat)(rec:Yx)(s1 s6 s7:Int)(r0:AC):Option AC:=
 bif decide (s7 ≥ 0) then (bif zB s7 r0.length then (bif !(decide (s1 = 0)) then (bif zB s7 r0.length then (let y0:AC:=(r0.set s7.toNat (zA (Int.tdiv (zA ((shl .i64 s6 16)+(r0.getD s7.toNat 0))) s1)))
     bif !(decide (s1=0)) then(rec s1 (Int.tmod (zA ((shl .i64 s6 16)+(r0.getD s7.toNat 0))) s1) (zA (s7-1)) y0)
     else none)
    else none)
   else none)
  else none)
 else some r0
def Ki (k:Nat):Nat→Yx:=qZ (fun _ _ _ _=>none) (yZ8 k)
abbrev qJj:Type:=Int→AC→Option (AC⊕jY)
def yLy (k:Nat)(rec:qJj)(s9:Int)(r0:AC):Option (AC⊕jY):=
 bif decide (s9 < (r0.length : Int)) then (bif zB s9 r0.length then (bif !(decide ((r0.getD s9.toNat 0)=0)) then some (.inr (0,false))
   else rec (zA (s9+1)) r0)
  else none)
 else some (.inl r0)
def FL (k:Nat):Nat→qJj:=qZ (fun _ _=>none) (yLy k)
def OP (k:Nat)(a0:AC)(a1:Int):Option jY:=
 (Ki k k a1 0 (zA ((a0.length:Int)-1)) a0).bind fun z=>
 (FL k k 4 z).bind fun z1=>
 match z1 with
 | .inl z2 => bif zB 3 z2.length then (bif decide ((z2.getD 3 0)≥32768) then some (0,false)
   else bif zB 3 z2.length then (bif zB 2 z2.length then (bif zB 1 z2.length then (bif zB 0 z2.length then some ((wD .i64 (wD .i64 (wD .i64 (shl .i64 (z2.getD 3 0) 48) (shl .i64 (z2.getD 2 0) 32)) (shl .i64 (z2.getD 1 0) 16)) (z2.getD 0 0)),true)
      else none)
     else none)
    else none)
   else none)
  else none
 |.inr z3=>some (z3.1,z3.2)
def OZ (k:Nat)(a0 a1 a2:Int):Option jY:=
 bif decide (a0<0) then some (0,false)
 else bif decide (a1<0) then some (0,false)
 else bif decide (a2<0) then some (0,false)
 else bif decide (a2>10000) then some (0,false)
 else(OR k a0 a1).bind fun x0=>
 (ON k x0 (zA (10000-a2))).bind fun x1=>
 (OP k x1 10000).bind fun x2=>
 some (x2.1,x2.2)
def FN (k:Nat)(a0 a1:Int):Option jY:=
 bif decide (a1 > 0) then (bif decide (a0>(zA (9223372036854775807-a1))) then some (0,false)
  else bif decide (a1 < 0) then (bif decide (a0<(zA ((-9223372036854775808)-a1))) then some (0,false)
   else some ((zA (a0+a1)),true))
  else some ((zA (a0+a1)),true))
 else bif decide (a1 < 0) then (bif decide (a0<(zA ((-9223372036854775808)-a1))) then some (0,false)
  else some ((zA (a0+a1)),true))
 else some ((zA (a0+a1)),true)
abbrev yAz:Type:=List wJ→AC→AC→Int→Int→Option (Int⊕jY)
def FO (k:Nat)(rec:yAz)(s0:List wJ)(s1 s2:AC)(s8 s9:Int):Option (Int⊕jY):=
 bif decide (s9 < (s0.length : Int)) then (bif zB s9 s1.length then (bif zB s9 s2.length then (bif zB s9 s0.length then ((OZ k (s1.getD s9.toNat 0) (s2.getD s9.toNat 0) (s0.getD s9.toNat (0,0)).2).bind fun x0=>
     (FN k s8 x0.1).bind fun x1=>
     bif !x0.2 then some (.inr (0,false))
     else bif !x1.2 then some (.inr (0,false))
     else rec s0 s1 s2 x1.1 (zA (s9+1)))
    else none)
   else none)
  else none)
 else some (.inl s8)
def Kn (k:Nat):Nat→yAz:=qZ (fun _ _ _ _ _=>none) (FO k)
def A7 (k:Nat)(a0:List wJ)(a1 a2:AC):Option jY:=
 bif !(decide ((a1.length:Int)=(a0.length:Int))) then some (0,false)
 else bif !(decide ((a2.length:Int)=(a0.length:Int))) then some (0,false)
 else(Kn k k a0 a1 a2 0 0).bind fun z=>
 match z with
 |.inl z1=>some (z1,true)
 |.inr z2=>some (z2.1,z2.2)
def O8 (k:Nat)(a0:pT)(a1 a2:Int):Option (Int×um):=
 bif decide (a1<0) then some (1,(yB a0 ([],a0.2.2.2.2.2.2.2.2.2.2.2.2.2.2.2.2.2)))
 else bif decide (a1≥(a0.2.1.length:Int)) then some (1,(yB a0 ([],a0.2.2.2.2.2.2.2.2.2.2.2.2.2.2.2.2.2)))
 else bif decide (a2<0) then some (1,(yB a0 ([],a0.2.2.2.2.2.2.2.2.2.2.2.2.2.2.2.2.2)))
 else bif decide (a2>1099511627776) then some (1,(yB a0 ([],a0.2.2.2.2.2.2.2.2.2.2.2.2.2.2.2.2.2)))
 else bif zB a0.2.2.2.2.2.2.2.2.2.2.2.2.2.2.2.2.1 a0.2.2.2.2.2.2.2.2.2.2.2.1.length then ((ua k (a0.2.2.2.2.2.2.2.2.2.2.2.1.getD a0.2.2.2.2.2.2.2.2.2.2.2.2.2.2.2.2.1.toNat []) a1 a2).bind fun x0=>
  (A7 k a0.2.1 a0.2.2.2.2.2.2.2.2.2.2.1 x0).bind fun x1=>
  bif !x1.2 then some (8,(yB a0 ([],a0.2.2.2.2.2.2.2.2.2.2.2.2.2.2.2.2.2)))
  else bif decide (x1.1>1152921504606846976) then some (8,(yB a0 ([],a0.2.2.2.2.2.2.2.2.2.2.2.2.2.2.2.2.2)))
  else(oe k a0.2.2.2.2.2.2.1 a0.2.2.2.2.2.2.2.1 a0.2.2.2.2.2.2.2.2.1 a0.2.2.2.2.2.2.2.2.2.1).bind fun x2=>
  bif zB a0.2.2.2.2.2.2.2.2.2.2.2.2.2.2.2.2.1 x2.1.length then (bif decide (x1.1 < (x2.1.getD a0.2.2.2.2.2.2.2.2.2.2.2.2.2.2.2.2.1.toNat (0, 0, 0)).2.1) then (bif decide ((zA ((x2.1.getD a0.2.2.2.2.2.2.2.2.2.2.2.2.2.2.2.2.1.toNat (0,0,0)).1+x1.1))<0) then some (9,(yB a0 ([],a0.2.2.2.2.2.2.2.2.2.2.2.2.2.2.2.2.2)))
    else bif zB a0.2.2.2.2.2.2.2.2.2.2.2.2.2.2.2.2.1 x2.1.length then (let y0:List zI:=(x2.1.set a0.2.2.2.2.2.2.2.2.2.2.2.2.2.2.2.2.1.toNat ((x2.1.getD a0.2.2.2.2.2.2.2.2.2.2.2.2.2.2.2.2.1.toNat (0,0,0)).1,x1.1,(x2.1.getD a0.2.2.2.2.2.2.2.2.2.2.2.2.2.2.2.2.1.toNat (0,0,0)).2.2))
     bif zN (0 + a0.2.2.2.2.2.2.2.2.2.2.2.1.length) 24 then (bif zB a0.2.2.2.2.2.2.2.2.2.2.2.2.2.2.2.2.1 a0.2.2.2.2.2.2.2.2.2.2.2.1.length then (let y1:EQ:=(a0.2.2.2.2.2.2.2.2.2.2.2.1.set a0.2.2.2.2.2.2.2.2.2.2.2.2.2.2.2.2.1.toNat x0)
       some (0,(jF a0 (y0,x2.2.1,x2.2.2.1,x2.2.2.2,a0.2.2.2.2.2.2.2.2.2.2.1,y1,(yBa a0 ([],a0.2.2.2.2.2.2.2.2.2.2.2.2.2.2.2.2.2))))))
      else none)
     else none)
    else none)
   else bif zB a0.2.2.2.2.2.2.2.2.2.2.2.2.2.2.2.2.1 x2.1.length then (let y2:List zI:=(x2.1.set a0.2.2.2.2.2.2.2.2.2.2.2.2.2.2.2.2.1.toNat ((x2.1.getD a0.2.2.2.2.2.2.2.2.2.2.2.2.2.2.2.2.1.toNat (0,0,0)).1,x1.1,(x2.1.getD a0.2.2.2.2.2.2.2.2.2.2.2.2.2.2.2.2.1.toNat (0,0,0)).2.2))
    bif zN (0 + a0.2.2.2.2.2.2.2.2.2.2.2.1.length) 24 then (bif zB a0.2.2.2.2.2.2.2.2.2.2.2.2.2.2.2.2.1 a0.2.2.2.2.2.2.2.2.2.2.2.1.length then (let y3:EQ:=(a0.2.2.2.2.2.2.2.2.2.2.2.1.set a0.2.2.2.2.2.2.2.2.2.2.2.2.2.2.2.2.1.toNat x0)
      some (0,(jF a0 (y2,x2.2.1,x2.2.2.1,x2.2.2.2,a0.2.2.2.2.2.2.2.2.2.2.1,y3,(yBa a0 ([],a0.2.2.2.2.2.2.2.2.2.2.2.2.2.2.2.2.2))))))
     else none)
    else none)
   else none)
  else none)
 else none
def F6 (k:Nat)(a0:zI)(a1:Int):Option (zI×Int):=
 (FN k a0.1 a1).bind fun x0=>
 bif !x0.2 then some (a0,8)
 else(IC k x0.1 a0.2.1 a0.2.2).bind fun x1=>
 bif !x1 then some (a0,8)
 else some ((x0.1,a0.2),0)
def F7 (k:Nat)(a0:pT)(a1:Bool)(a2 a3:Int):Option (Int×um):=
 (tZ k (yB a0 ([],a0.2.2.2.2.2.2.2.2.2.2.2.2.2.2.2.2.2)) a2).bind fun x0=>
 bif decide (x0<0) then some (1,(yB a0 ([],a0.2.2.2.2.2.2.2.2.2.2.2.2.2.2.2.2.2)))
 else bif decide (a3<1) then some (1,(yB a0 ([],a0.2.2.2.2.2.2.2.2.2.2.2.2.2.2.2.2.2)))
 else bif decide (a3>1099511627776) then some (1,(yB a0 ([],a0.2.2.2.2.2.2.2.2.2.2.2.2.2.2.2.2.2)))
 else(oe k a0.2.2.2.2.2.2.1 a0.2.2.2.2.2.2.2.1 a0.2.2.2.2.2.2.2.2.1 a0.2.2.2.2.2.2.2.2.2.1).bind fun x1=>
 bif a1 then (bif zB x0 x1.1.length then ((F6 k (x1.1.getD x0.toNat (0,0,0)) a3).bind fun x2=>
   bif decide ((zA (a0.2.2.2.2.2.2.2.2.2.2.2.2.2.2.1+a3))>1152921504606846976) then some (8,(yB a0 ([],a0.2.2.2.2.2.2.2.2.2.2.2.2.2.2.2.2.2)))
   else bif !(decide (x2.2=0)) then some (8,(yB a0 ([],a0.2.2.2.2.2.2.2.2.2.2.2.2.2.2.2.2.2)))
   else bif zB x0 x1.1.length then some (0,(jF a0 ((x1.1.set x0.toNat x2.1),x1.2.1,x1.2.2.1,x1.2.2.2,(G1 a0 ((zA (a0.2.2.2.2.2.2.2.2.2.2.2.2.2.2.1+a3)),a0.2.2.2.2.2.2.2.2.2.2.2.2.2.2.2.1,a0.2.2.2.2.2.2.2.2.2.2.2.2.2.2.2.2.1,[],a0.2.2.2.2.2.2.2.2.2.2.2.2.2.2.2.2.2)))))
   else none)
  else none)
 else bif zB x0 x1.1.length then (bif decide ((zA ((zA ((x1.1.getD x0.toNat (0,0,0)).1+(x1.1.getD x0.toNat (0,0,0)).2.1))-(x1.1.getD x0.toNat (0,0,0)).2.2))<a3) then some (9,(yB a0 ([],a0.2.2.2.2.2.2.2.2.2.2.2.2.2.2.2.2.2)))
  else bif decide (a0.2.2.2.2.2.2.2.2.2.2.2.2.2.2.1<a3) then some (9,(yB a0 ([],a0.2.2.2.2.2.2.2.2.2.2.2.2.2.2.2.2.2)))
  else bif zB x0 x1.1.length then (let y0:List zI:=(x1.1.set x0.toNat ((zA ((x1.1.getD x0.toNat (0,0,0)).1-a3)),(x1.1.getD x0.toNat (0,0,0)).2))
   some (0,(jF a0 (y0,x1.2.1,x1.2.2.1,x1.2.2.2,(G1 a0 ((zA (a0.2.2.2.2.2.2.2.2.2.2.2.2.2.2.1-a3)),a0.2.2.2.2.2.2.2.2.2.2.2.2.2.2.2.1,a0.2.2.2.2.2.2.2.2.2.2.2.2.2.2.2.2.1,[],a0.2.2.2.2.2.2.2.2.2.2.2.2.2.2.2.2.2))))))
  else none)
 else none
abbrev qOc:Type:=(pT×AC×(List zI)×EQ×AC×EQ)⊕(Int×pT)
abbrev qYh:Type:=Int→pT→AC→List zI→EQ→AC→EQ→Option qOc
def F8 (k:Nat)(rec:qYh)(s9:Int)(b0:pT)(r1:AC)(r3:List zI)(m4:EQ)(r5:AC)(m6:EQ):Option qOc:=
 bif decide (s9 < (r3.length : Int)) then (bif zB s9 b0.2.2.2.2.2.2.2.2.2.2.2.1.length then ((A7 k b0.2.1 r1 (b0.2.2.2.2.2.2.2.2.2.2.2.1.getD s9.toNat [])).bind fun x2=>
   bif !x2.2 then some (.inr (8,b0))
   else bif decide (x2.1>1152921504606846976) then some (.inr (8,b0))
   else bif zB s9 r3.length then (let y0:List zI:=(r3.set s9.toNat ((r3.getD s9.toNat (0,0,0)).1,x2.1,(r3.getD s9.toNat (0,0,0)).2.2))
    rec (zA (s9+1)) b0 r1 y0 m4 r5 m6)
   else none)
  else none)
 else some (.inl (b0,r1,r3,m4,r5,m6))
def ub (k:Nat):Nat→qYh:=qZ (fun _ _ _ _ _ _ _=>none) (F8 k)
def O9 (k:Nat)(a0:pT)(a1 a2:Int):Option (Int×um):=
 bif decide (a1<0) then some (1,(yB a0 ([],a0.2.2.2.2.2.2.2.2.2.2.2.2.2.2.2.2.2)))
 else bif decide (a1≥(a0.2.1.length:Int)) then some (1,(yB a0 ([],a0.2.2.2.2.2.2.2.2.2.2.2.2.2.2.2.2.2)))
 else bif decide (a2<0) then some (1,(yB a0 ([],a0.2.2.2.2.2.2.2.2.2.2.2.2.2.2.2.2.2)))
 else bif decide (a2>1048576) then some (1,(yB a0 ([],a0.2.2.2.2.2.2.2.2.2.2.2.2.2.2.2.2.2)))
 else(ua k a0.2.2.2.2.2.2.2.2.2.2.1 a1 a2).bind fun x0=>
 (oe k a0.2.2.2.2.2.2.1 a0.2.2.2.2.2.2.2.1 a0.2.2.2.2.2.2.2.2.1 a0.2.2.2.2.2.2.2.2.2.1).bind fun x1=>
 (ub k k 0 a0 x0 x1.1 x1.2.1 x1.2.2.1 x1.2.2.2).bind fun z=>
 match z with
 |.inl z1=>some (0,(jF z1.1 (Bb z1 (z1.2.1,(yKm z1.1 ([],z1.1.2.2.2.2.2.2.2.2.2.2.2.2.2.2.2.2.2))))))
 |.inr z2=>some (yTz z2 ([],z2.2.2.2.2.2.2.2.2.2.2.2.2.2.2.2.2.2.2))
def xr (k:Nat)(a0:pT)(a1:zC):Option (Int×um):=
 bif decide (a1.1 = 1) then ((O6 k a0 a1.2).bind fun x0=>
  some (x0.1,x0.2))
 else bif decide (a1.1 = 2) then ((Bf k a0 a1.1 a1.2).bind fun x1=>
  some (x1.1,x1.2))
 else bif decide (a1.1 = 3) then ((Bf k a0 a1.1 a1.2).bind fun x2=>
  some (x2.1,x2.2))
 else bif decide (a1.1 = 4) then ((Bf k a0 a1.1 a1.2).bind fun x3=>
  some (x3.1,x3.2))
 else bif decide (a1.1 = 5) then ((Bg k a0 a1.1 a1.2).bind fun x4=>
  some (x4.1,x4.2))
 else bif decide (a1.1 = 6) then ((Bg k a0 a1.1 a1.2).bind fun x5=>
  some (x5.1,x5.2))
 else bif decide (a1.1 = 7) then ((Bg k a0 a1.1 a1.2).bind fun x6=>
  some (x6.1,x6.2))
 else bif decide (a1.1 = 8) then ((O8 k a0 a1.2.1 a1.2.2.1).bind fun x7=>
  some (x7.1,x7.2))
 else bif decide (a1.1 = 10) then ((F7 k a0 (decide (a1.1=10)) a1.2.1 a1.2.2.1).bind fun x8=>
  some (x8.1,x8.2))
 else bif decide (a1.1 = 11) then ((F7 k a0 (decide (a1.1=10)) a1.2.1 a1.2.2.1).bind fun x9=>
  some (x9.1,x9.2))
 else bif decide (a1.1 = 12) then ((O9 k a0 a1.2.1 a1.2.2.1).bind fun cm=>
  some (cm.1,cm.2))
 else some (0,(yB a0 ([],a0.2.2.2.2.2.2.2.2.2.2.2.2.2.2.2.2.2)))
def xu (k:Nat)(a0:yZ)(a1:yA)(a2:qQ):Option (yA×(List qQ)×Int):=
 (Bj k a0 a2).bind fun x0=>
 bif !x0 then some (a1,[],5)
 else bif a1.2.2.2.2.2.2.2.2.2.2 then (bif !(decide (a2.2.1=9)) then some (a1,[],7)
  else bif decide (a2.2.1 = 9) then (bif zB a2.1 a1.2.1.length then ((tF k a1.2.2.2.2.2.2.2.1 a2.1).bind fun x1=>
    (eP k 17 [(a1.2.1.getD a2.1.toNat (0,0,0)).1,(a1.2.1.getD a2.1.toNat (0,0,0)).2.1,(a1.2.1.getD a2.1.toNat (0,0,0)).2.2,(x1.length:Int),a1.1]).bind fun x2=>
    some (a1,[(a2.1,x2)],0))
   else none)
  else bif decide (a2.2.1 = 14) then ((Gt k a0 a1).bind fun x3=>
   some (x3.1,x3.2,0))
  else(xr k (jD a0 (wO a1 (a2.1,0))) a2.2).bind fun x4=>
  bif !(decide (x4.1=0)) then some (a1,[],x4.1)
  else bif !(decide (a2.1 = (-1))) then ((eP k 15 []).bind fun x5=>
   (nv k x4.2.2.2.2.2.2.1 x4.2.2.2.2.2.2.2.1 x4.2.2.2.2.2.2.2.2.1 x4.2.2.2.2.2.2.2.2.2.1 x4.2.2.2.2.2.2.2.2.2.2.1 x4.2.2.2.2.2.2.2.2.2.2.2.1 x4.2.2.2.2.2.2.2.2.2.2.2.2.1 x4.2.2.2.2.2.2.2.2.2.2.2.2.2.1 x4.2.2.2.2.2.2.2.2.2.2.2.2.2.2.1 x4.2.2.2.2.2.2.2.2.2.2.2.2.2.2.2.1 x4.2.2.2.2.2.2.2.2.2.2.2.2.2.2.2.2.1 (decide (a2.2.1=13))).bind fun x6=>
   bif zN (1 + x4.2.2.2.2.2.2.2.2.2.2.2.2.2.2.2.2.2.2.1.length) 64 then (let y0:List qQ:=([(a2.1,x5)]++x4.2.2.2.2.2.2.2.2.2.2.2.2.2.2.2.2.2.2.1)
    bif zN (y0.length + x6.2.2.2.2.2.2.2.2.2.2.2.length) 64 then (bif decide (x4.2.2.2.2.2.2.2.2.2.2.2.2.2.2.2.2.2.2.2 > 0) then ((mv k x6.2.2.2.2.2.2.2.1 x4.2.2.2.2.2.2.2.2.2.2.2.2.2.2.2.2.2.2.2).bind fun x7=>
      bif decide (x7 ≥ 0) then ((eP k 19 [x4.2.2.2.2.2.2.2.2.2.2.2.2.2.2.2.2.2.2.2]).bind fun x8=>
       bif zN ((y0 ++ x6.2.2.2.2.2.2.2.2.2.2.2).length + 1) 64 then (let y1:List qQ:=((y0++x6.2.2.2.2.2.2.2.2.2.2.2)++[(a2.1,x8)])
        some ((qS x6),y1,0))
       else none)
      else some ((qS x6),(y0++x6.2.2.2.2.2.2.2.2.2.2.2),0))
     else some ((qS x6),(y0++x6.2.2.2.2.2.2.2.2.2.2.2),0))
    else none)
   else none)
  else(nv k x4.2.2.2.2.2.2.1 x4.2.2.2.2.2.2.2.1 x4.2.2.2.2.2.2.2.2.1 x4.2.2.2.2.2.2.2.2.2.1 x4.2.2.2.2.2.2.2.2.2.2.1 x4.2.2.2.2.2.2.2.2.2.2.2.1 x4.2.2.2.2.2.2.2.2.2.2.2.2.1 x4.2.2.2.2.2.2.2.2.2.2.2.2.2.1 x4.2.2.2.2.2.2.2.2.2.2.2.2.2.2.1 x4.2.2.2.2.2.2.2.2.2.2.2.2.2.2.2.1 x4.2.2.2.2.2.2.2.2.2.2.2.2.2.2.2.2.1 (decide (a2.2.1=13))).bind fun x9=>
  bif zN x4.2.2.2.2.2.2.2.2.2.2.2.2.2.2.2.2.2.2.1.length 64 then (let y2:List qQ:=x4.2.2.2.2.2.2.2.2.2.2.2.2.2.2.2.2.2.2.1
   bif zN (y2.length + x9.2.2.2.2.2.2.2.2.2.2.2.length) 64 then (bif decide (x4.2.2.2.2.2.2.2.2.2.2.2.2.2.2.2.2.2.2.2 > 0) then ((mv k x9.2.2.2.2.2.2.2.1 x4.2.2.2.2.2.2.2.2.2.2.2.2.2.2.2.2.2.2.2).bind fun cm=>
     bif decide (cm ≥ 0) then ((eP k 19 [x4.2.2.2.2.2.2.2.2.2.2.2.2.2.2.2.2.2.2.2]).bind fun cN=>
      bif zN ((y2 ++ x9.2.2.2.2.2.2.2.2.2.2.2).length + 1) 64 then (let y3:List qQ:=((y2++x9.2.2.2.2.2.2.2.2.2.2.2)++[(a2.1,cN)])
       some ((qS x9),y3,0))
      else none)
     else some ((qS x9),(y2++x9.2.2.2.2.2.2.2.2.2.2.2),0))
    else some ((qS x9),(y2++x9.2.2.2.2.2.2.2.2.2.2.2),0))
   else none)
  else none)
 else bif decide (a2.2.1 = 9) then (bif zB a2.1 a1.2.1.length then ((tF k a1.2.2.2.2.2.2.2.1 a2.1).bind fun mI=>
   (eP k 17 [(a1.2.1.getD a2.1.toNat (0,0,0)).1,(a1.2.1.getD a2.1.toNat (0,0,0)).2.1,(a1.2.1.getD a2.1.toNat (0,0,0)).2.2,(mI.length:Int),a1.1]).bind fun se=>
   some (a1,[(a2.1,se)],0))
  else none)
 else bif decide (a2.2.1 = 14) then ((Gt k a0 a1).bind fun oL=>
  some (oL.1,oL.2,0))
 else(xr k (jD a0 (wO a1 (a2.1,0))) a2.2).bind fun bP=>
 bif !(decide (bP.1=0)) then some (a1,[],bP.1)
 else bif !(decide (a2.1 = (-1))) then ((eP k 15 []).bind fun xQ=>
  (nv k bP.2.2.2.2.2.2.1 bP.2.2.2.2.2.2.2.1 bP.2.2.2.2.2.2.2.2.1 bP.2.2.2.2.2.2.2.2.2.1 bP.2.2.2.2.2.2.2.2.2.2.1 bP.2.2.2.2.2.2.2.2.2.2.2.1 bP.2.2.2.2.2.2.2.2.2.2.2.2.1 bP.2.2.2.2.2.2.2.2.2.2.2.2.2.1 bP.2.2.2.2.2.2.2.2.2.2.2.2.2.2.1 bP.2.2.2.2.2.2.2.2.2.2.2.2.2.2.2.1 bP.2.2.2.2.2.2.2.2.2.2.2.2.2.2.2.2.1 (decide (a2.2.1=13))).bind fun iG=>
  bif zN (1 + bP.2.2.2.2.2.2.2.2.2.2.2.2.2.2.2.2.2.2.1.length) 64 then (let y4:List qQ:=([(a2.1,xQ)]++bP.2.2.2.2.2.2.2.2.2.2.2.2.2.2.2.2.2.2.1)
   bif zN (y4.length + iG.2.2.2.2.2.2.2.2.2.2.2.length) 64 then (bif decide (bP.2.2.2.2.2.2.2.2.2.2.2.2.2.2.2.2.2.2.2 > 0) then ((mv k iG.2.2.2.2.2.2.2.1 bP.2.2.2.2.2.2.2.2.2.2.2.2.2.2.2.2.2.2.2).bind fun gH=>
     bif decide (gH ≥ 0) then ((eP k 19 [bP.2.2.2.2.2.2.2.2.2.2.2.2.2.2.2.2.2.2.2]).bind fun nC=>
      bif zN ((y4 ++ iG.2.2.2.2.2.2.2.2.2.2.2).length + 1) 64 then (let y5:List qQ:=((y4++iG.2.2.2.2.2.2.2.2.2.2.2)++[(a2.1,nC)])
       some ((qS iG),y5,0))
      else none)
     else some ((qS iG),(y4++iG.2.2.2.2.2.2.2.2.2.2.2),0))
    else some ((qS iG),(y4++iG.2.2.2.2.2.2.2.2.2.2.2),0))
   else none)
  else none)
 else(nv k bP.2.2.2.2.2.2.1 bP.2.2.2.2.2.2.2.1 bP.2.2.2.2.2.2.2.2.1 bP.2.2.2.2.2.2.2.2.2.1 bP.2.2.2.2.2.2.2.2.2.2.1 bP.2.2.2.2.2.2.2.2.2.2.2.1 bP.2.2.2.2.2.2.2.2.2.2.2.2.1 bP.2.2.2.2.2.2.2.2.2.2.2.2.2.1 bP.2.2.2.2.2.2.2.2.2.2.2.2.2.2.1 bP.2.2.2.2.2.2.2.2.2.2.2.2.2.2.2.1 bP.2.2.2.2.2.2.2.2.2.2.2.2.2.2.2.2.1 (decide (a2.2.1=13))).bind fun nD=>
 bif zN bP.2.2.2.2.2.2.2.2.2.2.2.2.2.2.2.2.2.2.1.length 64 then (let y6:List qQ:=bP.2.2.2.2.2.2.2.2.2.2.2.2.2.2.2.2.2.2.1
  bif zN (y6.length + nD.2.2.2.2.2.2.2.2.2.2.2.length) 64 then (bif decide (bP.2.2.2.2.2.2.2.2.2.2.2.2.2.2.2.2.2.2.2 > 0) then ((mv k nD.2.2.2.2.2.2.2.1 bP.2.2.2.2.2.2.2.2.2.2.2.2.2.2.2.2.2.2.2).bind fun BK=>
    bif decide (BK ≥ 0) then ((eP k 19 [bP.2.2.2.2.2.2.2.2.2.2.2.2.2.2.2.2.2.2.2]).bind fun BL=>
     bif zN ((y6 ++ nD.2.2.2.2.2.2.2.2.2.2.2).length + 1) 64 then (let y7:List qQ:=((y6++nD.2.2.2.2.2.2.2.2.2.2.2)++[(a2.1,BL)])
      some ((qS nD),y7,0))
     else none)
    else some ((qS nD),(y6++nD.2.2.2.2.2.2.2.2.2.2.2),0))
   else some ((qS nD),(y6++nD.2.2.2.2.2.2.2.2.2.2.2),0))
  else none)
 else none
def BB (k:Nat)(bh:uo)(dv:iH)(lO:wC):Option (yA×uo×iH×wC):=
 some ((ui bh),bh,dv,lO)
abbrev qPt:Type:=AC→AC→Int→Option (Unit⊕Bool)
def DN (k:Nat)(rec:qPt)(s0 s1:AC)(s5:Int):Option (Unit⊕Bool):=
 bif decide (s5 < (s0.length : Int)) then (bif zB s5 s0.length then (bif zB s5 s1.length then (bif !(decide ((s0.getD s5.toNat 0)=(s1.getD s5.toNat 0))) then some (.inr false)
    else rec s0 s1 (zA (s5+1)))
   else none)
  else none)
 else some (.inl ())
def IV (k:Nat):Nat→qPt
 |0,_,_,_=>none
 |n+1,s0,s1,s5=>DN k (IV k n) s0 s1 s5
def tx (k:Nat)(a0 a1:AC):Option Bool:=
 bif !(decide ((a0.length:Int)=(a1.length:Int))) then some false
 else(IV k k a0 a1 0).bind fun z=>
 match z with
 |.inl z1=>some true
 |.inr z2=>some z2
abbrev qXp:Type:=EQ→EQ→Int→Option (Unit⊕Bool)
def DO (k:Nat)(rec:qXp)(s0 s1:EQ)(s5:Int):Option (Unit⊕Bool):=
 bif decide (s5 < (s0.length : Int)) then (bif zB s5 s0.length then (bif zB s5 s1.length then ((tx k (s0.getD s5.toNat []) (s1.getD s5.toNat [])).bind fun x0=>
    bif !x0 then some (.inr false)
    else rec s0 s1 (zA (s5+1)))
   else none)
  else none)
 else some (.inl ())
def IW (k:Nat):Nat→qXp
 |0,_,_,_=>none
 |n+1,s0,s1,s5=>DO k (IW k n) s0 s1 s5
def Aw (k:Nat)(a0 a1:EQ):Option Bool:=
 bif !(decide ((a0.length:Int)=(a1.length:Int))) then some false
 else(IW k k a0 a1 0).bind fun z=>
 match z with
 |.inl z1=>some true
 |.inr z2=>some z2
abbrev qMh:Type:=Int→List zI→EQ→AC→EQ→List zI→EQ→AC→EQ→Option (Unit⊕Bool)
def DP (k:Nat)(rec:qMh)(s5:Int)(af:List zI)(ah:EQ)(ai:AC)(ag:EQ)(av:List zI)(aA:EQ)(aB:AC)(aD:EQ):Option (Unit⊕Bool):=
 bif decide (s5 < (af.length : Int)) then (bif zB s5 af.length then (bif zB s5 av.length then (bif !((decide ((af.getD s5.toNat (0,0,0)).1=(av.getD s5.toNat (0,0,0)).1))&&((decide ((af.getD s5.toNat (0,0,0)).2.1=(av.getD s5.toNat (0,0,0)).2.1))&&(decide ((af.getD s5.toNat (0,0,0)).2.2=(av.getD s5.toNat (0,0,0)).2.2)))) then some (.inr false)
    else rec (zA (s5+1)) af ah ai ag av aA aB aD)
   else none)
  else none)
 else some (.inl ())
def IY (k:Nat):Nat→qMh
 |0,_,_,_,_,_,_,_,_,_=>none
 |n+1,s5,af,ah,ai,ag,av,aA,aB,aD=>DP k (IY k n) s5 af ah ai ag av aA aB aD
def IX (k:Nat)(au:List zI)(az:EQ)(ay:AC)(ax:EQ)(cT:List zI)(iI:EQ)(iJ:AC)(iK:EQ):Option Bool:=
 bif !(decide ((au.length:Int)=(cT.length:Int))) then some false
 else(Aw k az iI).bind fun x0=>
 bif !x0 then some false
 else(Aw k ax iK).bind fun x1=>
 bif !x1 then some false
 else(tx k ay iJ).bind fun x2=>
 bif !x2 then some false
 else(IY k k 0 au az ay ax cT iI iJ iK).bind fun z=>
 match z with
 |.inl z1=>some true
 |.inr z2=>some z2
abbrev qY3:Type:=List zC→List zC→Int→Option (Unit⊕Bool)
def GG (k:Nat)(rec:qY3)(s0 s1:List zC)(s5:Int):Option (Unit⊕Bool):=
 bif decide (s5 < (s0.length : Int)) then (bif zB s5 s0.length then (bif zB s5 s1.length then (bif !((decide ((s0.getD s5.toNat (0,0,0,0,0,0,0)).1=(s1.getD s5.toNat (0,0,0,0,0,0,0)).1))&&((decide ((s0.getD s5.toNat (0,0,0,0,0,0,0)).2.1=(s1.getD s5.toNat (0,0,0,0,0,0,0)).2.1))&&((decide ((s0.getD s5.toNat (0,0,0,0,0,0,0)).2.2.1=(s1.getD s5.toNat (0,0,0,0,0,0,0)).2.2.1))&&((decide ((s0.getD s5.toNat (0,0,0,0,0,0,0)).2.2.2.1=(s1.getD s5.toNat (0,0,0,0,0,0,0)).2.2.2.1))&&((decide ((s0.getD s5.toNat (0,0,0,0,0,0,0)).2.2.2.2.1=(s1.getD s5.toNat (0,0,0,0,0,0,0)).2.2.2.2.1))&&((decide ((s0.getD s5.toNat (0,0,0,0,0,0,0)).2.2.2.2.2.1=(s1.getD s5.toNat (0,0,0,0,0,0,0)).2.2.2.2.2.1))&&(decide ((s0.getD s5.toNat (0,0,0,0,0,0,0)).2.2.2.2.2.2=(s1.getD s5.toNat (0,0,0,0,0,0,0)).2.2.2.2.2.2)))))))) then some (.inr false)
    else rec s0 s1 (zA (s5+1)))
   else none)
  else none)
 else some (.inl ())
def KW (k:Nat):Nat→qY3
 |0,_,_,_=>none
 |n+1,s0,s1,s5=>GG k (KW k n) s0 s1 s5
def KV (k:Nat)(a0 a1:List zC):Option Bool:=
 bif !(decide ((a0.length:Int)=(a1.length:Int))) then some false
 else(KW k k a0 a1 0).bind fun z=>
 match z with
 |.inl z1=>some true
 |.inr z2=>some z2
def Px (k:Nat)(a0 a1:yA):Option Bool:=
 bif decide (a0.1 = a1.1) then (bif decide (a0.2.2.2.2.2.2.2.2.2.1 = a1.2.2.2.2.2.2.2.2.2.1) then (bif mK a0.2.2.2.2.2.2.2.2.2.2 a1.2.2.2.2.2.2.2.2.2.2 then ((IX k a0.2.1 a0.2.2.1 a0.2.2.2.1 a0.2.2.2.2.1 a1.2.1 a1.2.2.1 a1.2.2.2.1 a1.2.2.2.2.1).bind fun x0=>
    bif x0 then ((tx k a0.2.2.2.2.2.1 a1.2.2.2.2.2.1).bind fun x1=>
     bif x1 then ((Aw k a0.2.2.2.2.2.2.1 a1.2.2.2.2.2.2.1).bind fun x2=>
      bif x2 then ((KV k a0.2.2.2.2.2.2.2.1 a1.2.2.2.2.2.2.2.1).bind fun x3=>
       bif x3 then ((tx k a0.2.2.2.2.2.2.2.2.1 a1.2.2.2.2.2.2.2.2.1).bind fun x4=>
        some x4)
       else some false)
      else some false)
     else some false)
    else some false)
   else some false)
  else some false)
 else some false
abbrev qIu:Type:=AC→Int→Int→AC→Option Yt
def OM (k:Nat)(rec:qIu)(s0:AC)(s4 s5:Int)(r0:AC):Option Yt:=
 bif decide (s5 ≥ 0) then (bif zB s4 s0.length then (bif !(decide ((IntKind.wrap .u64 (s5)) < 0)) then (bif zN (r0.length+1) 1 then(rec s0 s4 (zA (s5-8)) (r0++[(IntKind.wrap .u8 ((shr .u64 (IntKind.wrap .u64 ((s0.getD s4.toNat 0))) (IntKind.wrap .u64 (s5)))))]))
    else none)
   else none)
  else none)
 else some (s0,s4,r0)
def J4 (k:Nat):Nat→qIu:=qZ (fun _ _ _ _=>none) (OM k)
def FE (k:Nat)(rec:yY5)(s0:AC)(s4:Int)(r0:AC):Option AC:=
 bif decide (s4 < (s0.length : Int)) then ((J4 k k s0 s4 56 r0).bind fun z=>
  rec z.1 (zA (z.2.1+1)) z.2.2)
 else some r0
def A4 (k:Nat):Nat→yY5:=qZ (fun _ _ _=>none) (FE k)
def xd (k:Nat)(a0:AC):Option AC:=
 (A4 k k a0 0 []).bind fun z1=>
 some z1
def jn (k:Nat)(a0:AC):Option AC:=
 (xd k [(a0.length:Int)]).bind fun x0=>
 (xd k a0).bind fun x1=>
 bif zN (x0.length+x1.length) 1 then some (x0++x1)
 else none
abbrev qM3:Type:=EQ→Int→AC→Option AC
def FG (k:Nat)(rec:qM3)(s0:EQ)(s4:Int)(r0:AC):Option AC:=
 bif decide (s4 < (s0.length : Int)) then (bif zB s4 s0.length then ((jn k (s0.getD s4.toNat [])).bind fun x0=>
   bif zN (r0.length+x0.length) 1 then(rec s0 (zA (s4+1)) (r0++x0))
   else none)
  else none)
 else some r0
def FF (k:Nat):Nat→qM3:=qZ (fun _ _ _=>none) (FG k)
def oF (k:Nat)(a0:EQ):Option AC:=
 (FF k k a0 0 []).bind fun z=>
 some z
abbrev qTm:Type:=yA×xR×AC
abbrev qJt:Type:=Int→yA→xR→AC→Option qTm
def FH (k:Nat)(rec:qJt)(s6:Int)(b0:yA)(b1:xR)(r2:AC):Option qTm:=
 bif decide (s6 < (b1.1.length : Int)) then (bif zB s6 b1.1.length then (bif zB s6 b1.1.length then (bif zB s6 b1.1.length then ((jn k [(b1.1.getD s6.toNat (0,0,0)).1,(b1.1.getD s6.toNat (0,0,0)).2.1,(b1.1.getD s6.toNat (0,0,0)).2.2]).bind fun x1=>
     bif zN (r2.length+x1.length) 1 then(rec (zA (s6+1)) b0 b1 (r2++x1))
     else none)
    else none)
   else none)
  else none)
 else some (b0,b1,r2)
def tS (k:Nat):Nat→qJt:=qZ (fun _ _ _ _=>none) (FH k)
abbrev qOg:Type:=yA×AC
abbrev qR5:Type:=Int→yA→AC→Option qOg
def FI (k:Nat)(rec:qR5)(s7:Int)(b0:yA)(r1:AC):Option qOg:=
 bif decide (s7 < (b0.2.2.2.2.2.2.2.1.length : Int)) then (bif zB s7 b0.2.2.2.2.2.2.2.1.length then ((jn k [(b0.2.2.2.2.2.2.2.1.getD s7.toNat (0,0,0,0,0,0,0)).1,(b0.2.2.2.2.2.2.2.1.getD s7.toNat (0,0,0,0,0,0,0)).2.1,(b0.2.2.2.2.2.2.2.1.getD s7.toNat (0,0,0,0,0,0,0)).2.2.1,(b0.2.2.2.2.2.2.2.1.getD s7.toNat (0,0,0,0,0,0,0)).2.2.2.1,(b0.2.2.2.2.2.2.2.1.getD s7.toNat (0,0,0,0,0,0,0)).2.2.2.2.1,(b0.2.2.2.2.2.2.2.1.getD s7.toNat (0,0,0,0,0,0,0)).2.2.2.2.2.1,(b0.2.2.2.2.2.2.2.1.getD s7.toNat (0,0,0,0,0,0,0)).2.2.2.2.2.2]).bind fun x7=>
   bif zN (r1.length+x7.length) 1 then(rec (zA (s7+1)) b0 (r1++x7))
   else none)
  else none)
 else some (b0,r1)
def tT (k:Nat):Nat→qR5:=qZ (fun _ _ _=>none) (FI k)
def FJ (k:Nat)(a0:yA):Option AC:=
 bif a0.2.2.2.2.2.2.2.2.2.2 then ((jn k [a0.1,a0.2.2.2.2.2.2.2.2.2.1,1,(a0.2.1.length:Int),(a0.2.2.1.length:Int),(a0.2.2.2.1.length:Int),(a0.2.2.2.2.1.length:Int),(a0.2.2.2.2.2.2.1.length:Int),(a0.2.2.2.2.2.2.2.1.length:Int)]).bind fun x0=>
  (tS k k 0 a0 (GZ a0) x0).bind fun z=>
  (oF k z.2.1.2.1).bind fun x2=>
  bif zN (z.2.2.length + x2.length) 1 then ((jn k z.2.1.2.2.1).bind fun x3=>
   bif zN ((z.2.2 ++ x2).length + x3.length) 1 then ((oF k z.2.1.2.2.2).bind fun x4=>
    bif zN (((z.2.2 ++ x2) ++ x3).length + x4.length) 1 then ((jn k z.1.2.2.2.2.2.1).bind fun x5=>
     bif zN ((((z.2.2 ++ x2) ++ x3) ++ x4).length + x5.length) 1 then ((oF k z.1.2.2.2.2.2.2.1).bind fun x6=>
      bif zN (((((z.2.2 ++ x2) ++ x3) ++ x4) ++ x5).length + x6.length) 1 then ((tT k k 0 z.1 (((((z.2.2++x2)++x3)++x4)++x5)++x6)).bind fun z1=>
       (jn k z1.1.2.2.2.2.2.2.2.2.1).bind fun x8=>
       bif zN (z1.2.length+x8.length) 1 then some (z1.2++x8)
       else none)
      else none)
     else none)
    else none)
   else none)
  else none)
 else(jn k [a0.1,a0.2.2.2.2.2.2.2.2.2.1,0,(a0.2.1.length:Int),(a0.2.2.1.length:Int),(a0.2.2.2.1.length:Int),(a0.2.2.2.2.1.length:Int),(a0.2.2.2.2.2.2.1.length:Int),(a0.2.2.2.2.2.2.2.1.length:Int)]).bind fun x9=>
 (tS k k 0 a0 (GZ a0) x9).bind fun z2=>
 (oF k z2.2.1.2.1).bind fun cm=>
 bif zN (z2.2.2.length + cm.length) 1 then ((jn k z2.2.1.2.2.1).bind fun cN=>
  bif zN ((z2.2.2 ++ cm).length + cN.length) 1 then ((oF k z2.2.1.2.2.2).bind fun mI=>
   bif zN (((z2.2.2 ++ cm) ++ cN).length + mI.length) 1 then ((jn k z2.1.2.2.2.2.2.1).bind fun se=>
    bif zN ((((z2.2.2 ++ cm) ++ cN) ++ mI).length + se.length) 1 then ((oF k z2.1.2.2.2.2.2.2.1).bind fun oL=>
     bif zN (((((z2.2.2 ++ cm) ++ cN) ++ mI) ++ se).length + oL.length) 1 then ((tT k k 0 z2.1 (((((z2.2.2++cm)++cN)++mI)++se)++oL)).bind fun z3=>
      (jn k z3.1.2.2.2.2.2.2.2.2.1).bind fun bP=>
      bif zN (z3.2.length+bP.length) 1 then some (z3.2++bP)
      else none)
     else none)
    else none)
   else none)
  else none)
 else none
def WD (k:Nat)(a0:AC):Option (AC×AC×Bool):=
 bif decide ((a0.length:Int)<8) then some ([],[],false)
 else bif decide (8 ≤ (a0.length : Int)) then ((M9 k (List.take 8 a0)).bind fun x0=>
  bif decide (x0<0) then some ([],[],false)
  else bif decide (x0>(zA (Int.tdiv (zA ((a0.length:Int)-8)) 8))) then some ([],[],false)
  else bif (decide (8 ≤ (zA (8 + (zA (8 * x0)))))) && (decide ((zA (8 + (zA (8 * x0)))) ≤ (a0.length : Int))) then ((Uz k (qR a0 8 ((zA (8+(zA (8*x0)))).toNat-8))).bind fun x1=>
   bif (decide (0≤(zA (8+(zA (8*x0))))))&&(decide ((zA (8+(zA (8*x0))))≤(a0.length:Int))) then some (x1.1,(List.drop (zA (8+(zA (8*x0)))).toNat a0),true)
   else none)
  else none)
 else none
def A6 (k:Nat)(a0:wS):Option (AC×wS):=
 (WD k a0.1).bind fun x0=>
 bif a0.2 then some (x0.1,x0.2)
 else some (x0.1,x0.2.1,false)
def J8 (k:Nat)(a0:wS)(a1:Int):Option (AC×wS):=
 (A6 k a0).bind fun x0=>
 bif !(decide ((x0.1.length : Int) = a1)) then (bif o0 a1 a1 8 then some ((List.replicate a1.toNat (0:Int)),x0.2.1,false)
  else none)
 else some (x0.1,x0.2)
abbrev vBu:Type:=Int→Int→wS→EQ→Option Zb
def Kb (k:Nat)(rec:vBu)(s1 s6:Int)(b0:wS)(r1:EQ):Option Zb:=
 bif decide (s6 < s1) then (bif b0.2 then ((A6 k b0).bind fun x0=>
   bif zN (r1.length+1) 24 then(rec s1 (zA (s6+1)) x0.2 (r1++[x0.1]))
   else none)
  else some (b0,r1))
 else some (b0,r1)
def Ka (k:Nat):Nat→vBu:=qZ (fun _ _ _ _=>none) (Kb k)
def J9 (k:Nat)(a0:wS)(a1:Int):Option (EQ×wS):=
 (Ka k k a1 0 a0 []).bind fun z=>
 some (z.2,z.1)
def Ke (k:Nat)(rec:Ze)(s0:AC)(s7:Int)(b0:yF)(b1:wS)(r2:AC)(b3:yF)(r4:List zI):Option Zf:=
 bif zB 3 r2.length then (bif decide (s7 < (r2.getD 3 0)) then (bif b1.2 then ((J8 k b1 3).bind fun x1=>
    bif zB 0 x1.1.length then (bif zB 1 x1.1.length then (bif zB 2 x1.1.length then (bif zN (r4.length + 1) 24 then (let y0:List zI:=(r4++[((x1.1.getD 0 0),(x1.1.getD 1 0),(x1.1.getD 2 0))])
        rec s0 (zA (s7+1)) b0 x1.2 r2 b3 y0)
       else none)
      else none)
     else none)
    else none)
   else some (s0,b0,b1,r2,b3,r4))
  else some (s0,b0,b1,r2,b3,r4))
 else none
def Kc (k:Nat):Nat→Ze:=qZ (fun _ _ _ _ _ _ _=>none) (Ke k)
abbrev yEc:Type:=AC→Int→yF→wS→AC→yF→List zI→EQ→AC→EQ→AC→EQ→List zC→Option Zh
def Kg (k:Nat)(rec:yEc)(s0:AC)(s9:Int)(b0:yF)(b1:wS)(r2:AC)(b3:yF)(r4:List zI)(r5:EQ)(r6:AC)(r7:EQ)(r8:AC)(r9:EQ)(Q2:List zC):Option Zh:=
 bif zB 8 r2.length then (bif decide (s9 < (r2.getD 8 0)) then (bif b1.2 then ((J8 k b1 7).bind fun x7=>
    bif zB 0 x7.1.length then (bif zB 1 x7.1.length then (bif zB 2 x7.1.length then (bif zB 3 x7.1.length then (bif zB 4 x7.1.length then (bif zB 5 x7.1.length then (bif zB 6 x7.1.length then (bif zN (Q2.length + 1) 56 then (let y1:List zC:=(Q2++[((x7.1.getD 0 0),(x7.1.getD 1 0),(x7.1.getD 2 0),(x7.1.getD 3 0),(x7.1.getD 4 0),(x7.1.getD 5 0),(x7.1.getD 6 0))])
            rec s0 (zA (s9+1)) b0 x7.2 r2 b3 r4 r5 r6 r7 r8 r9 y1)
           else none)
          else none)
         else none)
        else none)
       else none)
      else none)
     else none)
    else none)
   else some (s0,b0,b1,b3,r4,r5,r6,r7,r8,r9,Q2))
  else some (s0,b0,b1,b3,r4,r5,r6,r7,r8,r9,Q2))
 else none
def Kf (k:Nat):Nat→yEc:=qZ (fun _ _ _ _ _ _ _ _ _ _ _ _ _=>none) (Kg k)
def WI (k:Nat)(a0:AC):Option (yA×Bool):=
 (J8 k (a0,true) 9).bind fun x0=>
 bif zB 0 x0.1.length then (bif zB 1 x0.1.length then (bif zB 2 x0.1.length then ((Kc k k a0 0 (0,0,false) x0.2 x0.1 ((x0.1.getD 0 0),(x0.1.getD 1 0),(decide ((x0.1.getD 2 0)=1))) []).bind fun z=>
    bif zB 4 z.2.2.2.1.length then ((J9 k z.2.2.1 (z.2.2.2.1.getD 4 0)).bind fun x2=>
     (A6 k x2.2).bind fun x3=>
     bif zB 6 z.2.2.2.1.length then ((J9 k x3.2 (z.2.2.2.1.getD 6 0)).bind fun x4=>
      (A6 k x4.2).bind fun x5=>
      bif zB 7 z.2.2.2.1.length then ((J9 k x5.2 (z.2.2.2.1.getD 7 0)).bind fun x6=>
       (Kf k k z.1 0 z.2.1 x6.2 z.2.2.2.1 z.2.2.2.2.1 z.2.2.2.2.2 x2.1 x3.1 x4.1 x5.1 x6.1 []).bind fun z1=>
       (A6 k z1.2.2.1).bind fun x8=>
       bif !x8.2.2 then some ((0,[],[],[],[],[],[],[],[],0,false),false)
       else bif decide ((x8.2.1.length:Int)>0) then some ((0,[],[],[],[],[],[],[],[],0,false),false)
       else(FJ k (z1.2.2.2.1.1,(Lf z1 (x8.1,z1.2.2.2.1.2)))).bind fun x9=>
       bif !(qa x9 z1.1) then some ((0,[],[],[],[],[],[],[],[],0,false),false)
       else some ((z1.2.2.2.1.1,(Lf z1 (x8.1,z1.2.2.2.1.2))),true))
      else none)
     else none)
    else none)
   else none)
  else none)
 else none
def Bn (k:Nat)(a0:zC):Option (Unit⊕(AC)):=
 (rQ k a0).bind fun x0=>
 bif !x0 then some (.inl ())
 else(Df k a0.1).bind fun x1=>
 bif (decide (0 ≤ x1)) && (decide (x1 ≤ 6)) then ((xd k (qR [a0.2.1,a0.2.2.1,a0.2.2.2.1,a0.2.2.2.2.1,a0.2.2.2.2.2.1,a0.2.2.2.2.2.2] 0 (x1.toNat-0))).bind fun x2=>
  bif zN (1+x2.length) 1 then some (.inr ([(IntKind.wrap .u8 (a0.1))]++x2))
  else none)
 else none
def sb (k:Nat):Option Bool:=
 some true
def qVz (k:Nat)(a1:Int)(a2:AC):Option (List qQ):=
 (sb k).bind fun x0=>
 bif x0 then some []
 else(Dh k a2).bind fun x1=>
 bif !(decide (x1.2 = 0)) then ((Lj k a1 x1.2).bind fun x2=>
  some x2)
 else none
def Ls (k:Nat):Option yA:=
 some (0,[],[],[],[],[],[],[],[],0,false)
def jq (k:Nat)(a0:Int):Option yZ:=
 bif decide ((yJ .i64 a0 3)=1) then some (4,[(100,1000),(7,0)],12,20,100)
 else bif decide ((yJ .i64 a0 3)=2) then some (3,[],20,20,4)
 else bif decide ((yJ .i64 a0 3)=3) then some (3,[(100,1000),(7,0)],0,6,1)
 else some (3,[(100,1000),(7,0)],12,20,4)
def Yi (k:Nat):Option Bool:=
 (PH k 20000).bind fun x0=>
 (jq k 0).bind fun x1=>
 (fI k x1 x0 100).bind fun x2=>
 match x2 with
 |.inl x3=>(eP k 10 [0,5]).bind fun x4=>
  (Bn k x4).bind fun x5=>
  match x5 with
  |.inl x6=>(qRr k x3.2.2.1 x3.2.2.2 x3.2.1 (-1) []).bind fun x7=>
   (jq k 0).bind fun x8=>
   (fI k x8 x7.2.2.2 100).bind fun x9=>
   match x9 with
   |.inl cm=>(BB k cm.2.2.1 cm.2.2.2 cm.2.1).bind fun cN=>
    (jq k 0).bind fun mI=>
    (fI k mI cN.2.2.2 0).bind fun se=>
    match se with
    | .inl oL => bif decide (x3.1 = 0) then (bif decide ((x7.1.length : Int) = 0) then (bif decide (cm.1 = 0) then (bif decide ((cN.1.2.1.length : Int) = 3) then (bif zB 0 cN.1.2.1.length then (bif decide ((cN.1.2.1.getD 0 (0, 0, 0)).1 = 5) then ((rZ k x7.2.1 x7.2.2.1 oL.2.1).bind fun bP=>
           bif !bP.1 then some (decide (oL.1=1))
           else some false)
          else some false)
         else none)
        else some false)
       else some false)
      else some false)
     else some false
    | .inr xQ => bif decide (x3.1 = 0) then (bif decide ((x7.1.length : Int) = 0) then (bif decide (cm.1 = 0) then (bif decide ((cN.1.2.1.length : Int) = 3) then (bif zB 0 cN.1.2.1.length then (bif decide ((cN.1.2.1.getD 0 (0, 0, 0)).1 = 5) then ((rZ k x7.2.1 x7.2.2.1 xQ.2).bind fun iG=>
           bif !iG.1 then some (decide (xQ.1=1))
           else some false)
          else some false)
         else none)
        else some false)
       else some false)
      else some false)
     else some false
   |.inr gH=>(Ls k).bind fun nC=>
    (jq k 0).bind fun nD=>
    (fI k nD gH.2 0).bind fun BK=>
    match BK with
    | .inl BL => bif decide (x3.1 = 0) then (bif decide ((x7.1.length : Int) = 0) then (bif decide (gH.1 = 0) then (bif decide ((nC.2.1.length : Int) = 3) then (bif zB 0 nC.2.1.length then (bif decide ((nC.2.1.getD 0 (0, 0, 0)).1 = 5) then ((rZ k x7.2.1 x7.2.2.1 BL.2.1).bind fun x23=>
           bif !x23.1 then some (decide (BL.1=1))
           else some false)
          else some false)
         else none)
        else some false)
       else some false)
      else some false)
     else some false
    | .inr BM => bif decide (x3.1 = 0) then (bif decide ((x7.1.length : Int) = 0) then (bif decide (gH.1 = 0) then (bif decide ((nC.2.1.length : Int) = 3) then (bif zB 0 nC.2.1.length then (bif decide ((nC.2.1.getD 0 (0, 0, 0)).1 = 5) then ((rZ k x7.2.1 x7.2.2.1 BM.2).bind fun x25=>
           bif !x25.1 then some (decide (BM.1=1))
           else some false)
          else some false)
         else none)
        else some false)
       else some false)
      else some false)
     else some false
  |.inr x26=>(qRr k x3.2.2.1 x3.2.2.2 x3.2.1 (-1) x26).bind fun lP=>
   (jq k 0).bind fun x28=>
   (fI k x28 lP.2.2.2 100).bind fun x29=>
   match x29 with
   |.inl Lu=>(BB k Lu.2.2.1 Lu.2.2.2 Lu.2.1).bind fun BN=>
    (jq k 0).bind fun x32=>
    (fI k x32 BN.2.2.2 0).bind fun x33=>
    match x33 with
    | .inl x34 => bif decide (x3.1 = 0) then (bif decide ((lP.1.length : Int) = 0) then (bif decide (Lu.1 = 0) then (bif decide ((BN.1.2.1.length : Int) = 3) then (bif zB 0 BN.1.2.1.length then (bif decide ((BN.1.2.1.getD 0 (0, 0, 0)).1 = 5) then ((rZ k lP.2.1 lP.2.2.1 x34.2.1).bind fun x35=>
           bif !x35.1 then some (decide (x34.1=1))
           else some false)
          else some false)
         else none)
        else some false)
       else some false)
      else some false)
     else some false
    | .inr x36 => bif decide (x3.1 = 0) then (bif decide ((lP.1.length : Int) = 0) then (bif decide (Lu.1 = 0) then (bif decide ((BN.1.2.1.length : Int) = 3) then (bif zB 0 BN.1.2.1.length then (bif decide ((BN.1.2.1.getD 0 (0, 0, 0)).1 = 5) then ((rZ k lP.2.1 lP.2.2.1 x36.2).bind fun x37=>
           bif !x37.1 then some (decide (x36.1=1))
           else some false)
          else some false)
         else none)
        else some false)
       else some false)
      else some false)
     else some false
   |.inr x38=>(Ls k).bind fun G2=>
    (jq k 0).bind fun x40=>
    (fI k x40 x38.2 0).bind fun x41=>
    match x41 with
    | .inl x42 => bif decide (x3.1 = 0) then (bif decide ((lP.1.length : Int) = 0) then (bif decide (x38.1 = 0) then (bif decide ((G2.2.1.length : Int) = 3) then (bif zB 0 G2.2.1.length then (bif decide ((G2.2.1.getD 0 (0, 0, 0)).1 = 5) then ((rZ k lP.2.1 lP.2.2.1 x42.2.1).bind fun x43=>
           bif !x43.1 then some (decide (x42.1=1))
           else some false)
          else some false)
         else none)
        else some false)
       else some false)
      else some false)
     else some false
    | .inr x44 => bif decide (x3.1 = 0) then (bif decide ((lP.1.length : Int) = 0) then (bif decide (x38.1 = 0) then (bif decide ((G2.2.1.length : Int) = 3) then (bif zB 0 G2.2.1.length then (bif decide ((G2.2.1.getD 0 (0, 0, 0)).1 = 5) then ((rZ k lP.2.1 lP.2.2.1 x44.2).bind fun x45=>
           bif !x45.1 then some (decide (x44.1=1))
           else some false)
          else some false)
         else none)
        else some false)
       else some false)
      else some false)
     else some false
 |.inr sf=>(eP k 10 [0,5]).bind fun x47=>
  (Bn k x47).bind fun x48=>
  match x48 with
  |.inl x49=>(qVz k (-1) []).bind fun Q3=>
   (jq k 0).bind fun x51=>
   (fI k x51 sf.2 100).bind fun x52=>
   match x52 with
   |.inl Lv=>(BB k Lv.2.2.1 Lv.2.2.2 Lv.2.1).bind fun BO=>
    (jq k 0).bind fun x55=>
    (fI k x55 BO.2.2.2 0).bind fun x56=>
    match x56 with
    | .inl x57 => bif decide (sf.1 = 0) then (bif decide ((Q3.length : Int) = 0) then (bif decide (Lv.1 = 0) then (bif decide ((BO.1.2.1.length : Int) = 3) then (bif zB 0 BO.1.2.1.length then (bif decide ((BO.1.2.1.getD 0 (0, 0, 0)).1 = 5) then ((sb k).bind fun x58=>
           bif !x58 then some (decide (x57.1=1))
           else some false)
          else some false)
         else none)
        else some false)
       else some false)
      else some false)
     else some false
    | .inr x59 => bif decide (sf.1 = 0) then (bif decide ((Q3.length : Int) = 0) then (bif decide (Lv.1 = 0) then (bif decide ((BO.1.2.1.length : Int) = 3) then (bif zB 0 BO.1.2.1.length then (bif decide ((BO.1.2.1.getD 0 (0, 0, 0)).1 = 5) then ((sb k).bind fun x60=>
           bif !x60 then some (decide (x59.1=1))
           else some false)
          else some false)
         else none)
        else some false)
       else some false)
      else some false)
     else some false
   |.inr x61=>(Ls k).bind fun G3=>
    (jq k 0).bind fun x63=>
    (fI k x63 x61.2 0).bind fun x64=>
    match x64 with
    | .inl x65 => bif decide (sf.1 = 0) then (bif decide ((Q3.length : Int) = 0) then (bif decide (x61.1 = 0) then (bif decide ((G3.2.1.length : Int) = 3) then (bif zB 0 G3.2.1.length then (bif decide ((G3.2.1.getD 0 (0, 0, 0)).1 = 5) then ((sb k).bind fun x66=>
           bif !x66 then some (decide (x65.1=1))
           else some false)
          else some false)
         else none)
        else some false)
       else some false)
      else some false)
     else some false
    | .inr x67 => bif decide (sf.1 = 0) then (bif decide ((Q3.length : Int) = 0) then (bif decide (x61.1 = 0) then (bif decide ((G3.2.1.length : Int) = 3) then (bif zB 0 G3.2.1.length then (bif decide ((G3.2.1.getD 0 (0, 0, 0)).1 = 5) then ((sb k).bind fun x68=>
           bif !x68 then some (decide (x67.1=1))
           else some false)
          else some false)
         else none)
        else some false)
       else some false)
      else some false)
     else some false
  |.inr x69=>(qVz k (-1) x69).bind fun Q4=>
   (jq k 0).bind fun x71=>
   (fI k x71 sf.2 100).bind fun x72=>
   match x72 with
   |.inl Lw=>(BB k Lw.2.2.1 Lw.2.2.2 Lw.2.1).bind fun BP=>
    (jq k 0).bind fun x75=>
    (fI k x75 BP.2.2.2 0).bind fun x76=>
    match x76 with
    | .inl x77 => bif decide (sf.1 = 0) then (bif decide ((Q4.length : Int) = 0) then (bif decide (Lw.1 = 0) then (bif decide ((BP.1.2.1.length : Int) = 3) then (bif zB 0 BP.1.2.1.length then (bif decide ((BP.1.2.1.getD 0 (0, 0, 0)).1 = 5) then ((sb k).bind fun x78=>
           bif !x78 then some (decide (x77.1=1))
           else some false)
          else some false)
         else none)
        else some false)
       else some false)
      else some false)
     else some false
    | .inr x79 => bif decide (sf.1 = 0) then (bif decide ((Q4.length : Int) = 0) then (bif decide (Lw.1 = 0) then (bif decide ((BP.1.2.1.length : Int) = 3) then (bif zB 0 BP.1.2.1.length then (bif decide ((BP.1.2.1.getD 0 (0, 0, 0)).1 = 5) then ((sb k).bind fun x80=>
           bif !x80 then some (decide (x79.1=1))
           else some false)
          else some false)
         else none)
        else some false)
       else some false)
      else some false)
     else some false
   |.inr x81=>(Ls k).bind fun G4=>
    (jq k 0).bind fun x83=>
    (fI k x83 x81.2 0).bind fun x84=>
    match x84 with
    | .inl x85 => bif decide (sf.1 = 0) then (bif decide ((Q4.length : Int) = 0) then (bif decide (x81.1 = 0) then (bif decide ((G4.2.1.length : Int) = 3) then (bif zB 0 G4.2.1.length then (bif decide ((G4.2.1.getD 0 (0, 0, 0)).1 = 5) then ((sb k).bind fun x86=>
           bif !x86 then some (decide (x85.1=1))
           else some false)
          else some false)
         else none)
        else some false)
       else some false)
      else some false)
     else some false
    | .inr x87 => bif decide (sf.1 = 0) then (bif decide ((Q4.length : Int) = 0) then (bif decide (x81.1 = 0) then (bif decide ((G4.2.1.length : Int) = 3) then (bif zB 0 G4.2.1.length then (bif decide ((G4.2.1.getD 0 (0, 0, 0)).1 = 5) then ((sb k).bind fun x88=>
           bif !x88 then some (decide (x87.1=1))
           else some false)
          else some false)
         else none)
        else some false)
       else some false)
      else some false)
     else some false
def GI (k:Nat)(a0:AC):Option wS:=
 bif decide ((a0.length:Int)>60000) then some ([],false)
 else bif zN (2 + a0.length) 1 then (let y0:AC:=([(IntKind.wrap .u8 ((zA (Int.tdiv (a0.length:Int) 256)))),(IntKind.wrap .u8 ((Int.tmod (a0.length:Int) 256)))]++a0)
  some (y0,true))
 else none
def Bx (k:Nat)(a0:qQ):Option (Unit⊕(AC)):=
 (Bn k a0.2).bind fun x0=>
 match x0 with
 |.inl x1=>some (.inl ())
 | .inr x2 => bif Nat.blt 0 x2.length then ((xd k [a0.1]).bind fun x3=>
   bif zN (x3.length+x2.length) 1 then some (.inr (x3++x2))
   else none)
  else none
abbrev qO8:Type:=(List qQ)×Int×yZ×yA
abbrev qVg:Type:=List qQ→List qQ→Int→Int→yZ→yA→Option qO8
def GK (k:Nat)(rec:qVg)(s1 s2:List qQ)(s3 aN:Int)(b0:yZ)(b1:yA):Option qO8:=
 bif decide (aN < (s1.length : Int)) then (bif zB aN s1.length then ((xu k b0 b1 (s1.getD aN.toNat (0,0,0,0,0,0,0,0))).bind fun x2=>
   rec s1 s2 s3 (zA (aN+1)) b0 x2.1)
  else none)
 else some (s2,s3,b0,b1)
def GJ (k:Nat):Nat→qVg:=qZ (fun _ _ _ _ _ _=>none) (GK k)
abbrev qIe:Type:=yZ×yA×G5×AC×AC
abbrev qMp:Type:=List qQ→Int→yZ→yA→G5→AC→AC→Option qIe
def xC (k:Nat)(rec:qMp)(s2:List qQ)(aP:Int)(b0:yZ)(b1:yA)(b2:G5)(r3 r4:AC):Option qIe:=
 bif decide (aP < (s2.length : Int)) then (bif zB aP s2.length then ((Bx k (s2.getD aP.toNat (0,0,0,0,0,0,0,0))).bind fun x8=>
   match x8 with
   |.inl x9=>(GI k []).bind fun cm=>
    (tw k (b2.1,r3,b2.2.1,r4,b2.2.2) 1 cm.1).bind fun cN=>
    bif zB aP s2.length then ((Bx k (s2.getD aP.toNat (0,0,0,0,0,0,0,0))).bind fun mI=>
     match mI with
     |.inl se=>rec s2 (zA (aP+1)) b0 b1 (cN.2.1,cN.2.2.2.1,cN.2.2.2.2.2) cN.2.2.1 cN.2.2.2.2.1
     | .inr oL => bif Nat.blt 0 oL.length then (bif zB aP s2.length then ((xu k b0 b1 (s2.getD aP.toNat (0,0,0,0,0,0,0,0))).bind fun bP=>
        rec s2 (zA (aP+1)) b0 bP.1 (cN.2.1,cN.2.2.2.1,cN.2.2.2.2.2) cN.2.2.1 cN.2.2.2.2.1)
       else none)
      else none)
    else none
   |.inr xQ=>(GI k xQ).bind fun iG=>
    (tw k (b2.1,r3,b2.2.1,r4,b2.2.2) 1 iG.1).bind fun gH=>
    bif zB aP s2.length then ((Bx k (s2.getD aP.toNat (0,0,0,0,0,0,0,0))).bind fun nC=>
     match nC with
     |.inl nD=>rec s2 (zA (aP+1)) b0 b1 (gH.2.1,gH.2.2.2.1,gH.2.2.2.2.2) gH.2.2.1 gH.2.2.2.2.1
     | .inr BK => bif Nat.blt 0 BK.length then (bif zB aP s2.length then ((xu k b0 b1 (s2.getD aP.toNat (0,0,0,0,0,0,0,0))).bind fun BL=>
        rec s2 (zA (aP+1)) b0 BL.1 (gH.2.1,gH.2.2.2.1,gH.2.2.2.2.2) gH.2.2.1 gH.2.2.2.2.1)
       else none)
      else none)
    else none)
  else none)
 else some (b0,b1,b2,r3,r4)
def BA (k:Nat):Nat→qMp:=qZ (fun _ _ _ _ _ _ _=>none) (xC k)
def PK (k:Nat)(a0:Int)(a1 a2:List qQ)(a3:Int):Option Bool:=
 bif decide ((a1.length:Int)>50) then some true
 else bif decide ((a2.length:Int)>30) then some true
 else bif decide (a3<1) then some true
 else bif decide (a3>2305843009213693952) then some true
 else(jq k a0).bind fun x0=>
 (Yc k x0).bind fun x1=>
 (GJ k k a1 a2 a3 0 x0 x1).bind fun z=>
 (PH k 200000).bind fun x3=>
 (xd k [z.2.1]).bind fun x4=>
 (FJ k z.2.2.2).bind fun x5=>
 bif zN (x4.length + x5.length) 1 then ((GI k (x4++x5)).bind fun x6=>
  (tw k x3 1 x6.1).bind fun x7=>
  (BA k k z.1 0 z.2.2.1 z.2.2.2 (x7.2.1,x7.2.2.2.1,x7.2.2.2.2.2) x7.2.2.1 x7.2.2.2.2.1).bind fun z1=>
  (fI k z1.1 (z1.2.2.1.1,z1.2.2.2.1,z1.2.2.1.2.1,z1.2.2.2.2,z1.2.2.1.2.2) 9).bind fun x23=>
  match x23 with
  | .inl BM => bif decide (BM.1 = 0) then ((BB k BM.2.2.1 BM.2.2.2 BM.2.1).bind fun x25=>
    (Px k x25.1 z1.2.1).bind fun x26=>
    bif x26 then ((Yi k).bind fun lP=>
     some lP)
    else some false)
   else some false
  |.inr x28=>bif decide (x28.1=0) then some false
   else some false)
 else none
end Go.Ab.Gi
