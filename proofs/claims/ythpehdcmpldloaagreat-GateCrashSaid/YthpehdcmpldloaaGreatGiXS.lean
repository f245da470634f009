/- part 5 -/
import Derived.Test.YthpehdcmpldloaaGreatGiXSa
set_option linter.unusedVariables false
set_option maxRecDepth 100000
namespace Go.Ab.Gi
abbrev qYc:Type:=List zC→Int→List zI→EQ→AC→EQ→List zC→Option qV6
def Gj (k:Nat)(rec:qYc)(s1:List zC)(s2:Int)(af:List zI)(ah:EQ)(ai:AC)(ag:EQ)(r2:List zC):Option qV6:=
 (Pg k af ah ai ag s1 s2).bind fun x0=>
 bif !x0.2.2.2.2.2.2.2 then some (s1,af,ah,ai,ag,r2)
 else(uI k af ah ai ag [(wM x0)]).bind fun x1=>
 (nQ k s1 x0.1).bind fun x2=>
 bif zP (r2.length + 1) 56 then (let y0:List zC:=(r2++[(wM x0)])
  rec x2.1 s2 x1.1 x1.2.1 x1.2.2.1 x1.2.2.2.1 y0)
 else none
def Kw (k:Nat):Nat→qYc
 |0,_,_,_,_,_,_,_=>none
 |n+1,s1,s2,af,ah,ai,ag,r2=>Gj k (Kw k n) s1 s2 af ah ai ag r2
def Ph (k:Nat)(au:List zI)(az:EQ)(ay:AC)(ax:EQ)(a1:List zC)(a2:Int):Option sM:=
 (Kw k k a1 a2 au az ay ax []).bind fun z=>
 some (iy z (z.1,z.2.2.2.2.2))
abbrev qZj:Type:=(Int×(List zI)×EQ×AC×EQ×Int×Int×Int×Int×Int×Int×Int×Int×Int×Int×Int×Int×Int×Int×(List zC))⊕(Bool×Int×Int×Int×Int×Int×Int×Int×Int×Int×Int×Int×Int×Int×Int)
abbrev qNn:Type:=Int→Int→List zI→EQ→AC→EQ→Int→Int→Int→Int→Int→Int→Int→Int→Int→Int→Int→Int→Int→Int→List zC→Option qZj
def Gk (k:Nat)(rec:qNn)(aw aR:Int)(af:List zI)(ah:EQ)(ai:AC)(ag:EQ)(av aB aC aE aG aH aI aZ bV bW cS eZ fa fb:Int)(r3:List zC):Option qZj:=
 bif decide (aR < (r3.length : Int)) then (bif zB aw r3.length then (bif zB aR r3.length then (bif !(decide ((r3.getD aR.toNat (0,0,0,0,0,0,0)).2.1=(r3.getD aw.toNat (0,0,0,0,0,0,0)).2.2.1)) then(rec aw (zA (aR+1)) af ah ai ag av aB aC aE aG aH aI aZ bV bW cS eZ fa fb r3)
    else bif !(decide ((r3.getD aR.toNat (0,0,0,0,0,0,0)).2.2.1=(r3.getD aw.toNat (0,0,0,0,0,0,0)).2.1)) then(rec aw (zA (aR+1)) af ah ai ag av aB aC aE aG aH aI aZ bV bW cS eZ fa fb r3)
    else bif decide ((r3.getD aw.toNat (0,0,0,0,0,0,0)).2.1≥(r3.getD aR.toNat (0,0,0,0,0,0,0)).2.1) then(rec aw (zA (aR+1)) af ah ai ag av aB aC aE aG aH aI aZ bV bW cS eZ fa fb r3)
    else(uI k af ah ai ag [(r3.getD aw.toNat (0,0,0,0,0,0,0)),(r3.getD aR.toNat (0,0,0,0,0,0,0))]).bind fun x1=>
    bif x1.2.2.2.2 then some (.inr (true,(iw (r3.getD aw.toNat (0,0,0,0,0,0,0)) ((r3.getD aR.toNat (0,0,0,0,0,0,0)).1,(r3.getD aR.toNat (0,0,0,0,0,0,0)).2.1,(r3.getD aR.toNat (0,0,0,0,0,0,0)).2.2.1,(r3.getD aR.toNat (0,0,0,0,0,0,0)).2.2.2.1,(r3.getD aR.toNat (0,0,0,0,0,0,0)).2.2.2.2.1,(r3.getD aR.toNat (0,0,0,0,0,0,0)).2.2.2.2.2.1,(r3.getD aR.toNat (0,0,0,0,0,0,0)).2.2.2.2.2.2))))
    else rec aw (zA (aR+1)) af ah ai ag av aB aC aE aG aH aI aZ bV bW cS eZ fa fb r3)
   else none)
  else none)
 else some (.inl (aw,af,ah,ai,ag,av,aB,aC,aE,aG,aH,aI,aZ,bV,bW,cS,eZ,fa,fb,r3))
def Ky (k:Nat):Nat→qNn
 |0,_,_,_,_,_,_,_,_,_,_,_,_,_,_,_,_,_,_,_,_,_=>none
 |n+1,aw,aR,af,ah,ai,ag,av,aB,aC,aE,aG,aH,aI,aZ,bV,bW,cS,eZ,fa,fb,r3=>Gk k (Ky k n) aw aR af ah ai ag av aB aC aE aG aH aI aZ bV bW cS eZ fa fb r3
abbrev qZm:Type:=(Int×Int×Int×Int×Int×Int×Int×Int×Int×Int×Int×Int×Int×Int)⊕(Bool×Int×Int×Int×Int×Int×Int×Int×Int×Int×Int×Int×Int×Int×Int)
abbrev qHw:Type:=Int→List zI→EQ→AC→EQ→Int→Int→Int→Int→Int→Int→Int→Int→Int→Int→Int→Int→Int→Int→List zC→Option qZm
def Gl (k:Nat)(rec:qHw)(aw:Int)(af:List zI)(ah:EQ)(ai:AC)(ag:EQ)(av aB aC aE aG aH aI aZ bV bW cS eZ fa fb:Int)(r3:List zC):Option qZm:=
 bif decide (aw < (r3.length : Int)) then ((Ky k k aw 0 af ah ai ag av aB aC aE aG aH aI aZ bV bW cS eZ fa fb r3).bind fun z=>
  match z with
  |.inl z1=>rec (zA (z1.1+1)) z1.2.1 z1.2.2.1 z1.2.2.2.1 z1.2.2.2.2.1 z1.2.2.2.2.2.1 z1.2.2.2.2.2.2.1 z1.2.2.2.2.2.2.2.1 z1.2.2.2.2.2.2.2.2.1 z1.2.2.2.2.2.2.2.2.2.1 z1.2.2.2.2.2.2.2.2.2.2.1 z1.2.2.2.2.2.2.2.2.2.2.2.1 z1.2.2.2.2.2.2.2.2.2.2.2.2.1 z1.2.2.2.2.2.2.2.2.2.2.2.2.2.1 z1.2.2.2.2.2.2.2.2.2.2.2.2.2.2.1 z1.2.2.2.2.2.2.2.2.2.2.2.2.2.2.2.1 z1.2.2.2.2.2.2.2.2.2.2.2.2.2.2.2.2.1 z1.2.2.2.2.2.2.2.2.2.2.2.2.2.2.2.2.2.1 z1.2.2.2.2.2.2.2.2.2.2.2.2.2.2.2.2.2.2.1 z1.2.2.2.2.2.2.2.2.2.2.2.2.2.2.2.2.2.2.2
  |.inr z2=>some (.inr (z2.1,z2.2.1,z2.2.2.1,z2.2.2.2.1,z2.2.2.2.2.1,z2.2.2.2.2.2.1,z2.2.2.2.2.2.2.1,z2.2.2.2.2.2.2.2.1,z2.2.2.2.2.2.2.2.2.1,z2.2.2.2.2.2.2.2.2.2.1,z2.2.2.2.2.2.2.2.2.2.2.1,z2.2.2.2.2.2.2.2.2.2.2.2.1,z2.2.2.2.2.2.2.2.2.2.2.2.2.1,z2.2.2.2.2.2.2.2.2.2.2.2.2.2.1,z2.2.2.2.2.2.2.2.2.2.2.2.2.2.2)))
 else some (.inl (av,aB,aC,aE,aG,aH,aI,aZ,bV,bW,cS,eZ,fa,fb))
def Kz (k:Nat):Nat→qHw
 |0,_,_,_,_,_,_,_,_,_,_,_,_,_,_,_,_,_,_,_,_=>none
 |n+1,aw,af,ah,ai,ag,av,aB,aC,aE,aG,aH,aI,aZ,bV,bW,cS,eZ,fa,fb,r3=>Gl k (Kz k n) aw af ah ai ag av aB aC aE aG aH aI aZ bV bW cS eZ fa fb r3
def Pj (k:Nat)(au:List zI)(az:EQ)(ay:AC)(ax:EQ)(a1:List zC)(a2:Int):Option (Int×Int×Int×Int×Int×Int×Int×Int×Int×Int×Int×Int×Int×Int×Bool):=
 (Ju k a1 a2).bind fun x0=>
 (Kz k k 0 au az ay ax 0 0 0 0 0 0 0 0 0 0 0 0 0 0 x0).bind fun z3=>
 match z3 with
 |.inl z4=>some (0,0,0,0,0,0,0,0,0,0,0,0,0,0,false)
 |.inr z5=>some (vFx z5 z5.1)
def Gm (k:Nat)(rec:qYc)(s1:List zC)(s2:Int)(af:List zI)(ah:EQ)(ai:AC)(ag:EQ)(r2:List zC):Option qV6:=
 (Pj k af ah ai ag s1 s2).bind fun x0=>
 bif !x0.2.2.2.2.2.2.2.2.2.2.2.2.2.2 then some (s1,af,ah,ai,ag,r2)
 else(uI k af ah ai ag [(wM x0),(qRh x0)]).bind fun x1=>
 (nQ k s1 x0.1).bind fun x2=>
 (nQ k x2.1 x0.2.2.2.2.2.2.2.1).bind fun x3=>
 bif zP (r2.length + 2) 56 then (let y0:List zC:=(r2++[(wM x0),(qRh x0)])
  rec x3.1 s2 x1.1 x1.2.1 x1.2.2.1 x1.2.2.2.1 y0)
 else none
def KA (k:Nat):Nat→qYc
 |0,_,_,_,_,_,_,_=>none
 |n+1,s1,s2,af,ah,ai,ag,r2=>Gm k (KA k n) s1 s2 af ah ai ag r2
def Pk (k:Nat)(au:List zI)(az:EQ)(ay:AC)(ax:EQ)(a1:List zC)(a2:Int):Option sM:=
 (KA k k a1 a2 au az ay ax []).bind fun z=>
 some (iy z (z.1,z.2.2.2.2.2))
def Gw (k:Nat)(rec:qYc)(s1:List zC)(s2:Int)(af:List zI)(ah:EQ)(ai:AC)(ag:EQ)(r2:List zC):Option qV6:=
 (Ph k af ah ai ag s1 s2).bind fun x0=>
 (Pk k x0.1 x0.2.1 x0.2.2.1 x0.2.2.2.1 x0.2.2.2.2.1 s2).bind fun x1=>
 bif zP (r2.length + x0.2.2.2.2.2.length) 56 then (bif zP ((r2 ++ x0.2.2.2.2.2).length + x1.2.2.2.2.2.length) 56 then (let y0:List zC:=((r2++x0.2.2.2.2.2)++x1.2.2.2.2.2)
   bif decide ((x1.2.2.2.2.2.length:Int)=0) then some (x1.2.2.2.2.1,(vX x1 y0))
   else rec x1.2.2.2.2.1 s2 x1.1 x1.2.1 x1.2.2.1 x1.2.2.2.1 y0)
  else none)
 else none
def KD (k:Nat):Nat→qYc
 |0,_,_,_,_,_,_,_=>none
 |n+1,s1,s2,af,ah,ai,ag,r2=>Gw k (KD k n) s1 s2 af ah ai ag r2
def KE (k:Nat)(au:List zI)(az:EQ)(ay:AC)(ax:EQ)(a1:List zC)(a2:Int):Option sM:=
 (KD k k a1 a2 au az ay ax []).bind fun z=>
 some (iy z (z.1,z.2.2.2.2.2))
abbrev qXr:Type:=List zC→AC→Int→List zC→Option Yy
def Gq (k:Nat)(rec:qXr)(s0:List zC)(s1:AC)(s6:Int)(r0:List zC):Option Yy:=
 bif decide (s6 < (s0.length : Int)) then (bif (decide (0 ≤ s6)) && (decide (s6 ≤ (s0.length : Int))) then (bif zB s6 s0.length then ((uh k (List.take s6.toNat s0) (s0.getD s6.toNat (0,0,0,0,0,0,0)).2.1).bind fun x0=>
    bif zB s6 s0.length then (bif decide ((s0.getD s6.toNat (0, 0, 0, 0, 0, 0, 0)).2.1 ≥ 0) then (bif zB s6 s0.length then (bif decide ((s0.getD s6.toNat (0, 0, 0, 0, 0, 0, 0)).2.1 < (s1.length : Int)) then (bif zB s6 s0.length then (bif zB (s0.getD s6.toNat (0, 0, 0, 0, 0, 0, 0)).2.1 s1.length then (bif decide ((x0.length : Int) < (s1.getD (s0.getD s6.toNat (0, 0, 0, 0, 0, 0, 0)).2.1.toNat 0)) then (bif zB s6 s0.length then (bif zP (r0.length + 1) 56 then (let y0:List zC:=(r0++[(s0.getD s6.toNat (0,0,0,0,0,0,0))])
             rec s0 s1 (zA (s6+1)) y0)
            else none)
           else none)
          else rec s0 s1 (zA (s6+1)) r0)
         else none)
        else none)
       else rec s0 s1 (zA (s6+1)) r0)
      else none)
     else rec s0 s1 (zA (s6+1)) r0)
    else none)
   else none)
  else none)
 else some r0
def Gp (k:Nat):Nat→qXr
 |0,_,_,_,_=>none
 |n+1,s0,s1,s6,r0=>Gq k (Gp k n) s0 s1 s6 r0
def Gn (k:Nat)(a0:List zC)(a1:AC):Option (List zC):=
 (Gp k k a0 a1 0 []).bind fun z=>
 some z
abbrev qOe:Type:=(List zI)×EQ×AC×EQ×(List zC)×AC
abbrev qRf:Type:=Int→List zI→EQ→AC→EQ→List zC→AC→Option qOe
def Gr (k:Nat)(rec:qRf)(aw:Int)(af:List zI)(ah:EQ)(ai:AC)(ag:EQ)(r1:List zC)(r2:AC):Option qOe:=
 bif decide (aw < (af.length : Int)) then ((uh k r1 aw).bind fun x1=>
  bif zP (r2.length+1) 8 then(rec (zA (aw+1)) af ah ai ag r1 (r2++[(x1.length:Int)]))
  else none)
 else some (af,ah,ai,ag,r1,r2)
def Bz (k:Nat):Nat→qRf
 |0,_,_,_,_,_,_,_=>none
 |n+1,aw,af,ah,ai,ag,r1,r2=>Gr k (Bz k n) aw af ah ai ag r1 r2
abbrev qPb:Type:=Int×(List zI)×EQ×AC×EQ×(List zC)×AC
abbrev qIe:Type:=Int→Int→List zI→EQ→AC→EQ→List zC→AC→AC→Option qPb
def Gt (k:Nat)(rec:qIe)(aR bz:Int)(af:List zI)(ah:EQ)(ai:AC)(ag:EQ)(r1:List zC)(r2 r3:AC):Option qPb:=
 bif decide (bz < (r3.length : Int)) then (bif zB bz r3.length then (bif zB (r3.getD bz.toNat 0) r2.length then (bif zB (r3.getD bz.toNat 0) r2.length then (let y0:AC:=(r2.set (r3.getD bz.toNat 0).toNat (zA ((r2.getD (r3.getD bz.toNat 0).toNat 0)-1)))
     rec aR (zA (bz+1)) af ah ai ag r1 y0 r3)
    else none)
   else none)
  else none)
 else some (aR,af,ah,ai,ag,r1,r2)
def Gs (k:Nat):Nat→qIe
 |0,_,_,_,_,_,_,_,_,_=>none
 |n+1,aR,bz,af,ah,ai,ag,r1,r2,r3=>Gt k (Gs k n) aR bz af ah ai ag r1 r2 r3
abbrev qPy:Type:=Int→List zI→EQ→AC→EQ→List zC→AC→Option (Int×AC)
def Gu (k:Nat)(rec:qPy)(aR:Int)(af:List zI)(ah:EQ)(ai:AC)(ag:EQ)(r1:List zC)(r2:AC):Option (Int×AC):=
 (Gn k r1 r2).bind fun x2=>
 (ue k af ah ai ag x2).bind fun x3=>
 bif decide ((x3.length:Int)=0) then some (aR,r2)
 else(Gs k k aR 0 af ah ai ag r1 r2 x3).bind fun z1=>
 rec (zA (z1.1+1)) z1.2.1 z1.2.2.1 z1.2.2.2.1 z1.2.2.2.2.1 z1.2.2.2.2.2.1 z1.2.2.2.2.2.2
def KB (k:Nat):Nat→qPy
 |0,_,_,_,_,_,_,_=>none
 |n+1,aR,af,ah,ai,ag,r1,r2=>Gu k (KB k n) aR af ah ai ag r1 r2
def Pl (k:Nat)(au:List zI)(az:EQ)(ay:AC)(ax:EQ)(a1:List zC)(a2:Int):Option (AC×Int):=
 (EG k a1 a2).bind fun x0=>
 (Bz k k 0 au az ay ax x0 []).bind fun z=>
 (KB k k 1 z.1 z.2.1 z.2.2.1 z.2.2.2.1 z.2.2.2.2.1 z.2.2.2.2.2).bind fun z2=>
 some (z2.2,z2.1)
abbrev qTq:Type:=(List zC)×(List zC)×(List zI)×EQ×AC×EQ
abbrev qXa:Type:=List zC→Int→List zC→List zI→EQ→AC→EQ→Option qTq
def Gv (k:Nat)(rec:qXa)(s1:List zC)(bC:Int)(r1:List zC)(aZ:List zI)(bV:EQ)(bW:AC)(cS:EQ):Option qTq:=
 bif decide (bC < (r1.length : Int)) then (bif zB bC r1.length then ((nQ k s1 (r1.getD bC.toNat (0,0,0,0,0,0,0)).1).bind fun x4=>
   rec x4.1 (zA (bC+1)) r1 aZ bV bW cS)
  else none)
 else some (s1,r1,aZ,bV,bW,cS)
def BA (k:Nat):Nat→qXa
 |0,_,_,_,_,_,_,_=>none
 |n+1,s1,bC,r1,aZ,bV,bW,cS=>Gv k (BA k n) s1 bC r1 aZ bV bW cS
def KC (k:Nat)(au:List zI)(az:EQ)(ay:AC)(ax:EQ)(a1:List zC)(a2:Int):Option sM:=
 (Pl k au az ay ax a1 a2).bind fun x0=>
 (EG k a1 a2).bind fun x1=>
 (Gn k x1 x0.1).bind fun x2=>
 (AT k au az ay ax x2).bind fun x3=>
 bif !(decide (x3.2.2.2.2=0)) then some (au,az,ay,ax,a1,[])
 else(BA k k a1 0 x2 x3.1 x3.2.1 x3.2.2.1 x3.2.2.2.1).bind fun z=>
 some (Bt z (z.1,z.2.1))
def Pm (k:Nat)(au:List zI)(az:EQ)(ay:AC)(ax:EQ)(a1:List zC)(a2:Int)(a3:Bool):Option sM:=
 (KE k au az ay ax a1 a2).bind fun x0=>
 bif !a3 then some (x0.1,x0.2.1,x0.2.2.1,x0.2.2.2.1,x0.2.2.2.2.1,x0.2.2.2.2.2)
 else(KC k x0.1 x0.2.1 x0.2.2.1 x0.2.2.2.1 x0.2.2.2.2.1 a2).bind fun x1=>
 bif decide ((x1.2.2.2.2.2.length:Int)=0) then some (x0.1,x0.2.1,x0.2.2.1,x0.2.2.2.1,x0.2.2.2.2.1,x0.2.2.2.2.2)
 else(KE k x1.1 x1.2.1 x1.2.2.1 x1.2.2.2.1 x1.2.2.2.2.1 a2).bind fun x2=>
 bif zP (x0.2.2.2.2.2.length + x1.2.2.2.2.2.length) 56 then (bif zP ((x0.2.2.2.2.2 ++ x1.2.2.2.2.2).length + x2.2.2.2.2.2.length) 56 then (let y0:List zC:=((x0.2.2.2.2.2++x1.2.2.2.2.2)++x2.2.2.2.2.2)
   some (qd x2 y0))
  else none)
 else none
abbrev qZe:Type:=List zC→Int→List qS→Option qHv
def FB (k:Nat)(rec:qZe)(s0:List zC)(s4:Int)(r0:List qS):Option qHv:=
 bif decide (s4 < (s0.length : Int)) then (bif zB s4 s0.length then ((eW k 18 [(s0.getD s4.toNat (0,0,0,0,0,0,0)).1,(s0.getD s4.toNat (0,0,0,0,0,0,0)).2.1,(s0.getD s4.toNat (0,0,0,0,0,0,0)).2.2.1,(s0.getD s4.toNat (0,0,0,0,0,0,0)).2.2.2.1]).bind fun x0=>
   bif zP (r0.length + 2) 64 then (let y0:List qS:=(r0++[((s0.getD s4.toNat (0,0,0,0,0,0,0)).2.1,x0),((s0.getD s4.toNat (0,0,0,0,0,0,0)).2.2.1,x0)])
    rec s0 (zA (s4+1)) y0)
   else none)
  else none)
 else some r0
def J0 (k:Nat):Nat→qZe
 |0,_,_,_=>none
 |n+1,s0,s4,r0=>FB k (J0 k n) s0 s4 r0
def Oz (k:Nat)(a0:List zC):Option (List qS):=
 (J0 k k a0 0 []).bind fun z=>
 some z
def nR (k:Nat)(mg:Int)(qe:List zI)(qg:EQ)(qh:AC)(qi:EQ)(ql:AC)(qm:EQ)(mh:List zC)(qn:AC)(qo:Int)(qp a1:Bool):Option QY:=
 (Pm k qe qg qh qi mh mg a1).bind fun x0=>
 (Oz k x0.2.2.2.2.2).bind fun x1=>
 some (mg,(vX x0 (ql,qm,x0.2.2.2.2.1,qn,qo,qp,x1)))
abbrev qUd:Type:=yY×vN×(List qS)
abbrev qQ7:Type:=List zC→Int→yY→vN→List qS→Option qUd
def Gx (k:Nat)(rec:qQ7)(s7:List zC)(s8:Int)(b0:yY)(b1:vN)(r2:List qS):Option qUd:=
 bif decide (s8 < (s7.length : Int)) then (bif zB s8 s7.length then (bif zB s8 s7.length then ((eW k 22 [(s7.getD s8.toNat (0,0,0,0,0,0,0)).1]).bind fun x1=>
    bif zP (r2.length + 1) 64 then (let y0:List qS:=(r2++[((s7.getD s8.toNat (0,0,0,0,0,0,0)).2.1,x1)])
     rec s7 (zA (s8+1)) b0 b1 y0)
    else none)
   else none)
  else none)
 else some (b0,b1,r2)
def xP (k:Nat):Nat→qQ7:=yS (fun _ _ _ _ _=>none) (Gx k)
abbrev qOz:Type:=Int→yY→vN→List qS→Option qUd
def Gy (k:Nat)(rec:qOz)(s9:Int)(b0:yY)(b1:vN)(r2:List qS):Option qUd:=
 bif decide (s9 < (b0.2.1.length : Int)) then (bif zB s9 b0.2.1.length then ((eW k 23 [(b0.2.1.getD s9.toNat (0,0,0)).1]).bind fun x2=>
   bif zP (r2.length+1) 64 then(rec (zA (s9+1)) b0 b1 (r2++[(s9,x2)]))
   else none)
  else none)
 else some (b0,b1,r2)
def xQ (k:Nat):Nat→qOz:=yS (fun _ _ _ _=>none) (Gy k)
abbrev qZp:Type:=vP×yY×vN×(List qS)
abbrev qLv:Type:=List zC→Int→vP→yY→vN→List qS→Option qZp
def Gz (k:Nat)(rec:qLv)(s7:List zC)(aw:Int)(b0:vP)(b1:yY)(b2:vN)(r3:List qS):Option qZp:=
 bif decide (aw < (s7.length : Int)) then (bif zB aw s7.length then ((WL k (s7.getD aw.toNat (0,0,0,0,0,0,0)).1 (s7.getD aw.toNat (0,0,0,0,0,0,0)).2.1 (s7.getD aw.toNat (0,0,0,0,0,0,0)).2.2.1 (s7.getD aw.toNat (0,0,0,0,0,0,0)).2.2.2.1 (s7.getD aw.toNat (0,0,0,0,0,0,0)).2.2.2.2.1 (s7.getD aw.toNat (0,0,0,0,0,0,0)).2.2.2.2.2.1 (s7.getD aw.toNat (0,0,0,0,0,0,0)).2.2.2.2.2.2 b1.1).bind fun x3=>
   bif x3 then (bif zB aw s7.length then (bif zB aw s7.length then ((eW k 21 [(s7.getD aw.toNat (0,0,0,0,0,0,0)).1]).bind fun x4=>
      bif zP (r3.length + 1) 64 then (let y1:List qS:=(r3++[((s7.getD aw.toNat (0,0,0,0,0,0,0)).2.1,x4)])
       bif zB aw s7.length then ((nQ k b1.2.2.2.2.2.2.2.1 (s7.getD aw.toNat (0,0,0,0,0,0,0)).1).bind fun x5=>
        rec s7 (zA (aw+1)) b0 (j6 b1 (x5.1,b1.2.2.2.2.2.2.2.2)) b2 y1)
       else none)
      else none)
     else none)
    else none)
   else rec s7 (zA (aw+1)) b0 b1 b2 r3)
  else none)
 else some (b0,b1,b2,r3)
def uJ (k:Nat):Nat→qLv:=yS (fun _ _ _ _ _ _=>none) (Gz k)
def GA (k:Nat)(a0:vP)(a1:yY):Option (yY×(List qS)):=
 bif a1.2.2.2.2.2.2.2.2.2.2 then some (a1,[])
 else(Po k a0 (zA (a1.1+1))).bind fun x0=>
 bif x0 then ((xP k k a1.2.2.2.2.2.2.2.1 0 ((zA (a1.1+1)),a1.2) (0,0,false) []).bind fun z=>
  (xQ k k 0 z.1 z.2.1 z.2.2).bind fun z1=>
  some ((j6 z1.1 ([],z1.1.2.2.2.2.2.2.2.2.1,z1.1.2.2.2.2.2.2.2.2.2.1,true)),z1.2.2))
 else(uJ k k a1.2.2.2.2.2.2.2.1 0 a0 ((zA (a1.1+1)),a1.2) (0,0,false) []).bind fun z2=>
 (KF k z2.1 z2.2.1.1).bind fun x6=>
 (nR k z2.2.1.1 z2.2.1.2.1 z2.2.1.2.2.1 z2.2.1.2.2.2.1 z2.2.1.2.2.2.2.1 z2.2.1.2.2.2.2.2.1 z2.2.1.2.2.2.2.2.2.1 z2.2.1.2.2.2.2.2.2.2.1 z2.2.1.2.2.2.2.2.2.2.2.1 z2.2.1.2.2.2.2.2.2.2.2.2.1 z2.2.1.2.2.2.2.2.2.2.2.2.2 x6).bind fun x7=>
 bif zP (z2.2.2.2.length + x7.2.2.2.2.2.2.2.2.2.2.2.length) 64 then (let y2:List qS:=(z2.2.2.2++x7.2.2.2.2.2.2.2.2.2.2.2)
  some ((qQ x7),y2))
 else none
def uF (k:Nat)(a0:uS)(a1:Int):Option Int:=
 bif decide (a1<0) then some (-1)
 else bif decide (a1≥a0.1) then some (-1)
 else some a1
def Gd (k:Nat)(a0:vP)(a1 a2:Int):Option Int:=
 bif decide (a1≥a0.2.2.2.1) then some 7
 else bif decide (a2 = 3) then (bif decide (a1≥a0.2.2.1) then some 7
  else some 0)
 else some 0
def Bv (k:Nat)(a0:vP)(a1:Int)(a2:zC):Option Int:=
 bif decide (a2.1<1) then some 1
 else bif decide (a2.2.1<0) then some 1
 else bif decide (a2.2.1≥a0.1) then some 1
 else bif decide (a2.2.2.1<0) then some 1
 else bif decide (a2.2.2.1≥a0.1) then some 1
 else bif decide (a2.2.1=a2.2.2.1) then some 1
 else bif decide (a2.2.2.2.1<1) then some 1
 else bif decide (a2.2.2.2.1>1099511627776) then some 1
 else bif decide (a2.2.2.2.2.1<1) then some 1
 else bif decide (a2.2.2.2.2.1>3) then some 1
 else bif decide (a2.2.2.2.2.2.1<0) then some 1
 else bif decide (a2.2.2.2.2.2.1>a2.2.2.2.2.2.2) then some 1
 else bif decide (a2.2.2.2.2.2.2<a1) then some 1
 else bif decide (a2.2.2.2.2.2.2>1048576) then some 1
 else(Gd k a0 a1 a2.2.2.2.2.1).bind fun x0=>
 some x0
def F3 (k:Nat)(rec:Yt)(s0:AC)(s1 s5:Int):Option (Unit⊕Bool):=
 bif decide (s5 < (s0.length : Int)) then (bif zB s5 s0.length then (bif decide ((s0.getD s5.toNat 0)=s1) then some (.inr true)
   else rec s0 s1 (zA (s5+1)))
  else none)
 else some (.inl ())
def F2 (k:Nat):Nat→Yt:=yS (fun _ _ _=>none) (F3 k)
def O5 (k:Nat)(a0:AC)(a1:Int):Option Bool:=
 (F2 k k a0 a1 0).bind fun z=>
 match z with
 |.inl z1=>some false
 |.inr z2=>some z2
abbrev qNz:Type:=AC→Int→Int→Option (AC×Int×Int)
def F4 (k:Nat)(rec:qNz)(s0:AC)(s1 s6:Int):Option (AC×Int×Int):=
 bif decide (s6 < (s0.length : Int)) then (bif zB s6 s0.length then (bif decide ((s0.getD s6.toNat 0)<s1) then(rec s0 s1 (zA (s6+1)))
   else some (s0,s1,s6))
  else none)
 else some (s0,s1,s6)
def Kp (k:Nat):Nat→qNz:=yS (fun _ _ _=>none) (F4 k)
def Bp (k:Nat)(a0:AC)(a1:Int):Option (AC×Int):=
 (O5 k a0 a1).bind fun x0=>
 bif x0 then some (a0,6)
 else bif decide ((a0.length:Int)≥200) then some (a0,3)
 else(Kp k k a0 a1 0).bind fun z=>
 bif (decide (0 ≤ z.2.2)) && (decide (z.2.2 ≤ (z.1.length : Int))) then (bif zP (0 + (List.take z.2.2.toNat z.1).length) 8 then (bif zP ((List.take z.2.2.toNat z.1).length + 1) 8 then (bif (decide (0 ≤ z.2.2)) && (decide (z.2.2 ≤ (z.1.length : Int))) then (bif zP (((List.take z.2.2.toNat z.1) ++ [z.2.1]).length + (List.drop z.2.2.toNat z.1).length) 8 then (let y0:AC:=(((List.take z.2.2.toNat z.1)++[z.2.1])++(List.drop z.2.2.toNat z.1))
      some (y0,0))
     else none)
    else none)
   else none)
  else none)
 else none
def Ki (k:Nat)(cc bc bB cp bO bZ bS gQ cq dt eu du iQ iR:Int):Option Bool:=
 bif decide (bc<cq) then some true
 else bif decide (bc=cq) then some (decide (bO≤du))
 else some false
abbrev qKi:Type:=List zC→Int→Int→Int→Int→Int→Int→Int→Int→Option Int
def F0 (k:Nat)(rec:qKi)(s0:List zC)(s5 af ah ai ag aY bo bp:Int):Option Int:=
 bif decide (s5 < (s0.length : Int)) then (bif zB s5 s0.length then ((Ki k (s0.getD s5.toNat (0,0,0,0,0,0,0)).1 (s0.getD s5.toNat (0,0,0,0,0,0,0)).2.1 (s0.getD s5.toNat (0,0,0,0,0,0,0)).2.2.1 (s0.getD s5.toNat (0,0,0,0,0,0,0)).2.2.2.1 (s0.getD s5.toNat (0,0,0,0,0,0,0)).2.2.2.2.1 (s0.getD s5.toNat (0,0,0,0,0,0,0)).2.2.2.2.2.1 (s0.getD s5.toNat (0,0,0,0,0,0,0)).2.2.2.2.2.2 af ah ai ag aY bo bp).bind fun x0=>
   bif x0 then(rec s0 (zA (s5+1)) af ah ai ag aY bo bp)
   else some s5)
  else none)
 else some s5
def FZ (k:Nat):Nat→qKi
 |0,_,_,_,_,_,_,_,_,_=>none
 |n+1,s0,s5,af,ah,ai,ag,aY,bo,bp=>F0 k (FZ k n) s0 s5 af ah ai ag aY bo bp
def FY (k:Nat)(a0:List zC)(gQ cq dt eu du iQ iR:Int):Option Int:=
 (FZ k k a0 0 gQ cq dt eu du iQ iR).bind fun z=>
 some z
def Bn (k:Nat)(a0:List zC)(a1 aaP aaQ aaR aaS aaT aaU aaV:Int):Option (List zC):=
 bif (decide (0 ≤ a1)) && (decide (a1 ≤ (a0.length : Int))) then (bif zP (0 + (List.take a1.toNat a0).length) 56 then (bif zP ((List.take a1.toNat a0).length + 1) 56 then (let y0:List zC:=((List.take a1.toNat a0)++[(aaP,aaQ,aaR,aaS,aaT,aaU,aaV)])
    bif (decide (0 ≤ a1)) && (decide (a1 ≤ (a0.length : Int))) then (bif zP (y0.length+(List.drop a1.toNat a0).length) 56 then some (y0++(List.drop a1.toNat a0))
     else none)
    else none)
   else none)
  else none)
 else none
def Bo (k:Nat)(a0:List zC)(gQ cq dt eu du iQ iR:Int):Option ((List zC)×Int):=
 (mQ k a0 gQ).bind fun x0=>
 bif decide (x0≥0) then some (a0,6)
 else bif decide ((a0.length:Int)≥40) then some (a0,3)
 else(FY k a0 gQ cq dt eu du iQ iR).bind fun x1=>
 (Bn k a0 x1 gQ cq dt eu du iQ iR).bind fun x2=>
 some (x2,0)
def Pc (k:Nat)(a0:qq)(a1:Lr):Option (Int×uS):=
 (uF k (yE a0 ([],a0.2.2.2.2.2.2.2.2.2.2.2.2.2.2.2.2.2)) a1.2.1).bind fun x0=>
 bif decide (a1.2.2.2.1 ≥ 1) then (bif decide (a1.2.2.2.1 ≤ 3) then ((Bv k (yZ a0) a0.2.2.2.2.2.1 (a1.1,a0.2.2.2.2.2.2.2.2.2.2.2.2.2.2.2.2.1,x0,a1.2.2)).bind fun x1=>
   bif !(decide (x1=0)) then some (x1,(yE a0 ([],a0.2.2.2.2.2.2.2.2.2.2.2.2.2.2.2.2.2)))
   else(Bp k a0.2.2.2.2.2.2.2.2.2.2.2.2.2.1 a1.1).bind fun x2=>
   bif !(decide (x2.2=0)) then some (x2.2,(yE a0 ([],a0.2.2.2.2.2.2.2.2.2.2.2.2.2.2.2.2.2)))
   else(Bo k a0.2.2.2.2.2.2.2.2.2.2.2.2.1 a1.1 a0.2.2.2.2.2.2.2.2.2.2.2.2.2.2.2.2.1 x0 a1.2.2.1 a1.2.2.2.1 a1.2.2.2.2.1 a1.2.2.2.2.2).bind fun x3=>
   bif !(decide (x3.2=0)) then some (x3.2,(yE a0 ([],a0.2.2.2.2.2.2.2.2.2.2.2.2.2.2.2.2.2)))
   else some (0,(kf a0 (x3.1,x2.1,a0.2.2.2.2.2.2.2.2.2.2.2.2.2.2.1,a0.2.2.2.2.2.2.2.2.2.2.2.2.2.2.2.1,a0.2.2.2.2.2.2.2.2.2.2.2.2.2.2.2.2.1,[],a1.1))))
  else(Bv k (yZ a0) a0.2.2.2.2.2.1 (a1.1,a0.2.2.2.2.2.2.2.2.2.2.2.2.2.2.2.2.1,x0,a1.2.2.1,0,a1.2.2.2.2)).bind fun x4=>
  bif !(decide (x4=0)) then some (x4,(yE a0 ([],a0.2.2.2.2.2.2.2.2.2.2.2.2.2.2.2.2.2)))
  else(Bp k a0.2.2.2.2.2.2.2.2.2.2.2.2.2.1 a1.1).bind fun x5=>
  bif !(decide (x5.2=0)) then some (x5.2,(yE a0 ([],a0.2.2.2.2.2.2.2.2.2.2.2.2.2.2.2.2.2)))
  else(Bo k a0.2.2.2.2.2.2.2.2.2.2.2.2.1 a1.1 a0.2.2.2.2.2.2.2.2.2.2.2.2.2.2.2.2.1 x0 a1.2.2.1 0 a1.2.2.2.2.1 a1.2.2.2.2.2).bind fun x6=>
  bif !(decide (x6.2=0)) then some (x6.2,(yE a0 ([],a0.2.2.2.2.2.2.2.2.2.2.2.2.2.2.2.2.2)))
  else some (0,(kf a0 (x6.1,x5.1,a0.2.2.2.2.2.2.2.2.2.2.2.2.2.2.1,a0.2.2.2.2.2.2.2.2.2.2.2.2.2.2.2.1,a0.2.2.2.2.2.2.2.2.2.2.2.2.2.2.2.2.1,[],a1.1))))
 else(Bv k (yZ a0) a0.2.2.2.2.2.1 (a1.1,a0.2.2.2.2.2.2.2.2.2.2.2.2.2.2.2.2.1,x0,a1.2.2.1,0,a1.2.2.2.2)).bind fun x7=>
 bif !(decide (x7=0)) then some (x7,(yE a0 ([],a0.2.2.2.2.2.2.2.2.2.2.2.2.2.2.2.2.2)))
 else(Bp k a0.2.2.2.2.2.2.2.2.2.2.2.2.2.1 a1.1).bind fun x8=>
 bif !(decide (x8.2=0)) then some (x8.2,(yE a0 ([],a0.2.2.2.2.2.2.2.2.2.2.2.2.2.2.2.2.2)))
 else(Bo k a0.2.2.2.2.2.2.2.2.2.2.2.2.1 a1.1 a0.2.2.2.2.2.2.2.2.2.2.2.2.2.2.2.2.1 x0 a1.2.2.1 0 a1.2.2.2.2.1 a1.2.2.2.2.2).bind fun x9=>
 bif !(decide (x9.2=0)) then some (x9.2,(yE a0 ([],a0.2.2.2.2.2.2.2.2.2.2.2.2.2.2.2.2.2)))
 else some (0,(kf a0 (x9.1,x8.1,a0.2.2.2.2.2.2.2.2.2.2.2.2.2.2.1,a0.2.2.2.2.2.2.2.2.2.2.2.2.2.2.2.1,a0.2.2.2.2.2.2.2.2.2.2.2.2.2.2.2.2.1,[],a1.1)))
def yNu (k:Nat)(a0:uS)(a1:Int):Option (zC×Bool):=
 (mQ k a0.2.2.2.2.2.2.2.2.2.2.2.2.1 a1).bind fun x0=>
 bif decide (x0<0) then some ((0,0,0,0,0,0,0),false)
 else bif zB x0 a0.2.2.2.2.2.2.2.2.2.2.2.2.1.length then (bif !(decide ((a0.2.2.2.2.2.2.2.2.2.2.2.2.1.getD x0.toNat (0,0,0,0,0,0,0)).2.1=a0.2.2.2.2.2.2.2.2.2.2.2.2.2.2.2.2.1)) then some ((0,0,0,0,0,0,0),false)
  else bif zB x0 a0.2.2.2.2.2.2.2.2.2.2.2.2.1.length then some ((a0.2.2.2.2.2.2.2.2.2.2.2.2.1.getD x0.toNat (0,0,0,0,0,0,0)),true)
  else none)
 else none
def F1 (k:Nat)(rec:YR)(s6:List zC)(s9:Int)(b0:zC):Option YT:=
 bif decide (s9 < (s6.length : Int)) then (bif zB s9 s6.length then ((Ki k b0.1 b0.2.1 b0.2.2.1 b0.2.2.2.1 b0.2.2.2.2.1 b0.2.2.2.2.2.1 b0.2.2.2.2.2.2 (s6.getD s9.toNat (0,0,0,0,0,0,0)).1 (s6.getD s9.toNat (0,0,0,0,0,0,0)).2.1 (s6.getD s9.toNat (0,0,0,0,0,0,0)).2.2.1 (s6.getD s9.toNat (0,0,0,0,0,0,0)).2.2.2.1 (s6.getD s9.toNat (0,0,0,0,0,0,0)).2.2.2.2.1 (s6.getD s9.toNat (0,0,0,0,0,0,0)).2.2.2.2.2.1 (s6.getD s9.toNat (0,0,0,0,0,0,0)).2.2.2.2.2.2).bind fun x1=>
   bif !x1 then(rec s6 (zA (s9+1)) b0)
   else some (s6,s9,b0))
  else none)
 else some (s6,s9,b0)
def Ko (k:Nat):Nat→YR:=yS (fun _ _ _=>none) (F1 k)
def Kn (k:Nat)(a0:List zC)(a1:Int):Option ((List zC)×Int):=
 (nQ k a0 a1).bind fun x0=>
 bif !(decide (x0.2.2.2.2.2.2.2.2=0)) then some (a0,x0.2.2.2.2.2.2.2.2)
 else(Ko k k x0.1 0 (P5 x0)).bind fun z=>
 (Bn k z.1 z.2.1 z.2.2.1 z.2.2.2.1 z.2.2.2.2.1 z.2.2.2.2.2.1 z.2.2.2.2.2.2.1 z.2.2.2.2.2.2.2.1 z.2.2.2.2.2.2.2.2).bind fun x2=>
 some (x2,0)
def Km (k:Nat)(a0:List zC)(a1:Int):Option ((List zC)×Int):=
 (nQ k a0 a1).bind fun x0=>
 bif !(decide (x0.2.2.2.2.2.2.2.2=0)) then some (a0,x0.2.2.2.2.2.2.2.2)
 else(FY k x0.1 x0.2.1 x0.2.2.1 x0.2.2.2.1 x0.2.2.2.2.1 x0.2.2.2.2.2.1 x0.2.2.2.2.2.2.1 x0.2.2.2.2.2.2.2.1).bind fun x1=>
 (Bn k x0.1 x1 x0.2.1 x0.2.2.1 x0.2.2.2.1 x0.2.2.2.2.1 x0.2.2.2.2.2.1 x0.2.2.2.2.2.2.1 x0.2.2.2.2.2.2.2.1).bind fun x2=>
 some (x2,0)
def Kl (k:Nat)(a0:List zC)(a1 a2:Int):Option ((List zC)×Int):=
 (nQ k a0 a1).bind fun x0=>
 bif !(decide (x0.2.2.2.2.2.2.2.2=0)) then some (a0,x0.2.2.2.2.2.2.2.2)
 else(FY k x0.1 x0.2.1 x0.2.2.1 x0.2.2.2.1 x0.2.2.2.2.1 a2 x0.2.2.2.2.2.2.1 x0.2.2.2.2.2.2.2.1).bind fun x1=>
 (Bn k x0.1 x1 x0.2.1 x0.2.2.1 x0.2.2.2.1 x0.2.2.2.2.1 a2 x0.2.2.2.2.2.2.1 x0.2.2.2.2.2.2.2.1).bind fun x2=>
 some (x2,0)
def Bx (k:Nat)(a0:qq)(a1:Int)(a2:Lr):Option (Int×uS):=
 (yNu k (yE a0 ([],a0.2.2.2.2.2.2.2.2.2.2.2.2.2.2.2.2.2)) a2.1).bind fun x0=>
 bif !x0.2 then some (4,(yE a0 ([],a0.2.2.2.2.2.2.2.2.2.2.2.2.2.2.2.2.2)))
 else bif decide (a1 = 2) then ((nQ k a0.2.2.2.2.2.2.2.2.2.2.2.2.1 a2.1).bind fun x1=>
  (eW k 20 [a2.1]).bind fun x2=>
  some (0,(kf a0 (x1.1,(QZ a0 ([(a0.2.2.2.2.2.2.2.2.2.2.2.2.2.2.2.2.1,x2)],a0.2.2.2.2.2.2.2.2.2.2.2.2.2.2.2.2.2))))))
 else bif decide (a1 = 3) then (bif decide (a2.2.1 = 0) then ((Kn k a0.2.2.2.2.2.2.2.2.2.2.2.2.1 a2.1).bind fun x3=>
   some (0,(kf a0 (x3.1,(QZ a0 ([],a0.2.2.2.2.2.2.2.2.2.2.2.2.2.2.2.2.2))))))
  else bif decide (a2.2.1 = 1) then ((Km k a0.2.2.2.2.2.2.2.2.2.2.2.2.1 a2.1).bind fun x4=>
   some (0,(kf a0 (x4.1,(QZ a0 ([],a0.2.2.2.2.2.2.2.2.2.2.2.2.2.2.2.2.2))))))
  else some (1,(yE a0 ([],a0.2.2.2.2.2.2.2.2.2.2.2.2.2.2.2.2.2))))
 else bif decide (a2.2.1<1) then some (1,(yE a0 ([],a0.2.2.2.2.2.2.2.2.2.2.2.2.2.2.2.2.2)))
 else bif decide (a2.2.1>3) then some (1,(yE a0 ([],a0.2.2.2.2.2.2.2.2.2.2.2.2.2.2.2.2.2)))
 else(Gd k (yZ a0) a0.2.2.2.2.2.1 a2.2.1).bind fun x5=>
 bif !(decide (x5=0)) then some (x5,(yE a0 ([],a0.2.2.2.2.2.2.2.2.2.2.2.2.2.2.2.2.2)))
 else(Kl k a0.2.2.2.2.2.2.2.2.2.2.2.2.1 a2.1 a2.2.1).bind fun x6=>
 some (0,(kf a0 (x6.1,(QZ a0 ([],a0.2.2.2.2.2.2.2.2.2.2.2.2.2.2.2.2.2)))))
def By (k:Nat)(a0:qq)(a1:Int)(a2:Lr):Option (Int×uS):=
 (oM k a0.2.2.2.2.2.2.1 a0.2.2.2.2.2.2.2.1 a0.2.2.2.2.2.2.2.2.1 a0.2.2.2.2.2.2.2.2.2.1).bind fun x0=>
 bif decide (a1 = 5) then ((uF k (yE a0 ([],a0.2.2.2.2.2.2.2.2.2.2.2.2.2.2.2.2.2)) a2.1).bind fun x1=>
  bif decide (x1<0) then some (1,(yE a0 ([],a0.2.2.2.2.2.2.2.2.2.2.2.2.2.2.2.2.2)))
  else bif decide (x1=a0.2.2.2.2.2.2.2.2.2.2.2.2.2.2.2.2.1) then some (1,(yE a0 ([],a0.2.2.2.2.2.2.2.2.2.2.2.2.2.2.2.2.2)))
  else bif decide (a2.2.1<(-1)) then some (1,(yE a0 ([],a0.2.2.2.2.2.2.2.2.2.2.2.2.2.2.2.2.2)))
  else bif decide (a2.2.1>1152921504606846976) then some (1,(yE a0 ([],a0.2.2.2.2.2.2.2.2.2.2.2.2.2.2.2.2.2)))
  else bif zB a0.2.2.2.2.2.2.2.2.2.2.2.2.2.2.2.2.1 x0.2.1.length then (bif zB x1 (x0.2.1.getD a0.2.2.2.2.2.2.2.2.2.2.2.2.2.2.2.2.1.toNat []).length then (let y0:EQ:=(x0.2.1.set a0.2.2.2.2.2.2.2.2.2.2.2.2.2.2.2.2.1.toNat ((x0.2.1.getD a0.2.2.2.2.2.2.2.2.2.2.2.2.2.2.2.2.1.toNat []).set x1.toNat a2.2.1))
    some (0,(jN a0 (x0.1,y0,x0.2.2.1,x0.2.2.2,(qQl a0 ([],a0.2.2.2.2.2.2.2.2.2.2.2.2.2.2.2.2.2))))))
   else none)
  else none)
 else bif decide (a1 = 6) then (bif decide (a2.1<(-1)) then some (1,(yE a0 ([],a0.2.2.2.2.2.2.2.2.2.2.2.2.2.2.2.2.2)))
  else bif decide (a2.1>1152921504606846976) then some (1,(yE a0 ([],a0.2.2.2.2.2.2.2.2.2.2.2.2.2.2.2.2.2)))
  else bif zB a0.2.2.2.2.2.2.2.2.2.2.2.2.2.2.2.2.1 x0.2.2.1.length then (let y1:AC:=(x0.2.2.1.set a0.2.2.2.2.2.2.2.2.2.2.2.2.2.2.2.2.1.toNat a2.1)
   some (0,(jN a0 (x0.1,x0.2.1,y1,x0.2.2.2,(qQl a0 ([],a0.2.2.2.2.2.2.2.2.2.2.2.2.2.2.2.2.2))))))
  else none)
 else bif decide (a2.1<0) then some (1,(yE a0 ([],a0.2.2.2.2.2.2.2.2.2.2.2.2.2.2.2.2.2)))
 else bif decide (a2.1>1152921504606846976) then some (1,(yE a0 ([],a0.2.2.2.2.2.2.2.2.2.2.2.2.2.2.2.2.2)))
 else bif zB a0.2.2.2.2.2.2.2.2.2.2.2.2.2.2.2.2.1 x0.1.length then (let y2:List zI:=(x0.1.set a0.2.2.2.2.2.2.2.2.2.2.2.2.2.2.2.2.1.toNat ((x0.1.getD a0.2.2.2.2.2.2.2.2.2.2.2.2.2.2.2.2.1.toNat (0,0,0)).1,(x0.1.getD a0.2.2.2.2.2.2.2.2.2.2.2.2.2.2.2.2.1.toNat (0,0,0)).2.1,a2.1))
  some (0,(jN a0 (y2,x0.2.1,x0.2.2.1,x0.2.2.2,(qQl a0 ([],a0.2.2.2.2.2.2.2.2.2.2.2.2.2.2.2.2.2))))))
 else none
def uG (k:Nat)(a0:AC)(a1 a2:Int):Option AC:=
 bif zP (0 + a0.length) 8 then (bif decide (a1 ≥ 0) then (bif decide (a1 < (a0.length : Int)) then (bif zB a1 a0.length then some (a0.set a1.toNat a2)
    else none)
   else some a0)
  else some a0)
 else none
def OX (k:Nat)(a0:Int):Option AC:=
 some [(yJ .i64 a0 65535),(yJ .i64 (shr .i64 a0 16) 65535),(yJ .i64 (shr .i64 a0 32) 65535),(yJ .i64 (shr .i64 a0 48) 65535)]
def yH1 (k:Nat)(rec:Int→AC→Option AC)(s3:Int)(r0:AC):Option AC:=
 bif decide ((zA (s3 + 1)) < (r0.length : Int)) then (bif zB (zA (s3 + 1)) r0.length then (bif zB s3 r0.length then (bif zB (zA (s3 + 1)) r0.length then (let y0:AC:=(r0.set (zA (s3+1)).toNat (zA ((r0.getD (zA (s3+1)).toNat 0)+(shr .i64 (r0.getD s3.toNat 0) 16))))
     bif zB s3 y0.length then (bif zB s3 y0.length then(rec (zA (s3+1)) (y0.set s3.toNat (yJ .i64 (y0.getD s3.toNat 0) 65535)))
      else none)
     else none)
    else none)
   else none)
  else none)
 else some r0
def qKd (k:Nat):Nat→Int→AC→Option AC:=yS (fun _ _=>none) (yH1 k)
def FR (k:Nat)(a0:AC):Option AC:=
 (qKd k k 0 a0).bind fun z=>
 some z
abbrev qMr:Type:=Int×Int×AC×AC
abbrev qJ9:Type:=Int→Int→Int→AC→AC→Option qMr
def yQ1 (k:Nat)(rec:qJ9)(s1 s7 s8:Int)(r0 r1:AC):Option qMr:=
 bif decide (s8 < 4) then (bif !(decide ((IntKind.wrap .u64 ((zA (16 * s8)))) < 0)) then (bif zB (zA (s7 + s8)) r1.length then (bif zB s7 r0.length then (bif zB (zA (s7 + s8)) r1.length then (let y0:AC:=(r1.set (zA (s7+s8)).toNat (zA ((r1.getD (zA (s7+s8)).toNat 0)+(zA ((r0.getD s7.toNat 0)*(yJ .i64 (shr .i64 s1 (IntKind.wrap .u64 ((zA (16*s8))))) 65535))))))
      rec s1 s7 (zA (s8+1)) r0 y0)
     else none)
    else none)
   else none)
  else none)
 else some (s1,s7,r0,r1)
def qM3 (k:Nat):Nat→qJ9:=yS (fun _ _ _ _ _=>none) (yQ1 k)
abbrev qQw:Type:=Int→Int→AC→AC→Option AC
def yDf (k:Nat)(rec:qQw)(s1 s7:Int)(r0 r1:AC):Option AC:=
 bif decide (s7 < 4) then ((qM3 k k s1 s7 0 r0 r1).bind fun z=>
  rec z.1 (zA (z.2.1+1)) z.2.2.1 z.2.2.2)
 else some r1
def OV (k:Nat):Nat→qQw:=yS (fun _ _ _ _=>none) (yDf k)
def OW (k:Nat)(a0 a1:Int):Option AC:=
 (OX k a0).bind fun x0=>
 (OV k k a1 0 x0 [0,0,0,0,0,0,0,0,0]).bind fun z1=>
 (FR k z1).bind fun x1=>
 some x1
def yJj (k:Nat)(rec:Int→Int→AC→Option AC)(s1 s5:Int)(r0:AC):Option AC:=
 bif decide (s5 < (r0.length : Int)) then (bif zB s5 r0.length then (bif zB s5 r0.length then(rec s1 (zA (s5+1)) (r0.set s5.toNat (zA ((r0.getD s5.toNat 0)*s1))))
   else none)
  else none)
 else some r0
def OT (k:Nat):Nat→Int→Int→AC→Option AC:=yS (fun _ _ _=>none) (yJj k)
def OR (k:Nat)(a0:AC)(a1:Int):Option AC:=
 (OT k k a1 0 a0).bind fun z=>
 (FR k z).bind fun x0=>
 some x0
def vBq (k:Nat)(rec:XH)(s1 s6 s7:Int)(r0:AC):Option AC:=
 bif decide (s7 ≥ 0) then (bif zB s7 r0.length then (bif !(decide (s1 = 0)) then (bif zB s7 r0.length then (let y0:AC:=(r0.set s7.toNat (zA (Int.tdiv (zA ((shl .i64 s6 16)+(r0.getD s7.toNat 0))) s1)))
     bif !(decide (s1=0)) then(rec s1 (Int.tmod (zA ((shl .i64 s6 16)+(r0.getD s7.toNat 0))) s1) (zA (s7-1)) y0)
     else none)
    else none)
   else none)
  else none)
 else some r0
def Ke (k:Nat):Nat→XH:=yS (fun _ _ _ _=>none) (vBq k)
abbrev qTr:Type:=Int→AC→Option (AC⊕eY)
def yL5 (k:Nat)(rec:qTr)(s9:Int)(r0:AC):Option (AC⊕eY):=
 bif decide (s9 < (r0.length : Int)) then (bif zB s9 r0.length then (bif !(decide ((r0.getD s9.toNat 0)=0)) then some (.inr (0,false))
   else rec (zA (s9+1)) r0)
  else none)
 else some (.inl r0)
def FT (k:Nat):Nat→qTr:=yS (fun _ _=>none) (yL5 k)
def OU (k:Nat)(a0:AC)(a1:Int):Option eY:=
 (Ke k k a1 0 (zA ((a0.length:Int)-1)) a0).bind fun z=>
 (FT k k 4 z).bind fun z1=>
 match z1 with
 | .inl z2 => bif zB 3 z2.length then (bif decide ((z2.getD 3 0)≥32768) then some (0,false)
   else bif zB 3 z2.length then (bif zB 2 z2.length then (bif zB 1 z2.length then (bif zB 0 z2.length then some ((wG .i64 (wG .i64 (wG .i64 (shl .i64 (z2.getD 3 0) 48) (shl .i64 (z2.getD 2 0) 32)) (shl .i64 (z2.getD 1 0) 16)) (z2.getD 0 0)),true)
      else none)
     else none)
    else none)
   else none)
  else none
 |.inr z3=>some (z3.1,z3.2)
def O3 (k:Nat)(a0 a1 a2:Int):Option eY:=
 bif decide (a0<0) then some (0,false)
 else bif decide (a1<0) then some (0,false)
 else bif decide (a2<0) then some (0,false)
 else bif decide (a2>10000) then some (0,false)
 else(OW k a0 a1).bind fun x0=>
 (OR k x0 (zA (10000-a2))).bind fun x1=>
 (OU k x1 10000).bind fun x2=>
 some (x2.1,x2.2)
def FV (k:Nat)(a0 a1:Int):Option eY:=
 bif decide (a1 > 0) then (bif decide (a0>(zA (9223372036854775807-a1))) then some (0,false)
  else bif decide (a1 < 0) then (bif decide (a0<(zA ((-9223372036854775808)-a1))) then some (0,false)
   else some ((zA (a0+a1)),true))
  else some ((zA (a0+a1)),true))
 else bif decide (a1 < 0) then (bif decide (a0<(zA ((-9223372036854775808)-a1))) then some (0,false)
  else some ((zA (a0+a1)),true))
 else some ((zA (a0+a1)),true)
abbrev qYw:Type:=List vU→AC→AC→Int→Int→Option (Int⊕eY)
def FW (k:Nat)(rec:qYw)(s0:List vU)(s1 s2:AC)(s8 s9:Int):Option (Int⊕eY):=
 bif decide (s9 < (s0.length : Int)) then (bif zB s9 s1.length then (bif zB s9 s2.length then (bif zB s9 s0.length then ((O3 k (s1.getD s9.toNat 0) (s2.getD s9.toNat 0) (s0.getD s9.toNat (0,0)).2).bind fun x0=>
     (FV k s8 x0.1).bind fun x1=>
     bif !x0.2 then some (.inr (0,false))
     else bif !x1.2 then some (.inr (0,false))
     else rec s0 s1 s2 x1.1 (zA (s9+1)))
    else none)
   else none)
  else none)
 else some (.inl s8)
def Kj (k:Nat):Nat→qYw:=yS (fun _ _ _ _ _=>none) (FW k)
def Bm (k:Nat)(a0:List vU)(a1 a2:AC):Option eY:=
 bif !(decide ((a1.length:Int)=(a0.length:Int))) then some (0,false)
 else bif !(decide ((a2.length:Int)=(a0.length:Int))) then some (0,false)
 else(Kj k k a0 a1 a2 0 0).bind fun z=>
 match z with
 |.inl z1=>some (z1,true)
 |.inr z2=>some (z2.1,z2.2)
def Pd (k:Nat)(a0:qq)(a1 a2:Int):Option (Int×uS):=
 bif decide (a1<0) then some (1,(yE a0 ([],a0.2.2.2.2.2.2.2.2.2.2.2.2.2.2.2.2.2)))
 else bif decide (a1≥(a0.2.1.length:Int)) then some (1,(yE a0 ([],a0.2.2.2.2.2.2.2.2.2.2.2.2.2.2.2.2.2)))
 else bif decide (a2<0) then some (1,(yE a0 ([],a0.2.2.2.2.2.2.2.2.2.2.2.2.2.2.2.2.2)))
 else bif decide (a2>1099511627776) then some (1,(yE a0 ([],a0.2.2.2.2.2.2.2.2.2.2.2.2.2.2.2.2.2)))
 else bif zB a0.2.2.2.2.2.2.2.2.2.2.2.2.2.2.2.2.1 a0.2.2.2.2.2.2.2.2.2.2.2.1.length then ((uG k (a0.2.2.2.2.2.2.2.2.2.2.2.1.getD a0.2.2.2.2.2.2.2.2.2.2.2.2.2.2.2.2.1.toNat []) a1 a2).bind fun x0=>
  (Bm k a0.2.1 a0.2.2.2.2.2.2.2.2.2.2.1 x0).bind fun x1=>
  bif !x1.2 then some (8,(yE a0 ([],a0.2.2.2.2.2.2.2.2.2.2.2.2.2.2.2.2.2)))
  else bif decide (x1.1>1152921504606846976) then some (8,(yE a0 ([],a0.2.2.2.2.2.2.2.2.2.2.2.2.2.2.2.2.2)))
  else(oM k a0.2.2.2.2.2.2.1 a0.2.2.2.2.2.2.2.1 a0.2.2.2.2.2.2.2.2.1 a0.2.2.2.2.2.2.2.2.2.1).bind fun x2=>
  bif zB a0.2.2.2.2.2.2.2.2.2.2.2.2.2.2.2.2.1 x2.1.length then (bif decide (x1.1 < (x2.1.getD a0.2.2.2.2.2.2.2.2.2.2.2.2.2.2.2.2.1.toNat (0, 0, 0)).2.1) then (bif decide ((zA ((x2.1.getD a0.2.2.2.2.2.2.2.2.2.2.2.2.2.2.2.2.1.toNat (0,0,0)).1+x1.1))<0) then some (9,(yE a0 ([],a0.2.2.2.2.2.2.2.2.2.2.2.2.2.2.2.2.2)))
    else bif zB a0.2.2.2.2.2.2.2.2.2.2.2.2.2.2.2.2.1 x2.1.length then (let y0:List zI:=(x2.1.set a0.2.2.2.2.2.2.2.2.2.2.2.2.2.2.2.2.1.toNat ((x2.1.getD a0.2.2.2.2.2.2.2.2.2.2.2.2.2.2.2.2.1.toNat (0,0,0)).1,x1.1,(x2.1.getD a0.2.2.2.2.2.2.2.2.2.2.2.2.2.2.2.2.1.toNat (0,0,0)).2.2))
     bif zP (0 + a0.2.2.2.2.2.2.2.2.2.2.2.1.length) 24 then (bif zB a0.2.2.2.2.2.2.2.2.2.2.2.2.2.2.2.2.1 a0.2.2.2.2.2.2.2.2.2.2.2.1.length then (let y1:EQ:=(a0.2.2.2.2.2.2.2.2.2.2.2.1.set a0.2.2.2.2.2.2.2.2.2.2.2.2.2.2.2.2.1.toNat x0)
       some (0,(jN a0 (y0,x2.2.1,x2.2.2.1,x2.2.2.2,a0.2.2.2.2.2.2.2.2.2.2.1,y1,(yJv a0 ([],a0.2.2.2.2.2.2.2.2.2.2.2.2.2.2.2.2.2))))))
      else none)
     else none)
    else none)
   else bif zB a0.2.2.2.2.2.2.2.2.2.2.2.2.2.2.2.2.1 x2.1.length then (let y2:List zI:=(x2.1.set a0.2.2.2.2.2.2.2.2.2.2.2.2.2.2.2.2.1.toNat ((x2.1.getD a0.2.2.2.2.2.2.2.2.2.2.2.2.2.2.2.2.1.toNat (0,0,0)).1,x1.1,(x2.1.getD a0.2.2.2.2.2.2.2.2.2.2.2.2.2.2.2.2.1.toNat (0,0,0)).2.2))
    bif zP (0 + a0.2.2.2.2.2.2.2.2.2.2.2.1.length) 24 then (bif zB a0.2.2.2.2.2.2.2.2.2.2.2.2.2.2.2.2.1 a0.2.2.2.2.2.2.2.2.2.2.2.1.length then (let y3:EQ:=(a0.2.2.2.2.2.2.2.2.2.2.2.1.set a0.2.2.2.2.2.2.2.2.2.2.2.2.2.2.2.2.1.toNat x0)
      some (0,(jN a0 (y2,x2.2.1,x2.2.2.1,x2.2.2.2,a0.2.2.2.2.2.2.2.2.2.2.1,y3,(yJv a0 ([],a0.2.2.2.2.2.2.2.2.2.2.2.2.2.2.2.2.2))))))
     else none)
    else none)
   else none)
  else none)
 else none
def Ge (k:Nat)(a0:zI)(a1:Int):Option (zI×Int):=
 (FV k a0.1 a1).bind fun x0=>
 bif !x0.2 then some (a0,8)
 else(IJ k x0.1 a0.2.1 a0.2.2).bind fun x1=>
 bif !x1 then some (a0,8)
 else some ((x0.1,a0.2),0)
def Gf (k:Nat)(a0:qq)(a1:Bool)(a2 a3:Int):Option (Int×uS):=
 (uF k (yE a0 ([],a0.2.2.2.2.2.2.2.2.2.2.2.2.2.2.2.2.2)) a2).bind fun x0=>
 bif decide (x0<0) then some (1,(yE a0 ([],a0.2.2.2.2.2.2.2.2.2.2.2.2.2.2.2.2.2)))
 else bif decide (a3<1) then some (1,(yE a0 ([],a0.2.2.2.2.2.2.2.2.2.2.2.2.2.2.2.2.2)))
 else bif decide (a3>1099511627776) then some (1,(yE a0 ([],a0.2.2.2.2.2.2.2.2.2.2.2.2.2.2.2.2.2)))
 else(oM k a0.2.2.2.2.2.2.1 a0.2.2.2.2.2.2.2.1 a0.2.2.2.2.2.2.2.2.1 a0.2.2.2.2.2.2.2.2.2.1).bind fun x1=>
 bif a1 then (bif zB x0 x1.1.length then ((Ge k (x1.1.getD x0.toNat (0,0,0)) a3).bind fun x2=>
   bif decide ((zA (a0.2.2.2.2.2.2.2.2.2.2.2.2.2.2.1+a3))>1152921504606846976) then some (8,(yE a0 ([],a0.2.2.2.2.2.2.2.2.2.2.2.2.2.2.2.2.2)))
   else bif !(decide (x2.2=0)) then some (8,(yE a0 ([],a0.2.2.2.2.2.2.2.2.2.2.2.2.2.2.2.2.2)))
   else bif zB x0 x1.1.length then some (0,(jN a0 ((x1.1.set x0.toNat x2.1),x1.2.1,x1.2.2.1,x1.2.2.2,(G9 a0 ((zA (a0.2.2.2.2.2.2.2.2.2.2.2.2.2.2.1+a3)),a0.2.2.2.2.2.2.2.2.2.2.2.2.2.2.2.1,a0.2.2.2.2.2.2.2.2.2.2.2.2.2.2.2.2.1,[],a0.2.2.2.2.2.2.2.2.2.2.2.2.2.2.2.2.2)))))
   else none)
  else none)
 else bif zB x0 x1.1.length then (bif decide ((zA ((zA ((x1.1.getD x0.toNat (0,0,0)).1+(x1.1.getD x0.toNat (0,0,0)).2.1))-(x1.1.getD x0.toNat (0,0,0)).2.2))<a3) then some (9,(yE a0 ([],a0.2.2.2.2.2.2.2.2.2.2.2.2.2.2.2.2.2)))
  else bif decide (a0.2.2.2.2.2.2.2.2.2.2.2.2.2.2.1<a3) then some (9,(yE a0 ([],a0.2.2.2.2.2.2.2.2.2.2.2.2.2.2.2.2.2)))
  else bif zB x0 x1.1.length then (let y0:List zI:=(x1.1.set x0.toNat ((zA ((x1.1.getD x0.toNat (0,0,0)).1-a3)),(x1.1.getD x0.toNat (0,0,0)).2))
   some (0,(jN a0 (y0,x1.2.1,x1.2.2.1,x1.2.2.2,(G9 a0 ((zA (a0.2.2.2.2.2.2.2.2.2.2.2.2.2.2.1-a3)),a0.2.2.2.2.2.2.2.2.2.2.2.2.2.2.2.1,a0.2.2.2.2.2.2.2.2.2.2.2.2.2.2.2.2.1,[],a0.2.2.2.2.2.2.2.2.2.2.2.2.2.2.2.2.2))))))
  else none)
 else none
abbrev qSl:Type:=(qq×AC×(List zI)×EQ×AC×EQ)⊕(Int×qq)
abbrev qKx:Type:=Int→qq→AC→List zI→EQ→AC→EQ→Option qSl
def Gg (k:Nat)(rec:qKx)(s9:Int)(b0:qq)(r1:AC)(r3:List zI)(m4:EQ)(r5:AC)(m6:EQ):Option qSl:=
 bif decide (s9 < (r3.length : Int)) then (bif zB s9 b0.2.2.2.2.2.2.2.2.2.2.2.1.length then ((Bm k b0.2.1 r1 (b0.2.2.2.2.2.2.2.2.2.2.2.1.getD s9.toNat [])).bind fun x2=>
   bif !x2.2 then some (.inr (8,b0))
   else bif decide (x2.1>1152921504606846976) then some (.inr (8,b0))
   else bif zB s9 r3.length then (let y0:List zI:=(r3.set s9.toNat ((r3.getD s9.toNat (0,0,0)).1,x2.1,(r3.getD s9.toNat (0,0,0)).2.2))
    rec (zA (s9+1)) b0 r1 y0 m4 r5 m6)
   else none)
  else none)
 else some (.inl (b0,r1,r3,m4,r5,m6))
def uH (k:Nat):Nat→qKx:=yS (fun _ _ _ _ _ _ _=>none) (Gg k)
def Pe (k:Nat)(a0:qq)(a1 a2:Int):Option (Int×uS):=
 bif decide (a1<0) then some (1,(yE a0 ([],a0.2.2.2.2.2.2.2.2.2.2.2.2.2.2.2.2.2)))
 else bif decide (a1≥(a0.2.1.length:Int)) then some (1,(yE a0 ([],a0.2.2.2.2.2.2.2.2.2.2.2.2.2.2.2.2.2)))
 else bif decide (a2<0) then some (1,(yE a0 ([],a0.2.2.2.2.2.2.2.2.2.2.2.2.2.2.2.2.2)))
 else bif decide (a2>1048576) then some (1,(yE a0 ([],a0.2.2.2.2.2.2.2.2.2.2.2.2.2.2.2.2.2)))
 else(uG k a0.2.2.2.2.2.2.2.2.2.2.1 a1 a2).bind fun x0=>
 (oM k a0.2.2.2.2.2.2.1 a0.2.2.2.2.2.2.2.1 a0.2.2.2.2.2.2.2.2.1 a0.2.2.2.2.2.2.2.2.2.1).bind fun x1=>
 (uH k k 0 a0 x0 x1.1 x1.2.1 x1.2.2.1 x1.2.2.2).bind fun z=>
 match z with
 |.inl z1=>some (0,(jN z1.1 (Bt z1 (z1.2.1,(yCz z1.1 ([],z1.1.2.2.2.2.2.2.2.2.2.2.2.2.2.2.2.2.2))))))
 |.inr z2=>some (yZr z2 ([],z2.2.2.2.2.2.2.2.2.2.2.2.2.2.2.2.2.2.2))
def xR (k:Nat)(a0:qq)(a1:zC):Option (Int×uS):=
 bif decide (a1.1 = 1) then ((Pc k a0 a1.2).bind fun x0=>
  some (x0.1,x0.2))
 else bif decide (a1.1 = 2) then ((Bx k a0 a1.1 a1.2).bind fun x1=>
  some (x1.1,x1.2))
 else bif decide (a1.1 = 3) then ((Bx k a0 a1.1 a1.2).bind fun x2=>
  some (x2.1,x2.2))
 else bif decide (a1.1 = 4) then ((Bx k a0 a1.1 a1.2).bind fun x3=>
  some (x3.1,x3.2))
 else bif decide (a1.1 = 5) then ((By k a0 a1.1 a1.2).bind fun x4=>
  some (x4.1,x4.2))
 else bif decide (a1.1 = 6) then ((By k a0 a1.1 a1.2).bind fun x5=>
  some (x5.1,x5.2))
 else bif decide (a1.1 = 7) then ((By k a0 a1.1 a1.2).bind fun x6=>
  some (x6.1,x6.2))
 else bif decide (a1.1 = 8) then ((Pd k a0 a1.2.1 a1.2.2.1).bind fun x7=>
  some (x7.1,x7.2))
 else bif decide (a1.1 = 10) then ((Gf k a0 (decide (a1.1=10)) a1.2.1 a1.2.2.1).bind fun x8=>
  some (x8.1,x8.2))
 else bif decide (a1.1 = 11) then ((Gf k a0 (decide (a1.1=10)) a1.2.1 a1.2.2.1).bind fun x9=>
  some (x9.1,x9.2))
 else bif decide (a1.1 = 12) then ((Pe k a0 a1.2.1 a1.2.2.1).bind fun dm=>
  some (dm.1,dm.2))
 else some (0,(yE a0 ([],a0.2.2.2.2.2.2.2.2.2.2.2.2.2.2.2.2.2)))
def GG (k:Nat)(a0:vP)(a1:yY)(a2:qS):Option (yY×(List qS)×Int):=
 (BB k a0 a2).bind fun x0=>
 bif !x0 then some (a1,[],5)
 else bif a1.2.2.2.2.2.2.2.2.2.2 then (bif !(decide (a2.2.1=9)) then some (a1,[],7)
  else bif decide (a2.2.1 = 9) then (bif zB a2.1 a1.2.1.length then ((uh k a1.2.2.2.2.2.2.2.1 a2.1).bind fun x1=>
    (eW k 17 [(a1.2.1.getD a2.1.toNat (0,0,0)).1,(a1.2.1.getD a2.1.toNat (0,0,0)).2.1,(a1.2.1.getD a2.1.toNat (0,0,0)).2.2,(x1.length:Int),a1.1]).bind fun x2=>
    some (a1,[(a2.1,x2)],0))
   else none)
  else bif decide (a2.2.1 = 14) then ((GA k a0 a1).bind fun x3=>
   some (x3.1,x3.2,0))
  else(xR k (jE a0 (wP a1 (a2.1,0))) a2.2).bind fun x4=>
  bif !(decide (x4.1=0)) then some (a1,[],x4.1)
  else bif !(decide (a2.1 = (-1))) then ((eW k 15 []).bind fun x5=>
   (nR k x4.2.2.2.2.2.2.1 x4.2.2.2.2.2.2.2.1 x4.2.2.2.2.2.2.2.2.1 x4.2.2.2.2.2.2.2.2.2.1 x4.2.2.2.2.2.2.2.2.2.2.1 x4.2.2.2.2.2.2.2.2.2.2.2.1 x4.2.2.2.2.2.2.2.2.2.2.2.2.1 x4.2.2.2.2.2.2.2.2.2.2.2.2.2.1 x4.2.2.2.2.2.2.2.2.2.2.2.2.2.2.1 x4.2.2.2.2.2.2.2.2.2.2.2.2.2.2.2.1 x4.2.2.2.2.2.2.2.2.2.2.2.2.2.2.2.2.1 (decide (a2.2.1=13))).bind fun x6=>
   bif zP (1 + x4.2.2.2.2.2.2.2.2.2.2.2.2.2.2.2.2.2.2.1.length) 64 then (let y0:List qS:=([(a2.1,x5)]++x4.2.2.2.2.2.2.2.2.2.2.2.2.2.2.2.2.2.2.1)
    bif zP (y0.length + x6.2.2.2.2.2.2.2.2.2.2.2.length) 64 then (bif decide (x4.2.2.2.2.2.2.2.2.2.2.2.2.2.2.2.2.2.2.2 > 0) then ((mQ k x6.2.2.2.2.2.2.2.1 x4.2.2.2.2.2.2.2.2.2.2.2.2.2.2.2.2.2.2.2).bind fun x7=>
      bif decide (x7 ≥ 0) then ((eW k 19 [x4.2.2.2.2.2.2.2.2.2.2.2.2.2.2.2.2.2.2.2]).bind fun x8=>
       bif zP ((y0 ++ x6.2.2.2.2.2.2.2.2.2.2.2).length + 1) 64 then (let y1:List qS:=((y0++x6.2.2.2.2.2.2.2.2.2.2.2)++[(a2.1,x8)])
        some ((qQ x6),y1,0))
       else none)
      else some ((qQ x6),(y0++x6.2.2.2.2.2.2.2.2.2.2.2),0))
     else some ((qQ x6),(y0++x6.2.2.2.2.2.2.2.2.2.2.2),0))
    else none)
   else none)
  else(nR k x4.2.2.2.2.2.2.1 x4.2.2.2.2.2.2.2.1 x4.2.2.2.2.2.2.2.2.1 x4.2.2.2.2.2.2.2.2.2.1 x4.2.2.2.2.2.2.2.2.2.2.1 x4.2.2.2.2.2.2.2.2.2.2.2.1 x4.2.2.2.2.2.2.2.2.2.2.2.2.1 x4.2.2.2.2.2.2.2.2.2.2.2.2.2.1 x4.2.2.2.2.2.2.2.2.2.2.2.2.2.2.1 x4.2.2.2.2.2.2.2.2.2.2.2.2.2.2.2.1 x4.2.2.2.2.2.2.2.2.2.2.2.2.2.2.2.2.1 (decide (a2.2.1=13))).bind fun x9=>
  bif zP x4.2.2.2.2.2.2.2.2.2.2.2.2.2.2.2.2.2.2.1.length 64 then (let y2:List qS:=x4.2.2.2.2.2.2.2.2.2.2.2.2.2.2.2.2.2.2.1
   bif zP (y2.length + x9.2.2.2.2.2.2.2.2.2.2.2.length) 64 then (bif decide (x4.2.2.2.2.2.2.2.2.2.2.2.2.2.2.2.2.2.2.2 > 0) then ((mQ k x9.2.2.2.2.2.2.2.1 x4.2.2.2.2.2.2.2.2.2.2.2.2.2.2.2.2.2.2.2).bind fun dm=>
     bif decide (dm ≥ 0) then ((eW k 19 [x4.2.2.2.2.2.2.2.2.2.2.2.2.2.2.2.2.2.2.2]).bind fun cR=>
      bif zP ((y2 ++ x9.2.2.2.2.2.2.2.2.2.2.2).length + 1) 64 then (let y3:List qS:=((y2++x9.2.2.2.2.2.2.2.2.2.2.2)++[(a2.1,cR)])
       some ((qQ x9),y3,0))
      else none)
     else some ((qQ x9),(y2++x9.2.2.2.2.2.2.2.2.2.2.2),0))
    else some ((qQ x9),(y2++x9.2.2.2.2.2.2.2.2.2.2.2),0))
   else none)
  else none)
 else bif decide (a2.2.1 = 9) then (bif zB a2.1 a1.2.1.length then ((uh k a1.2.2.2.2.2.2.2.1 a2.1).bind fun sN=>
   (eW k 17 [(a1.2.1.getD a2.1.toNat (0,0,0)).1,(a1.2.1.getD a2.1.toNat (0,0,0)).2.1,(a1.2.1.getD a2.1.toNat (0,0,0)).2.2,(sN.length:Int),a1.1]).bind fun dX=>
   some (a1,[(a2.1,dX)],0))
  else none)
 else bif decide (a2.2.1 = 14) then ((GA k a0 a1).bind fun nc=>
  some (nc.1,nc.2,0))
 else(xR k (jE a0 (wP a1 (a2.1,0))) a2.2).bind fun bG=>
 bif !(decide (bG.1=0)) then some (a1,[],bG.1)
 else bif !(decide (a2.1 = (-1))) then ((eW k 15 []).bind fun gv=>
  (nR k bG.2.2.2.2.2.2.1 bG.2.2.2.2.2.2.2.1 bG.2.2.2.2.2.2.2.2.1 bG.2.2.2.2.2.2.2.2.2.1 bG.2.2.2.2.2.2.2.2.2.2.1 bG.2.2.2.2.2.2.2.2.2.2.2.1 bG.2.2.2.2.2.2.2.2.2.2.2.2.1 bG.2.2.2.2.2.2.2.2.2.2.2.2.2.1 bG.2.2.2.2.2.2.2.2.2.2.2.2.2.2.1 bG.2.2.2.2.2.2.2.2.2.2.2.2.2.2.2.1 bG.2.2.2.2.2.2.2.2.2.2.2.2.2.2.2.2.1 (decide (a2.2.1=13))).bind fun iS=>
  bif zP (1 + bG.2.2.2.2.2.2.2.2.2.2.2.2.2.2.2.2.2.2.1.length) 64 then (let y4:List qS:=([(a2.1,gv)]++bG.2.2.2.2.2.2.2.2.2.2.2.2.2.2.2.2.2.2.1)
   bif zP (y4.length + iS.2.2.2.2.2.2.2.2.2.2.2.length) 64 then (bif decide (bG.2.2.2.2.2.2.2.2.2.2.2.2.2.2.2.2.2.2.2 > 0) then ((mQ k iS.2.2.2.2.2.2.2.1 bG.2.2.2.2.2.2.2.2.2.2.2.2.2.2.2.2.2.2.2).bind fun oZ=>
     bif decide (oZ ≥ 0) then ((eW k 19 [bG.2.2.2.2.2.2.2.2.2.2.2.2.2.2.2.2.2.2.2]).bind fun lq=>
      bif zP ((y4 ++ iS.2.2.2.2.2.2.2.2.2.2.2).length + 1) 64 then (let y5:List qS:=((y4++iS.2.2.2.2.2.2.2.2.2.2.2)++[(a2.1,lq)])
       some ((qQ iS),y5,0))
      else none)
     else some ((qQ iS),(y4++iS.2.2.2.2.2.2.2.2.2.2.2),0))
    else some ((qQ iS),(y4++iS.2.2.2.2.2.2.2.2.2.2.2),0))
   else none)
  else none)
 else(nR k bG.2.2.2.2.2.2.1 bG.2.2.2.2.2.2.2.1 bG.2.2.2.2.2.2.2.2.1 bG.2.2.2.2.2.2.2.2.2.1 bG.2.2.2.2.2.2.2.2.2.2.1 bG.2.2.2.2.2.2.2.2.2.2.2.1 bG.2.2.2.2.2.2.2.2.2.2.2.2.1 bG.2.2.2.2.2.2.2.2.2.2.2.2.2.1 bG.2.2.2.2.2.2.2.2.2.2.2.2.2.2.1 bG.2.2.2.2.2.2.2.2.2.2.2.2.2.2.2.1 bG.2.2.2.2.2.2.2.2.2.2.2.2.2.2.2.2.1 (decide (a2.2.1=13))).bind fun kS=>
 bif zP bG.2.2.2.2.2.2.2.2.2.2.2.2.2.2.2.2.2.2.1.length 64 then (let y6:List qS:=bG.2.2.2.2.2.2.2.2.2.2.2.2.2.2.2.2.2.2.1
  bif zP (y6.length + kS.2.2.2.2.2.2.2.2.2.2.2.length) 64 then (bif decide (bG.2.2.2.2.2.2.2.2.2.2.2.2.2.2.2.2.2.2.2 > 0) then ((mQ k kS.2.2.2.2.2.2.2.1 bG.2.2.2.2.2.2.2.2.2.2.2.2.2.2.2.2.2.2.2).bind fun B3=>
    bif decide (B3 ≥ 0) then ((eW k 19 [bG.2.2.2.2.2.2.2.2.2.2.2.2.2.2.2.2.2.2.2]).bind fun B4=>
     bif zP ((y6 ++ kS.2.2.2.2.2.2.2.2.2.2.2).length + 1) 64 then (let y7:List qS:=((y6++kS.2.2.2.2.2.2.2.2.2.2.2)++[(a2.1,B4)])
      some ((qQ kS),y7,0))
     else none)
    else some ((qQ kS),(y6++kS.2.2.2.2.2.2.2.2.2.2.2),0))
   else some ((qQ kS),(y6++kS.2.2.2.2.2.2.2.2.2.2.2),0))
  else none)
 else none
def xZ (k:Nat)(bg:qs)(dv:gT)(mi:vQ):Option (yY×qs×gT×vQ):=
 some ((pX bg),bg,dv,mi)
abbrev qMl:Type:=AC→AC→Int→Option (Unit⊕Bool)
def D4 (k:Nat)(rec:qMl)(s0 s1:AC)(s5:Int):Option (Unit⊕Bool):=
 bif decide (s5 < (s0.length : Int)) then (bif zB s5 s0.length then (bif zB s5 s1.length then (bif !(decide ((s0.getD s5.toNat 0)=(s1.getD s5.toNat 0))) then some (.inr false)
    else rec s0 s1 (zA (s5+1)))
   else none)
  else none)
 else some (.inl ())
def I4 (k:Nat):Nat→qMl
 |0,_,_,_=>none
 |n+1,s0,s1,s5=>D4 k (I4 k n) s0 s1 s5
def nI (k:Nat)(a0 a1:AC):Option Bool:=
 bif !(decide ((a0.length:Int)=(a1.length:Int))) then some false
 else(I4 k k a0 a1 0).bind fun z=>
 match z with
 |.inl z1=>some true
 |.inr z2=>some z2
abbrev qNh:Type:=EQ→EQ→Int→Option (Unit⊕Bool)
def D5 (k:Nat)(rec:qNh)(s0 s1:EQ)(s5:Int):Option (Unit⊕Bool):=
 bif decide (s5 < (s0.length : Int)) then (bif zB s5 s0.length then (bif zB s5 s1.length then ((nI k (s0.getD s5.toNat []) (s1.getD s5.toNat [])).bind fun x0=>
    bif !x0 then some (.inr false)
    else rec s0 s1 (zA (s5+1)))
   else none)
  else none)
 else some (.inl ())
def I5 (k:Nat):Nat→qNh
 |0,_,_,_=>none
 |n+1,s0,s1,s5=>D5 k (I5 k n) s0 s1 s5
def ua (k:Nat)(a0 a1:EQ):Option Bool:=
 bif !(decide ((a0.length:Int)=(a1.length:Int))) then some false
 else(I5 k k a0 a1 0).bind fun z=>
 match z with
 |.inl z1=>some true
 |.inr z2=>some z2
abbrev qN2:Type:=Int→List zI→EQ→AC→EQ→List zI→EQ→AC→EQ→Option (Unit⊕Bool)
def D7 (k:Nat)(rec:qN2)(s5:Int)(af:List zI)(ah:EQ)(ai:AC)(ag:EQ)(av:List zI)(aB:EQ)(aC:AC)(aE:EQ):Option (Unit⊕Bool):=
 bif decide (s5 < (af.length : Int)) then (bif zB s5 af.length then (bif zB s5 av.length then (bif !((decide ((af.getD s5.toNat (0,0,0)).1=(av.getD s5.toNat (0,0,0)).1))&&((decide ((af.getD s5.toNat (0,0,0)).2.1=(av.getD s5.toNat (0,0,0)).2.1))&&(decide ((af.getD s5.toNat (0,0,0)).2.2=(av.getD s5.toNat (0,0,0)).2.2)))) then some (.inr false)
    else rec (zA (s5+1)) af ah ai ag av aB aC aE)
   else none)
  else none)
 else some (.inl ())
def I6 (k:Nat):Nat→qN2
 |0,_,_,_,_,_,_,_,_,_=>none
 |n+1,s5,af,ah,ai,ag,av,aB,aC,aE=>D7 k (I6 k n) s5 af ah ai ag av aB aC aE
def D6 (k:Nat)(au:List zI)(az:EQ)(ay:AC)(ax:EQ)(cT:List zI)(iT:EQ)(iU:AC)(iV:EQ):Option Bool:=
 bif !(decide ((au.length:Int)=(cT.length:Int))) then some false
 else(ua k az iT).bind fun x0=>
 bif !x0 then some false
 else(ua k ax iV).bind fun x1=>
 bif !x1 then some false
 else(nI k ay iU).bind fun x2=>
 bif !x2 then some false
 else(I6 k k 0 au az ay ax cT iT iU iV).bind fun z=>
 match z with
 |.inl z1=>some true
 |.inr z2=>some z2
abbrev qYx:Type:=List zC→List zC→Int→Option (Unit⊕Bool)
def GR (k:Nat)(rec:qYx)(s0 s1:List zC)(s5:Int):Option (Unit⊕Bool):=
 bif decide (s5 < (s0.length : Int)) then (bif zB s5 s0.length then (bif zB s5 s1.length then (bif !((decide ((s0.getD s5.toNat (0,0,0,0,0,0,0)).1=(s1.getD s5.toNat (0,0,0,0,0,0,0)).1))&&((decide ((s0.getD s5.toNat (0,0,0,0,0,0,0)).2.1=(s1.getD s5.toNat (0,0,0,0,0,0,0)).2.1))&&((decide ((s0.getD s5.toNat (0,0,0,0,0,0,0)).2.2.1=(s1.getD s5.toNat (0,0,0,0,0,0,0)).2.2.1))&&((decide ((s0.getD s5.toNat (0,0,0,0,0,0,0)).2.2.2.1=(s1.getD s5.toNat (0,0,0,0,0,0,0)).2.2.2.1))&&((decide ((s0.getD s5.toNat (0,0,0,0,0,0,0)).2.2.2.2.1=(s1.getD s5.toNat (0,0,0,0,0,0,0)).2.2.2.2.1))&&((decide ((s0.getD s5.toNat (0,0,0,0,0,0,0)).2.2.2.2.2.1=(s1.getD s5.toNat (0,0,0,0,0,0,0)).2.2.2.2.2.1))&&(decide ((s0.getD s5.toNat (0,0,0,0,0,0,0)).2.2.2.2.2.2=(s1.getD s5.toNat (0,0,0,0,0,0,0)).2.2.2.2.2.2)))))))) then some (.inr false)
    else rec s0 s1 (zA (s5+1)))
   else none)
  else none)
 else some (.inl ())
def KS (k:Nat):Nat→qYx
 |0,_,_,_=>none
 |n+1,s0,s1,s5=>GR k (KS k n) s0 s1 s5
def BM (k:Nat)(a0 a1:List zC):Option Bool:=
 bif !(decide ((a0.length:Int)=(a1.length:Int))) then some false
 else(KS k k a0 a1 0).bind fun z=>
 match z with
 |.inl z1=>some true
 |.inr z2=>some z2
def BN (k:Nat)(a0 a1:yY):Option Bool:=
 bif decide (a0.1 = a1.1) then (bif decide (a0.2.2.2.2.2.2.2.2.2.1 = a1.2.2.2.2.2.2.2.2.2.1) then (bif mq a0.2.2.2.2.2.2.2.2.2.2 a1.2.2.2.2.2.2.2.2.2.2 then ((D6 k a0.2.1 a0.2.2.1 a0.2.2.2.1 a0.2.2.2.2.1 a1.2.1 a1.2.2.1 a1.2.2.2.1 a1.2.2.2.2.1).bind fun x0=>
    bif x0 then ((nI k a0.2.2.2.2.2.1 a1.2.2.2.2.2.1).bind fun x1=>
     bif x1 then ((ua k a0.2.2.2.2.2.2.1 a1.2.2.2.2.2.2.1).bind fun x2=>
      bif x2 then ((BM k a0.2.2.2.2.2.2.2.1 a1.2.2.2.2.2.2.2.1).bind fun x3=>
       bif x3 then ((nI k a0.2.2.2.2.2.2.2.2.1 a1.2.2.2.2.2.2.2.2.1).bind fun x4=>
        some x4)
       else some false)
      else some false)
     else some false)
    else some false)
   else some false)
  else some false)
 else some false
def KZ (k:Nat)(a0:vQ):Option vQ:=
 bif (decide (0 ≤ a0.2.2.1)) && (decide (a0.2.2.1 ≤ (a0.2.1.length : Int))) then (bif (decide (0≤a0.2.2.2.2.1))&&(decide (a0.2.2.2.2.1≤(a0.2.2.2.1.length:Int))) then some (a0.1,(List.take (a0.2.2.1.toNat-0) a0.2.1),a0.2.2.1,(List.take (a0.2.2.2.2.1.toNat-0) a0.2.2.2.1),a0.2.2.2.2.1,a0.2.2.2.2.2.1,a0.2.2.2.2.2.2.1,false,false,0)
  else none)
 else none
abbrev qK2:Type:=AC→Int→Int→AC→Option XA
def OP (k:Nat)(rec:qK2)(s0:AC)(s4 s5:Int)(r0:AC):Option XA:=
 bif decide (s5 ≥ 0) then (bif zB s4 s0.length then (bif !(decide ((IntKind.wrap .u64 (s5)) < 0)) then (bif zP (r0.length+1) 1 then(rec s0 s4 (zA (s5-8)) (r0++[(IntKind.wrap .u8 ((shr .u64 (IntKind.wrap .u64 ((s0.getD s4.toNat 0))) (IntKind.wrap .u64 (s5)))))]))
    else none)
   else none)
  else none)
 else some (s0,s4,r0)
def Kb (k:Nat):Nat→qK2:=yS (fun _ _ _ _=>none) (OP k)
abbrev qY1:Type:=AC→Int→AC→Option AC
def FQ (k:Nat)(rec:qY1)(s0:AC)(s4:Int)(r0:AC):Option AC:=
 bif decide (s4 < (s0.length : Int)) then ((Kb k k s0 s4 56 r0).bind fun z=>
  rec z.1 (zA (z.2.1+1)) z.2.2)
 else some r0
def Bl (k:Nat):Nat→qY1:=yS (fun _ _ _=>none) (FQ k)
def OQ (k:Nat)(a0:AC):Option AC:=
 (Bl k k a0 0 []).bind fun z1=>
 some z1
def BG (k:Nat)(a0:zC):Option (Unit⊕(AC)):=
 (sA k a0).bind fun x0=>
 bif !x0 then some (.inl ())
 else(Dz k a0.1).bind fun x1=>
 bif (decide (0 ≤ x1)) && (decide (x1 ≤ 6)) then ((OQ k (qR [a0.2.1,a0.2.2.1,a0.2.2.2.1,a0.2.2.2.2.1,a0.2.2.2.2.2.1,a0.2.2.2.2.2.2] 0 (x1.toNat-0))).bind fun x2=>
  bif zP (1+x2.length) 1 then some (.inr ([(IntKind.wrap .u8 (a0.1))]++x2))
  else none)
 else none
def sL (k:Nat):Option Bool:=
 some true
def qLn (k:Nat)(a1:Int)(a2:AC):Option (List qS):=
 (sL k).bind fun x0=>
 bif x0 then some []
 else(AJ k a2).bind fun x1=>
 bif !(decide (x1.2 = 0)) then ((Lh k a1 x1.2).bind fun x2=>
  some x2)
 else none
def Lq (k:Nat):Option yY:=
 some (0,[],[],[],[],[],[],[],[],0,false)
def j8 (k:Nat)(a0:Int):Option vP:=
 bif decide ((yJ .i64 a0 3)=1) then some (4,[(100,1000),(7,0)],12,20,100)
 else bif decide ((yJ .i64 a0 3)=2) then some (3,[],20,20,4)
 else bif decide ((yJ .i64 a0 3)=3) then some (3,[(100,1000),(7,0)],0,6,1)
 else some (3,[(100,1000),(7,0)],12,20,4)
def PM (k:Nat):Option Bool:=
 (PJ k 20000).bind fun x0=>
 (j8 k 0).bind fun x1=>
 (jJ k x1 x0 100).bind fun x2=>
 match x2 with
 |.inl x3=>(eW k 10 [0,5]).bind fun x4=>
  (BG k x4).bind fun x5=>
  match x5 with
  |.inl x6=>(BS k x3.2.2.1 x3.2.2.2 x3.2.1 (-1) []).bind fun x7=>
   (j8 k 0).bind fun x8=>
   (jJ k x8 x7.2.2.2 100).bind fun x9=>
   match x9 with
   |.inl dm=>(xZ k dm.2.2.1 dm.2.2.2 dm.2.1).bind fun cR=>
    (j8 k 0).bind fun sN=>
    (jJ k sN cR.2.2.2 0).bind fun dX=>
    match dX with
    | .inl nc => bif decide (x3.1 = 0) then (bif decide ((x7.1.length : Int) = 0) then (bif decide (dm.1 = 0) then (bif decide ((cR.1.2.1.length : Int) = 3) then (bif zB 0 cR.1.2.1.length then (bif decide ((cR.1.2.1.getD 0 (0, 0, 0)).1 = 5) then ((j7 k x7.2.1 x7.2.2.1 nc.2.1).bind fun bG=>
           bif !bG.1 then some (decide (nc.1=1))
           else some false)
          else some false)
         else none)
        else some false)
       else some false)
      else some false)
     else some false
    | .inr gv => bif decide (x3.1 = 0) then (bif decide ((x7.1.length : Int) = 0) then (bif decide (dm.1 = 0) then (bif decide ((cR.1.2.1.length : Int) = 3) then (bif zB 0 cR.1.2.1.length then (bif decide ((cR.1.2.1.getD 0 (0, 0, 0)).1 = 5) then ((j7 k x7.2.1 x7.2.2.1 gv.2).bind fun iS=>
           bif !iS.1 then some (decide (gv.1=1))
           else some false)
          else some false)
         else none)
        else some false)
       else some false)
      else some false)
     else some false
   |.inr oZ=>(Lq k).bind fun lq=>
    (j8 k 0).bind fun kS=>
    (jJ k kS oZ.2 0).bind fun B3=>
    match B3 with
    | .inl B4 => bif decide (x3.1 = 0) then (bif decide ((x7.1.length : Int) = 0) then (bif decide (oZ.1 = 0) then (bif decide ((lq.2.1.length : Int) = 3) then (bif zB 0 lq.2.1.length then (bif decide ((lq.2.1.getD 0 (0, 0, 0)).1 = 5) then ((j7 k x7.2.1 x7.2.2.1 B4.2.1).bind fun x23=>
           bif !x23.1 then some (decide (B4.1=1))
           else some false)
          else some false)
         else none)
        else some false)
       else some false)
      else some false)
     else some false
    | .inr Q0 => bif decide (x3.1 = 0) then (bif decide ((x7.1.length : Int) = 0) then (bif decide (oZ.1 = 0) then (bif decide ((lq.2.1.length : Int) = 3) then (bif zB 0 lq.2.1.length then (bif decide ((lq.2.1.getD 0 (0, 0, 0)).1 = 5) then ((j7 k x7.2.1 x7.2.2.1 Q0.2).bind fun x25=>
           bif !x25.1 then some (decide (Q0.1=1))
           else some false)
          else some false)
         else none)
        else some false)
       else some false)
      else some false)
     else some false
  |.inr x26=>(BS k x3.2.2.1 x3.2.2.2 x3.2.1 (-1) x26).bind fun nf=>
   (j8 k 0).bind fun x28=>
   (jJ k x28 nf.2.2.2 100).bind fun x29=>
   match x29 with
   |.inl Ls=>(xZ k Ls.2.2.1 Ls.2.2.2 Ls.2.1).bind fun B5=>
    (j8 k 0).bind fun x32=>
    (jJ k x32 B5.2.2.2 0).bind fun x33=>
    match x33 with
    | .inl x34 => bif decide (x3.1 = 0) then (bif decide ((nf.1.length : Int) = 0) then (bif decide (Ls.1 = 0) then (bif decide ((B5.1.2.1.length : Int) = 3) then (bif zB 0 B5.1.2.1.length then (bif decide ((B5.1.2.1.getD 0 (0, 0, 0)).1 = 5) then ((j7 k nf.2.1 nf.2.2.1 x34.2.1).bind fun x35=>
           bif !x35.1 then some (decide (x34.1=1))
           else some false)
          else some false)
         else none)
        else some false)
       else some false)
      else some false)
     else some false
    | .inr x36 => bif decide (x3.1 = 0) then (bif decide ((nf.1.length : Int) = 0) then (bif decide (Ls.1 = 0) then (bif decide ((B5.1.2.1.length : Int) = 3) then (bif zB 0 B5.1.2.1.length then (bif decide ((B5.1.2.1.getD 0 (0, 0, 0)).1 = 5) then ((j7 k nf.2.1 nf.2.2.1 x36.2).bind fun x37=>
           bif !x37.1 then some (decide (x36.1=1))
           else some false)
          else some false)
         else none)
        else some false)
       else some false)
      else some false)
     else some false
   |.inr x38=>(Lq k).bind fun Ha=>
    (j8 k 0).bind fun x40=>
    (jJ k x40 x38.2 0).bind fun x41=>
    match x41 with
    | .inl x42 => bif decide (x3.1 = 0) then (bif decide ((nf.1.length : Int) = 0) then (bif decide (x38.1 = 0) then (bif decide ((Ha.2.1.length : Int) = 3) then (bif zB 0 Ha.2.1.length then (bif decide ((Ha.2.1.getD 0 (0, 0, 0)).1 = 5) then ((j7 k nf.2.1 nf.2.2.1 x42.2.1).bind fun x43=>
           bif !x43.1 then some (decide (x42.1=1))
           else some false)
          else some false)
         else none)
        else some false)
       else some false)
      else some false)
     else some false
    | .inr x44 => bif decide (x3.1 = 0) then (bif decide ((nf.1.length : Int) = 0) then (bif decide (x38.1 = 0) then (bif decide ((Ha.2.1.length : Int) = 3) then (bif zB 0 Ha.2.1.length then (bif decide ((Ha.2.1.getD 0 (0, 0, 0)).1 = 5) then ((j7 k nf.2.1 nf.2.2.1 x44.2).bind fun x45=>
           bif !x45.1 then some (decide (x44.1=1))
           else some false)
          else some false)
         else none)
        else some false)
       else some false)
      else some false)
     else some false
 |.inr sQ=>(eW k 10 [0,5]).bind fun x47=>
  (BG k x47).bind fun x48=>
  match x48 with
  |.inl x49=>(qLn k (-1) []).bind fun Q1=>
   (j8 k 0).bind fun x51=>
   (jJ k x51 sQ.2 100).bind fun x52=>
   match x52 with
   |.inl Lt=>(xZ k Lt.2.2.1 Lt.2.2.2 Lt.2.1).bind fun B6=>
    (j8 k 0).bind fun x55=>
    (jJ k x55 B6.2.2.2 0).bind fun x56=>
    match x56 with
    | .inl x57 => bif decide (sQ.1 = 0) then (bif decide ((Q1.length : Int) = 0) then (bif decide (Lt.1 = 0) then (bif decide ((B6.1.2.1.length : Int) = 3) then (bif zB 0 B6.1.2.1.length then (bif decide ((B6.1.2.1.getD 0 (0, 0, 0)).1 = 5) then ((sL k).bind fun x58=>
           bif !x58 then some (decide (x57.1=1))
           else some false)
          else some false)
         else none)
        else some false)
       else some false)
      else some false)
     else some false
    | .inr x59 => bif decide (sQ.1 = 0) then (bif decide ((Q1.length : Int) = 0) then (bif decide (Lt.1 = 0) then (bif decide ((B6.1.2.1.length : Int) = 3) then (bif zB 0 B6.1.2.1.length then (bif decide ((B6.1.2.1.getD 0 (0, 0, 0)).1 = 5) then ((sL k).bind fun x60=>
           bif !x60 then some (decide (x59.1=1))
           else some false)
          else some false)
         else none)
        else some false)
       else some false)
      else some false)
     else some false
   |.inr x61=>(Lq k).bind fun Hb=>
    (j8 k 0).bind fun x63=>
    (jJ k x63 x61.2 0).bind fun x64=>
    match x64 with
    | .inl x65 => bif decide (sQ.1 = 0) then (bif decide ((Q1.length : Int) = 0) then (bif decide (x61.1 = 0) then (bif decide ((Hb.2.1.length : Int) = 3) then (bif zB 0 Hb.2.1.length then (bif decide ((Hb.2.1.getD 0 (0, 0, 0)).1 = 5) then ((sL k).bind fun x66=>
           bif !x66 then some (decide (x65.1=1))
           else some false)
          else some false)
         else none)
        else some false)
       else some false)
      else some false)
     else some false
    | .inr x67 => bif decide (sQ.1 = 0) then (bif decide ((Q1.length : Int) = 0) then (bif decide (x61.1 = 0) then (bif decide ((Hb.2.1.length : Int) = 3) then (bif zB 0 Hb.2.1.length then (bif decide ((Hb.2.1.getD 0 (0, 0, 0)).1 = 5) then ((sL k).bind fun x68=>
           bif !x68 then some (decide (x67.1=1))
           else some false)
          else some false)
         else none)
        else some false)
       else some false)
      else some false)
     else some false
  |.inr x69=>(qLn k (-1) x69).bind fun Q2=>
   (j8 k 0).bind fun x71=>
   (jJ k x71 sQ.2 100).bind fun x72=>
   match x72 with
   |.inl Lu=>(xZ k Lu.2.2.1 Lu.2.2.2 Lu.2.1).bind fun B7=>
    (j8 k 0).bind fun x75=>
    (jJ k x75 B7.2.2.2 0).bind fun x76=>
    match x76 with
    | .inl x77 => bif decide (sQ.1 = 0) then (bif decide ((Q2.length : Int) = 0) then (bif decide (Lu.1 = 0) then (bif decide ((B7.1.2.1.length : Int) = 3) then (bif zB 0 B7.1.2.1.length then (bif decide ((B7.1.2.1.getD 0 (0, 0, 0)).1 = 5) then ((sL k).bind fun x78=>
           bif !x78 then some (decide (x77.1=1))
           else some false)
          else some false)
         else none)
        else some false)
       else some false)
      else some false)
     else some false
    | .inr x79 => bif decide (sQ.1 = 0) then (bif decide ((Q2.length : Int) = 0) then (bif decide (Lu.1 = 0) then (bif decide ((B7.1.2.1.length : Int) = 3) then (bif zB 0 B7.1.2.1.length then (bif decide ((B7.1.2.1.getD 0 (0, 0, 0)).1 = 5) then ((sL k).bind fun x80=>
           bif !x80 then some (decide (x79.1=1))
           else some false)
          else some false)
         else none)
        else some false)
       else some false)
      else some false)
     else some false
   |.inr x81=>(Lq k).bind fun Hc=>
    (j8 k 0).bind fun x83=>
    (jJ k x83 x81.2 0).bind fun x84=>
    match x84 with
    | .inl x85 => bif decide (sQ.1 = 0) then (bif decide ((Q2.length : Int) = 0) then (bif decide (x81.1 = 0) then (bif decide ((Hc.2.1.length : Int) = 3) then (bif zB 0 Hc.2.1.length then (bif decide ((Hc.2.1.getD 0 (0, 0, 0)).1 = 5) then ((sL k).bind fun x86=>
           bif !x86 then some (decide (x85.1=1))
           else some false)
          else some false)
         else none)
        else some false)
       else some false)
      else some false)
     else some false
    | .inr x87 => bif decide (sQ.1 = 0) then (bif decide ((Q2.length : Int) = 0) then (bif decide (x81.1 = 0) then (bif decide ((Hc.2.1.length : Int) = 3) then (bif zB 0 Hc.2.1.length then (bif decide ((Hc.2.1.getD 0 (0, 0, 0)).1 = 5) then ((sL k).bind fun x88=>
           bif !x88 then some (decide (x87.1=1))
           else some false)
          else some false)
         else none)
        else some false)
       else some false)
      else some false)
     else some false
abbrev qVs:Type:=Int×(Int×Int×Int×Int)×(List vU)×Hd×AC×AC×yY×yY
abbrev qUy:Type:=Int→List qS→Int→(Int×Int×Int×Int)→List vU→Hd→AC→AC→qs→gT→yY→yY→Option qVs
def uO (k:Nat)(rec:qUy)(s1:Int)(s2:List qS)(aN:Int)(b0:(Int×Int×Int×Int))(r1:List vU)(b2:Hd)(r3 r4:AC)(b5:qs)(b6:gT)(b7 b8:yY):Option qVs:=
 bif decide (aN < (s2.length : Int)) then ((j7 k b5 b6 (b2.1,r3,b2.2.1,r4,b2.2.2)).bind fun x6=>
  bif !x6.1 then (bif zB aN s2.length then ((BG k (s2.getD aN.toNat (0,0,0,0,0,0,0,0)).2).bind fun x7=>
    match x7 with
    | .inl x8 => bif zB aN s2.length then ((BS k x6.2.1 x6.2.2.1 x6.2.2.2 (s2.getD aN.toNat (0,0,0,0,0,0,0,0)).1 []).bind fun x9=>
      bif zB aN s2.length then ((GG k (b0.1,r1,b0.2) b7 (s2.getD aN.toNat (0,0,0,0,0,0,0,0))).bind fun dm=>
       bif decide ((x9.1.length:Int)>0) then(rec s1 s2 (zA (aN+1)) b0 r1 (x9.2.2.2.1,x9.2.2.2.2.2.1,x9.2.2.2.2.2.2.2) x9.2.2.2.2.1 x9.2.2.2.2.2.2.1 x9.2.1 x9.2.2.1 b7 b7)
       else(j7 k x9.2.1 x9.2.2.1 x9.2.2.2).bind fun cR=>
       bif !cR.1 then(rec s1 s2 (zA (aN+1)) b0 r1 (cR.2.2.2.1,cR.2.2.2.2.2.1,cR.2.2.2.2.2.2.2) cR.2.2.2.2.1 cR.2.2.2.2.2.2.1 cR.2.1 cR.2.2.1 b7 b7)
       else rec s1 s2 (zA (aN+1)) b0 r1 (cR.2.2.2.1,cR.2.2.2.2.2.1,cR.2.2.2.2.2.2.2) cR.2.2.2.2.1 cR.2.2.2.2.2.2.1 cR.2.1 cR.2.2.1 b7 b7)
      else none)
     else none
    | .inr sN => bif zB aN s2.length then ((BS k x6.2.1 x6.2.2.1 x6.2.2.2 (s2.getD aN.toNat (0,0,0,0,0,0,0,0)).1 sN).bind fun dX=>
      bif zB aN s2.length then ((GG k (b0.1,r1,b0.2) b7 (s2.getD aN.toNat (0,0,0,0,0,0,0,0))).bind fun nc=>
       bif Nat.blt 0 sN.length then (bif !(decide (nc.2.2 = 0)) then (bif decide ((dX.1.length:Int)>0) then(rec s1 s2 (zA (aN+1)) b0 r1 (dX.2.2.2.1,dX.2.2.2.2.2.1,dX.2.2.2.2.2.2.2) dX.2.2.2.2.1 dX.2.2.2.2.2.2.1 dX.2.1 dX.2.2.1 b7 b7)
         else(j7 k dX.2.1 dX.2.2.1 dX.2.2.2).bind fun bG=>
         bif !bG.1 then(rec s1 s2 (zA (aN+1)) b0 r1 (bG.2.2.2.1,bG.2.2.2.2.2.1,bG.2.2.2.2.2.2.2) bG.2.2.2.2.1 bG.2.2.2.2.2.2.1 bG.2.1 bG.2.2.1 b7 b7)
         else rec s1 s2 (zA (aN+1)) b0 r1 (bG.2.2.2.1,bG.2.2.2.2.2.1,bG.2.2.2.2.2.2.2) bG.2.2.2.2.1 bG.2.2.2.2.2.2.1 bG.2.1 bG.2.2.1 b7 b7)
        else bif decide ((dX.1.length:Int)>0) then(rec s1 s2 (zA (aN+1)) b0 r1 (dX.2.2.2.1,dX.2.2.2.2.2.1,dX.2.2.2.2.2.2.2) dX.2.2.2.2.1 dX.2.2.2.2.2.2.1 dX.2.1 dX.2.2.1 nc.1 nc.1)
        else(j7 k dX.2.1 dX.2.2.1 dX.2.2.2).bind fun gv=>
        bif !gv.1 then(rec s1 s2 (zA (aN+1)) b0 r1 (gv.2.2.2.1,gv.2.2.2.2.2.1,gv.2.2.2.2.2.2.2) gv.2.2.2.2.1 gv.2.2.2.2.2.2.1 gv.2.1 gv.2.2.1 nc.1 nc.1)
        else rec s1 s2 (zA (aN+1)) b0 r1 (gv.2.2.2.1,gv.2.2.2.2.2.1,gv.2.2.2.2.2.2.2) gv.2.2.2.2.1 gv.2.2.2.2.2.2.1 gv.2.1 gv.2.2.1 b7 nc.1)
       else none)
      else none)
     else none)
   else none)
  else some (s1,b0,r1,(x6.2.2.2.1,x6.2.2.2.2.2.1,x6.2.2.2.2.2.2.2),x6.2.2.2.2.1,x6.2.2.2.2.2.2.1,b7,b8))
 else some (s1,b0,r1,b2,r3,r4,b7,b8)
def sF (k:Nat):Nat→qUy:=yS (fun _ _ _ _ _ _ _ _ _ _ _ _=>none) (uO k)
def PK (k:Nat)(a0 a1:Int)(a2:List qS)(a3:vU):Option Bool:=
 bif decide ((a2.length:Int)>40) then some true
 else bif decide (a1<1) then some true
 else bif decide (a1>50) then some true
 else(j8 k a0).bind fun x0=>
 (PJ k 200000).bind fun x1=>
 (jJ k x0 x1 a1).bind fun x2=>
 match x2 with
 |.inl x3=>(Xl k x3.2.1 a3).bind fun x4=>
  (Xf k x0).bind fun x5=>
  (sF k k a1 a2 0 (x0.1,x0.2.2) x0.2.1 (x4.1,x4.2.2.1,x4.2.2.2.2) x4.2.1 x4.2.2.2.1 x3.2.2.1 x3.2.2.2 x5 x5).bind fun z=>
  (KZ k (z.2.2.2.1.1,z.2.2.2.2.1,z.2.2.2.1.2.1,z.2.2.2.2.2.1,z.2.2.2.1.2.2)).bind fun iS=>
  (jJ k (z.2.1.1,z.2.2.1,z.2.1.2) iS z.1).bind fun oZ=>
  match oZ with
  | .inl lq => bif decide (lq.1 = 0) then ((xZ k lq.2.2.1 lq.2.2.2 lq.2.1).bind fun kS=>
    (BN k kS.1 z.2.2.2.2.2.2.1).bind fun B3=>
    bif B3 then ((PM k).bind fun B4=>
     some B4)
    else(xZ k kS.2.1 kS.2.2.1 kS.2.2.2).bind fun x23=>
    (BN k x23.1 z.2.2.2.2.2.2.2).bind fun Q0=>
    bif Q0 then ((PM k).bind fun x25=>
     some x25)
    else some false)
   else some false
  |.inr x26=>bif decide (x26.1=0) then some false
   else some false
 |.inr nf=>some false
end Go.Ab.Gi
