/- part 5 -/
import Derived.Test.YtbejmoaalcabdaaGreatGiXSa
set_option linter.unusedVariables false
set_option maxRecDepth 100000
namespace Go.Ab.Gi
def Q5 (k:Nat):Option Bool:=
 (FW k 0).bind fun x0=>
 (tK k 0 1 [1,1,5,3,0,19]).bind fun x1=>
 (pc k x1).bind fun x2=>
 (tK k 1 1 [2,2,5,3,0,19]).bind fun x3=>
 (pc k x3).bind fun x4=>
 (tK k 2 1 [3,0,5,3,0,19]).bind fun x5=>
 (pc k x5).bind fun x6=>
 (tK k (-1) 13 []).bind fun x7=>
 (pc k x7).bind fun x8=>
 (B9 k x0 50000 10 [x2,x4,x6,x8]).bind fun x9=>
 bif x9.2.2.2.2.2.2.2.2.2.2.2.2.2 then (bif decide ((x9.1.length : Int) = 4) then (bif zE 3 x9.1.length then (bif decide (((x9.1.getD 3 []).length:Int)=6) then some (decide ((x9.2.2.2.2.2.2.2.2.2.1.length:Int)=0))
    else some false)
   else none)
  else some false)
 else some false
abbrev L3:Type:=(List qA)×Int×Int×(List Int)×Int×Int
abbrev V4:Type:=List qA→Int→Int→Int→List Int→Int→Int→List qA→Int→Int→Option L3
def BR (k:Nat)(rec:V4)(s0:List qA)(s6 s7 s8:Int)(bC:List Int)(bx aP:Int)(aQ:List qA)(dG bM:Int):Option L3:=
 bif decide (bM < dG) then (bif zE bM aQ.length then (bif !(decide ((aQ.getD bM.toNat (0,0,0,0,0,0,0,0)).2.2.1=s6)) then(rec s0 s6 s7 s8 bC bx aP aQ dG (zA (bM+1)))
   else bif decide ((aQ.getD bM.toNat (0,0,0,0,0,0,0,0)).2.1=18) then(rec s0 s6 (zA (s7+1)) s8 bC bx aP aQ dG (zA (bM+1)))
   else bif decide ((aQ.getD bM.toNat (0, 0, 0, 0, 0, 0, 0, 0)).2.1 = 20) then (bif decide ((aQ.getD bM.toNat (0,0,0,0,0,0,0,0)).2.1=20) then(rec s0 s6 s7 (zA (s8+1)) bC bx aP aQ dG (zA (bM+1)))
    else rec s0 s6 s7 s8 bC bx aP aQ dG (zA (bM+1)))
   else bif decide ((aQ.getD bM.toNat (0, 0, 0, 0, 0, 0, 0, 0)).2.1 = 21) then (bif decide ((aQ.getD bM.toNat (0,0,0,0,0,0,0,0)).2.1=21) then(rec s0 s6 s7 (zA (s8+1)) bC bx aP aQ dG (zA (bM+1)))
    else rec s0 s6 s7 s8 bC bx aP aQ dG (zA (bM+1)))
   else bif decide ((aQ.getD bM.toNat (0,0,0,0,0,0,0,0)).2.1=22) then(rec s0 s6 s7 (zA (s8+1)) bC bx aP aQ dG (zA (bM+1)))
   else rec s0 s6 s7 s8 bC bx aP aQ dG (zA (bM+1)))
  else none)
 else some (s0,s7,s8,bC,bx,aP)
def BQ (k:Nat):Nat→V4
 |0,_,_,_,_,_,_,_,_,_,_=>none
 |n+1,s0,s6,s7,s8,bC,bx,aP,aQ,dG,bM=>BR k (BQ k n) s0 s6 s7 s8 bC bx aP aQ dG bM
abbrev V6:Type:=List qA→List Int→Int→Int→Option (Unit⊕Bool)
def BS (k:Nat)(rec:V6)(s0:List qA)(bC:List Int)(bx aP:Int):Option (Unit⊕Bool):=
 bif decide (aP < bx) then (bif zE aP bC.length then ((BQ k k s0 (bC.getD aP.toNat 0) 0 0 bC bx aP s0 (s0.length:Int) 0).bind fun z=>
   bif decide (z.2.1 = 0) then (bif decide (z.2.2.1=1) then(rec z.1 z.2.2.2.1 z.2.2.2.2.1 (zA (z.2.2.2.2.2+1)))
    else bif decide (z.2.1 = 2) then (bif !(decide (z.2.2.1=0)) then some (.inr false)
     else rec z.1 z.2.2.2.1 z.2.2.2.2.1 (zA (z.2.2.2.2.2+1)))
    else some (.inr false))
   else bif decide (z.2.1 = 2) then (bif !(decide (z.2.2.1=0)) then some (.inr false)
    else rec z.1 z.2.2.2.1 z.2.2.2.2.1 (zA (z.2.2.2.2.2+1)))
   else some (.inr false))
  else none)
 else some (.inl ())
def FC (k:Nat):Nat→V6
 |0,_,_,_,_=>none
 |n+1,s0,bC,bx,aP=>BS k (FC k n) s0 bC bx aP
def Jw (k:Nat)(a0:List qA)(a1:List Int):Option Bool:=
 (FC k k a0 a1 (a1.length:Int) 0).bind fun z1=>
 match z1 with
 |.inl z2=>some true
 |.inr z3=>some z3
abbrev L4:Type:=lk×(List yV)×(List mH)
abbrev Wa:Type:=List qA→Int→lk→List yV→List mH→Option L4
def Cb (k:Nat)(rec:Wa)(s1:List qA)(s7:Int)(b0:lk)(r1:List yV)(r2:List mH):Option L4:=
 bif decide (s7 < (s1.length : Int)) then (bif zE s7 s1.length then ((pc k (s1.getD s7.toNat (0,0,0,0,0,0,0,0))).bind fun x1=>
   bif zX (r2.length+1) 56 then(rec s1 (zA (s7+1)) b0 r1 (r2++[x1]))
   else none)
  else none)
 else some (b0,r1,r2)
def Ca (k:Nat):Nat→Wa:=vC (fun _ _ _ _ _=>none) (Cb k)
abbrev L5:Type:=lk×(List yV)×(List mH)
abbrev Wb:Type:=Int→lk→List yV→List mH→Option L5
def Cc (k:Nat)(rec:Wb)(s8:Int)(b0:lk)(r1:List yV)(r2:List mH):Option L5:=
 bif decide (s8 < 21) then ((tK k (-1) 14 []).bind fun x2=>
  (pc k x2).bind fun x3=>
  bif zX (r2.length+1) 56 then(rec (zA (s8+1)) b0 r1 (r2++[x3]))
  else none)
 else some (b0,r1,r2)
def xd (k:Nat):Nat→Wb:=vC (fun _ _ _ _=>none) (Cc k)
abbrev L6:Type:=lk×(List yV)×rL×(List (List qA))×(List qA)×(List qA)×(List Int)
abbrev Wc:Type:=Int→lk→List yV→rL→List (List qA)→List qA→List qA→List Int→Option L6
def Cf (k:Nat)(rec:Wc)(bx:Int)(b0:lk)(r1:List yV)(b2:rL)(r3:List (List qA))(r4 r5:List qA)(r6:List Int):Option L6:=
 bif decide (bx < (r3.length : Int)) then (bif zE bx r3.length then (bif zX (r5.length+(r3.getD bx.toNat []).length) 64 then(rec (zA (bx+1)) b0 r1 b2 r3 r4 (r5++(r3.getD bx.toNat [])) r6)
   else none)
  else none)
 else some (b0,r1,b2,r3,r4,r5,r6)
def Ce (k:Nat):Nat→Wc:=vC (fun _ _ _ _ _ _ _ _=>none) (Cf k)
abbrev L7:Type:=(lk×(List yV)×rL×(List (List qA))×(List qA)×(List qA)×(List Int))⊕Bool
abbrev Wd:Type:=Int→lk→List yV→rL→List (List qA)→List qA→List qA→List Int→Option L7
def xf (k:Nat)(rec:Wd)(aP:Int)(b0:lk)(r1:List yV)(b2:rL)(r3:List (List qA))(r4 r5:List qA)(r6:List Int):Option L7:=
 bif decide (aP < (r5.length : Int)) then (bif zE aP r5.length then (bif !(decide ((r5.getD aP.toNat (0,0,0,0,0,0,0,0)).2.1=23)) then(rec (zA (aP+1)) b0 r1 b2 r3 r4 r5 r6)
   else bif zE aP r5.length then (bif decide ((r5.getD aP.toNat (0,0,0,0,0,0,0,0)).1<0) then some (.inr false)
    else bif decide ((r5.getD aP.toNat (0,0,0,0,0,0,0,0)).1≥b0.1) then some (.inr false)
    else bif decide ((r5.getD aP.toNat (0,0,0,0,0,0,0,0)).1≥(b2.2.1.length:Int)) then some (.inr false)
    else bif zE aP r5.length then (bif zE (r5.getD aP.toNat (0, 0, 0, 0, 0, 0, 0, 0)).1 b2.2.1.length then (bif !(decide ((r5.getD aP.toNat (0,0,0,0,0,0,0,0)).2.2.1=(b2.2.1.getD (r5.getD aP.toNat (0,0,0,0,0,0,0,0)).1.toNat (0,0,0)).1)) then some (.inr false)
      else bif zE (r5.getD aP.toNat (0, 0, 0, 0, 0, 0, 0, 0)).1 r6.length then (bif zE (r5.getD aP.toNat (0, 0, 0, 0, 0, 0, 0, 0)).1 r6.length then (let y0:List Int:=(r6.set (r5.getD aP.toNat (0,0,0,0,0,0,0,0)).1.toNat (zA ((r6.getD (r5.getD aP.toNat (0,0,0,0,0,0,0,0)).1.toNat 0)+1)))
        rec (zA (aP+1)) b0 r1 b2 r3 r4 r5 y0)
       else none)
      else none)
     else none)
    else none)
   else none)
  else none)
 else some (.inl (b0,r1,b2,r3,r4,r5,r6))
def xe (k:Nat):Nat→Wd:=vC (fun _ _ _ _ _ _ _ _=>none) (xf k)
abbrev L8:Type:=(rL×(List (List qA))×(List qA)×(List qA))⊕Bool
abbrev We:Type:=Int→lk→List yV→rL→List (List qA)→List qA→List qA→List Int→Option L8
def Cd (k:Nat)(rec:We)(aY:Int)(b0:lk)(r1:List yV)(b2:rL)(r3:List (List qA))(r4 r5:List qA)(r6:List Int):Option L8:=
 bif decide (aY < b0.1) then (bif zE aY r6.length then (bif !(decide ((r6.getD aY.toNat 0)=1)) then some (.inr false)
   else rec (zA (aY+1)) b0 r1 b2 r3 r4 r5 r6)
  else none)
 else some (.inl (b2,r3,r4,r5))
def FV (k:Nat):Nat→We:=vC (fun _ _ _ _ _ _ _ _=>none) (Cd k)
def JZ (k:Nat)(a0:Int)(a1:List qA):Option Bool:=
 bif decide ((a1.length:Int)>80) then some true
 else(FW k a0).bind fun x0=>
 (Ca k k a1 0 (x0.1,x0.2.2) x0.2.1 []).bind fun z=>
 (xd k k 0 z.1 z.2.1 z.2.2).bind fun z1=>
 (B9 k (z1.1.1,z1.2.1,z1.1.2) 200000 15 z1.2.2).bind fun x4=>
 bif lL z1.1.1 z1.1.1 8 then ((Ce k k 0 z1.1 z1.2.1 x4.2.2 x4.1 x4.2.1 [] (List.replicate z1.1.1.toNat (0:Int))).bind fun z2=>
  (xe k k 0 z2.1 z2.2.1 z2.2.2.1 z2.2.2.2.1 z2.2.2.2.2.1 z2.2.2.2.2.2.1 z2.2.2.2.2.2.2).bind fun z3=>
  match z3 with
  |.inl z4=>(FV k k 0 z4.1 z4.2.1 z4.2.2.1 z4.2.2.2.1 z4.2.2.2.2.1 z4.2.2.2.2.2.1 z4.2.2.2.2.2.2).bind fun z5=>
   match z5 with
   | .inl z6 => bif z6.1.2.2.2.2.2.2.2.2.2.2.1 then (bif decide ((z6.1.2.2.2.2.2.2.2.1.length : Int) = 0) then ((Jw k z6.2.2.2 z6.1.2.2.2.2.2.2.2.2.1).bind fun x5=>
      bif x5 then ((Q5 k).bind fun x6=>
       some x6)
      else some false)
     else some false)
    else some false
   |.inr z7=>some z7
  |.inr z8=>some z8)
 else none
end Go.Ab.Gi
