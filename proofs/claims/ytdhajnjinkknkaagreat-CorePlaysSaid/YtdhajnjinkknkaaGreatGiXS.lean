/- part 5 -/
import Derived.Test.YtdhajnjinkknkaaGreatGiXSa
set_option linter.unusedVariables false
set_option maxRecDepth 100000
namespace Go.Ab.Gi
def yOa (k:Nat)(rec:Int→List Int→Option (List Int))(s3:Int)(r0:List Int):Option (List Int):=
 bif decide ((zA (s3 + 1)) < (r0.length : Int)) then (bif zE (zA (s3 + 1)) r0.length then (bif zE s3 r0.length then (bif zE (zA (s3 + 1)) r0.length then (let y0:List Int:=(r0.set (zA (s3+1)).toNat (zA ((r0.getD (zA (s3+1)).toNat 0)+(shr .i64 (r0.getD s3.toNat 0) 16))))
     bif zE s3 y0.length then (bif zE s3 y0.length then(rec (zA (s3+1)) (y0.set s3.toNat (yK .i64 (y0.getD s3.toNat 0) 65535)))
      else none)
     else none)
    else none)
   else none)
  else none)
 else some r0
def Xf (k:Nat):Nat→Int→List Int→Option (List Int):=vY (fun _ _=>none) (yOa k)
def wu (k:Nat)(a0:List Int):Option (List Int):=
 (Xf k k 0 a0).bind fun z=>
 some z
abbrev Nc:Type:=Int×Int×(List Int)×(List Int)
abbrev Xh:Type:=Int→Int→Int→List Int→List Int→Option Nc
def yVa (k:Nat)(rec:Xh)(s1 s7 s8:Int)(r0 r1:List Int):Option Nc:=
 bif decide (s8 < 4) then (bif !(decide ((IntKind.wrap .u64 ((zA (16 * s8)))) < 0)) then (bif zE (zA (s7 + s8)) r1.length then (bif zE s7 r0.length then (bif zE (zA (s7 + s8)) r1.length then (let y0:List Int:=(r1.set (zA (s7+s8)).toNat (zA ((r1.getD (zA (s7+s8)).toNat 0)+(zA ((r0.getD s7.toNat 0)*(yK .i64 (shr .i64 s1 (IntKind.wrap .u64 ((zA (16*s8))))) 65535))))))
      rec s1 s7 (zA (s8+1)) r0 y0)
     else none)
    else none)
   else none)
  else none)
 else some (s1,s7,r0,r1)
def Xj (k:Nat):Nat→Xh:=vY (fun _ _ _ _ _=>none) (yVa k)
abbrev Xk:Type:=Int→Int→List Int→List Int→Option (List Int)
def yHh (k:Nat)(rec:Xk)(s1 s7:Int)(r0 r1:List Int):Option (List Int):=
 bif decide (s7 < 4) then ((Xj k k s1 s7 0 r0 r1).bind fun z=>
  rec z.1 (zA (z.2.1+1)) z.2.2.1 z.2.2.2)
 else some r1
def Kk (k:Nat):Nat→Xk:=vY (fun _ _ _ _=>none) (yHh k)
def Ks (k:Nat)(a0 a1:Int):Option (List Int):=
 (Kt k a0).bind fun x0=>
 (Kk k k a1 0 x0 [0,0,0,0,0,0,0,0,0]).bind fun z1=>
 (wu k z1).bind fun x1=>
 some x1
def yDj (k:Nat)(rec:Int→Int→List Int→Option (List Int))(s1 s5:Int)(r0:List Int):Option (List Int):=
 bif decide (s5 < (r0.length : Int)) then (bif zE s5 r0.length then (bif zE s5 r0.length then(rec s1 (zA (s5+1)) (r0.set s5.toNat (zA ((r0.getD s5.toNat 0)*s1))))
   else none)
  else none)
 else some r0
def Ki (k:Nat):Nat→Int→Int→List Int→Option (List Int):=vY (fun _ _ _=>none) (yDj k)
def Kh (k:Nat)(a0:List Int)(a1:Int):Option (List Int):=
 (Ki k k a1 0 a0).bind fun z=>
 (wu k z).bind fun x0=>
 some x0
abbrev Xp:Type:=Int→Int→Int→List Int→Option (List Int)
def yPf (k:Nat)(rec:Xp)(s1 s6 s7:Int)(r0:List Int):Option (List Int):=
 bif decide (s7 ≥ 0) then (bif zE s7 r0.length then (bif !(decide (s1 = 0)) then (bif zE s7 r0.length then (let y0:List Int:=(r0.set s7.toNat (zA (Int.tdiv (zA ((shl .i64 s6 16)+(r0.getD s7.toNat 0))) s1)))
     bif !(decide (s1=0)) then(rec s1 (Int.tmod (zA ((shl .i64 s6 16)+(r0.getD s7.toNat 0))) s1) (zA (s7-1)) y0)
     else none)
    else none)
   else none)
  else none)
 else some r0
def Gg (k:Nat):Nat→Xp:=vY (fun _ _ _ _=>none) (yPf k)
abbrev Xq:Type:=Int→List Int→Option ((List Int)⊕wZ)
def yV0 (k:Nat)(rec:Xq)(s9:Int)(r0:List Int):Option ((List Int)⊕wZ):=
 bif decide (s9 < (r0.length : Int)) then (bif zE s9 r0.length then (bif !(decide ((r0.getD s9.toNat 0)=0)) then some (.inr (0,false))
   else rec (zA (s9+1)) r0)
  else none)
 else some (.inl r0)
def B9 (k:Nat):Nat→Xq:=vY (fun _ _=>none) (yV0 k)
def Kj (k:Nat)(a0:List Int)(a1:Int):Option wZ:=
 (Gg k k a1 0 (zA ((a0.length:Int)-1)) a0).bind fun z=>
 (B9 k k 4 z).bind fun z1=>
 match z1 with
 | .inl z2 => bif zE 3 z2.length then (bif decide ((z2.getD 3 0)≥32768) then some (0,false)
   else bif zE 3 z2.length then (bif zE 2 z2.length then (bif zE 1 z2.length then (bif zE 0 z2.length then some ((fK .i64 (fK .i64 (fK .i64 (shl .i64 (z2.getD 3 0) 48) (shl .i64 (z2.getD 2 0) 32)) (shl .i64 (z2.getD 1 0) 16)) (z2.getD 0 0)),true)
      else none)
     else none)
    else none)
   else none)
  else none
 |.inr z3=>some (z3.1,z3.2)
def Ku (k:Nat)(a0 a1 a2:Int):Option wZ:=
 bif decide (a0<0) then some (0,false)
 else bif decide (a1<0) then some (0,false)
 else bif decide (a2<0) then some (0,false)
 else bif decide (a2>10000) then some (0,false)
 else(Ks k a0 a1).bind fun x0=>
 (Kh k x0 (zA (10000-a2))).bind fun x1=>
 (Kj k x1 10000).bind fun x2=>
 some (x2.1,x2.2)
def Cd (k:Nat)(a0 a1:Int):Option wZ:=
 bif decide (a1 > 0) then (bif decide (a0>(zA (9223372036854775807-a1))) then some (0,false)
  else bif decide (a1 < 0) then (bif decide (a0<(zA ((-9223372036854775808)-a1))) then some (0,false)
   else some ((zA (a0+a1)),true))
  else some ((zA (a0+a1)),true))
 else bif decide (a1 < 0) then (bif decide (a0<(zA ((-9223372036854775808)-a1))) then some (0,false)
  else some ((zA (a0+a1)),true))
 else some ((zA (a0+a1)),true)
abbrev Xu:Type:=List wO→List Int→List Int→Int→Int→Option (Int⊕wZ)
def Ce (k:Nat)(rec:Xu)(s0:List wO)(s1 s2:List Int)(s8 s9:Int):Option (Int⊕wZ):=
 bif decide (s9 < (s0.length : Int)) then (bif zE s9 s1.length then (bif zE s9 s2.length then (bif zE s9 s0.length then ((Ku k (s1.getD s9.toNat 0) (s2.getD s9.toNat 0) (s0.getD s9.toNat (0,0)).2).bind fun x0=>
     (Cd k s8 x0.1).bind fun x1=>
     bif !x0.2 then some (.inr (0,false))
     else bif !x1.2 then some (.inr (0,false))
     else rec s0 s1 s2 x1.1 (zA (s9+1)))
    else none)
   else none)
  else none)
 else some (.inl s8)
def Gp (k:Nat):Nat→Xu:=vY (fun _ _ _ _ _=>none) (Ce k)
def wx (k:Nat)(a0:List wO)(a1 a2:List Int):Option wZ:=
 bif !(decide ((a1.length:Int)=(a0.length:Int))) then some (0,false)
 else bif !(decide ((a2.length:Int)=(a0.length:Int))) then some (0,false)
 else(Gp k k a0 a1 a2 0 0).bind fun z=>
 match z with
 |.inl z1=>some (z1,true)
 |.inr z2=>some (z2.1,z2.2)
def Kz (k:Nat)(a0:nG)(a1 a2:Int):Option (Int×qy):=
 bif decide (a1<0) then some (1,(yG a0 ([],a0.2.2.2.2.2.2.2.2.2.2.2.2.2.2.2.2.2)))
 else bif decide (a1≥(a0.2.1.length:Int)) then some (1,(yG a0 ([],a0.2.2.2.2.2.2.2.2.2.2.2.2.2.2.2.2.2)))
 else bif decide (a2<0) then some (1,(yG a0 ([],a0.2.2.2.2.2.2.2.2.2.2.2.2.2.2.2.2.2)))
 else bif decide (a2>1099511627776) then some (1,(yG a0 ([],a0.2.2.2.2.2.2.2.2.2.2.2.2.2.2.2.2.2)))
 else bif zE a0.2.2.2.2.2.2.2.2.2.2.2.2.2.2.2.2.1 a0.2.2.2.2.2.2.2.2.2.2.2.1.length then ((ql k (a0.2.2.2.2.2.2.2.2.2.2.2.1.getD a0.2.2.2.2.2.2.2.2.2.2.2.2.2.2.2.2.1.toNat []) a1 a2).bind fun x0=>
  (wx k a0.2.1 a0.2.2.2.2.2.2.2.2.2.2.1 x0).bind fun x1=>
  bif !x1.2 then some (8,(yG a0 ([],a0.2.2.2.2.2.2.2.2.2.2.2.2.2.2.2.2.2)))
  else bif decide (x1.1>1152921504606846976) then some (8,(yG a0 ([],a0.2.2.2.2.2.2.2.2.2.2.2.2.2.2.2.2.2)))
  else(mn k a0.2.2.2.2.2.2.1 a0.2.2.2.2.2.2.2.1 a0.2.2.2.2.2.2.2.2.1 a0.2.2.2.2.2.2.2.2.2.1).bind fun x2=>
  bif zE a0.2.2.2.2.2.2.2.2.2.2.2.2.2.2.2.2.1 x2.1.length then (bif decide (x1.1 < (x2.1.getD a0.2.2.2.2.2.2.2.2.2.2.2.2.2.2.2.2.1.toNat (0, 0, 0)).2.1) then (bif decide ((zA ((x2.1.getD a0.2.2.2.2.2.2.2.2.2.2.2.2.2.2.2.2.1.toNat (0,0,0)).1+x1.1))<0) then some (9,(yG a0 ([],a0.2.2.2.2.2.2.2.2.2.2.2.2.2.2.2.2.2)))
    else bif zE a0.2.2.2.2.2.2.2.2.2.2.2.2.2.2.2.2.1 x2.1.length then (let y0:List zO:=(x2.1.set a0.2.2.2.2.2.2.2.2.2.2.2.2.2.2.2.2.1.toNat ((x2.1.getD a0.2.2.2.2.2.2.2.2.2.2.2.2.2.2.2.2.1.toNat (0,0,0)).1,x1.1,(x2.1.getD a0.2.2.2.2.2.2.2.2.2.2.2.2.2.2.2.2.1.toNat (0,0,0)).2.2))
     bif zW (0 + a0.2.2.2.2.2.2.2.2.2.2.2.1.length) 24 then (bif zE a0.2.2.2.2.2.2.2.2.2.2.2.2.2.2.2.2.1 a0.2.2.2.2.2.2.2.2.2.2.2.1.length then (let y1:List (List Int):=(a0.2.2.2.2.2.2.2.2.2.2.2.1.set a0.2.2.2.2.2.2.2.2.2.2.2.2.2.2.2.2.1.toNat x0)
       some (0,(wT a0 (y0,x2.2.1,x2.2.2.1,x2.2.2.2,a0.2.2.2.2.2.2.2.2.2.2.1,y1,(yBi a0 ([],a0.2.2.2.2.2.2.2.2.2.2.2.2.2.2.2.2.2))))))
      else none)
     else none)
    else none)
   else bif zE a0.2.2.2.2.2.2.2.2.2.2.2.2.2.2.2.2.1 x2.1.length then (let y2:List zO:=(x2.1.set a0.2.2.2.2.2.2.2.2.2.2.2.2.2.2.2.2.1.toNat ((x2.1.getD a0.2.2.2.2.2.2.2.2.2.2.2.2.2.2.2.2.1.toNat (0,0,0)).1,x1.1,(x2.1.getD a0.2.2.2.2.2.2.2.2.2.2.2.2.2.2.2.2.1.toNat (0,0,0)).2.2))
    bif zW (0 + a0.2.2.2.2.2.2.2.2.2.2.2.1.length) 24 then (bif zE a0.2.2.2.2.2.2.2.2.2.2.2.2.2.2.2.2.1 a0.2.2.2.2.2.2.2.2.2.2.2.1.length then (let y3:List (List Int):=(a0.2.2.2.2.2.2.2.2.2.2.2.1.set a0.2.2.2.2.2.2.2.2.2.2.2.2.2.2.2.2.1.toNat x0)
      some (0,(wT a0 (y2,x2.2.1,x2.2.2.1,x2.2.2.2,a0.2.2.2.2.2.2.2.2.2.2.1,y3,(yBi a0 ([],a0.2.2.2.2.2.2.2.2.2.2.2.2.2.2.2.2.2))))))
     else none)
    else none)
   else none)
  else none)
 else none
def Cr (k:Nat)(a0:zO)(a1:Int):Option (zO×Int):=
 (Cd k a0.1 a1).bind fun x0=>
 bif !x0.2 then some (a0,8)
 else(Ey k x0.1 a0.2.1 a0.2.2).bind fun x1=>
 bif !x1 then some (a0,8)
 else some ((x0.1,a0.2),0)
def Ct (k:Nat)(a0:nG)(a1:Bool)(a2 a3:Int):Option (Int×qy):=
 (qi k (yG a0 ([],a0.2.2.2.2.2.2.2.2.2.2.2.2.2.2.2.2.2)) a2).bind fun x0=>
 bif decide (x0<0) then some (1,(yG a0 ([],a0.2.2.2.2.2.2.2.2.2.2.2.2.2.2.2.2.2)))
 else bif decide (a3<1) then some (1,(yG a0 ([],a0.2.2.2.2.2.2.2.2.2.2.2.2.2.2.2.2.2)))
 else bif decide (a3>1099511627776) then some (1,(yG a0 ([],a0.2.2.2.2.2.2.2.2.2.2.2.2.2.2.2.2.2)))
 else(mn k a0.2.2.2.2.2.2.1 a0.2.2.2.2.2.2.2.1 a0.2.2.2.2.2.2.2.2.1 a0.2.2.2.2.2.2.2.2.2.1).bind fun x1=>
 bif a1 then (bif zE x0 x1.1.length then ((Cr k (x1.1.getD x0.toNat (0,0,0)) a3).bind fun x2=>
   bif decide ((zA (a0.2.2.2.2.2.2.2.2.2.2.2.2.2.2.1+a3))>1152921504606846976) then some (8,(yG a0 ([],a0.2.2.2.2.2.2.2.2.2.2.2.2.2.2.2.2.2)))
   else bif !(decide (x2.2=0)) then some (8,(yG a0 ([],a0.2.2.2.2.2.2.2.2.2.2.2.2.2.2.2.2.2)))
   else bif zE x0 x1.1.length then some (0,(wT a0 ((x1.1.set x0.toNat x2.1),x1.2.1,x1.2.2.1,x1.2.2.2,(C6 a0 ((zA (a0.2.2.2.2.2.2.2.2.2.2.2.2.2.2.1+a3)),a0.2.2.2.2.2.2.2.2.2.2.2.2.2.2.2.1,a0.2.2.2.2.2.2.2.2.2.2.2.2.2.2.2.2.1,[],a0.2.2.2.2.2.2.2.2.2.2.2.2.2.2.2.2.2)))))
   else none)
  else none)
 else bif zE x0 x1.1.length then (bif decide ((zA ((zA ((x1.1.getD x0.toNat (0,0,0)).1+(x1.1.getD x0.toNat (0,0,0)).2.1))-(x1.1.getD x0.toNat (0,0,0)).2.2))<a3) then some (9,(yG a0 ([],a0.2.2.2.2.2.2.2.2.2.2.2.2.2.2.2.2.2)))
  else bif decide (a0.2.2.2.2.2.2.2.2.2.2.2.2.2.2.1<a3) then some (9,(yG a0 ([],a0.2.2.2.2.2.2.2.2.2.2.2.2.2.2.2.2.2)))
  else bif zE x0 x1.1.length then (let y0:List zO:=(x1.1.set x0.toNat ((zA ((x1.1.getD x0.toNat (0,0,0)).1-a3)),(x1.1.getD x0.toNat (0,0,0)).2))
   some (0,(wT a0 (y0,x1.2.1,x1.2.2.1,x1.2.2.2,(C6 a0 ((zA (a0.2.2.2.2.2.2.2.2.2.2.2.2.2.2.1-a3)),a0.2.2.2.2.2.2.2.2.2.2.2.2.2.2.2.1,a0.2.2.2.2.2.2.2.2.2.2.2.2.2.2.2.2.1,[],a0.2.2.2.2.2.2.2.2.2.2.2.2.2.2.2.2.2))))))
  else none)
 else none
abbrev Ng:Type:=(nG×(List Int)×(List zO)×(List (List Int))×(List Int)×(List (List Int)))⊕(Int×nG)
abbrev Xy:Type:=Int→nG→List Int→List zO→List (List Int)→List Int→List (List Int)→Option Ng
def Cu (k:Nat)(rec:Xy)(s9:Int)(b0:nG)(r1:List Int)(r3:List zO)(m4:List (List Int))(r5:List Int)(m6:List (List Int)):Option Ng:=
 bif decide (s9 < (r3.length : Int)) then (bif zE s9 b0.2.2.2.2.2.2.2.2.2.2.2.1.length then ((wx k b0.2.1 r1 (b0.2.2.2.2.2.2.2.2.2.2.2.1.getD s9.toNat [])).bind fun x2=>
   bif !x2.2 then some (.inr (8,b0))
   else bif decide (x2.1>1152921504606846976) then some (.inr (8,b0))
   else bif zE s9 r3.length then (let y0:List zO:=(r3.set s9.toNat ((r3.getD s9.toNat (0,0,0)).1,x2.1,(r3.getD s9.toNat (0,0,0)).2.2))
    rec (zA (s9+1)) b0 r1 y0 m4 r5 m6)
   else none)
  else none)
 else some (.inl (b0,r1,r3,m4,r5,m6))
def qm (k:Nat):Nat→Xy:=vY (fun _ _ _ _ _ _ _=>none) (Cu k)
def KA (k:Nat)(a0:nG)(a1 a2:Int):Option (Int×qy):=
 bif decide (a1<0) then some (1,(yG a0 ([],a0.2.2.2.2.2.2.2.2.2.2.2.2.2.2.2.2.2)))
 else bif decide (a1≥(a0.2.1.length:Int)) then some (1,(yG a0 ([],a0.2.2.2.2.2.2.2.2.2.2.2.2.2.2.2.2.2)))
 else bif decide (a2<0) then some (1,(yG a0 ([],a0.2.2.2.2.2.2.2.2.2.2.2.2.2.2.2.2.2)))
 else bif decide (a2>1048576) then some (1,(yG a0 ([],a0.2.2.2.2.2.2.2.2.2.2.2.2.2.2.2.2.2)))
 else(ql k a0.2.2.2.2.2.2.2.2.2.2.1 a1 a2).bind fun x0=>
 (mn k a0.2.2.2.2.2.2.1 a0.2.2.2.2.2.2.2.1 a0.2.2.2.2.2.2.2.2.1 a0.2.2.2.2.2.2.2.2.2.1).bind fun x1=>
 (qm k k 0 a0 x0 x1.1 x1.2.1 x1.2.2.1 x1.2.2.2).bind fun z=>
 match z with
 |.inl z1=>some (0,(wT z1.1 (wi z1 (z1.2.1,(yUh z1.1 ([],z1.1.2.2.2.2.2.2.2.2.2.2.2.2.2.2.2.2.2))))))
 |.inr z2=>some (yM7 z2 ([],z2.2.2.2.2.2.2.2.2.2.2.2.2.2.2.2.2.2.2))
def tx (k:Nat)(a0:nG)(a1:zD):Option (Int×qy):=
 bif decide (a1.1 = 1) then ((Ky k a0 a1.2).bind fun x0=>
  some (x0.1,x0.2))
 else bif decide (a1.1 = 2) then ((w7 k a0 a1.1 a1.2).bind fun x1=>
  some (x1.1,x1.2))
 else bif decide (a1.1 = 3) then ((w7 k a0 a1.1 a1.2).bind fun x2=>
  some (x2.1,x2.2))
 else bif decide (a1.1 = 4) then ((w7 k a0 a1.1 a1.2).bind fun x3=>
  some (x3.1,x3.2))
 else bif decide (a1.1 = 5) then ((w8 k a0 a1.1 a1.2).bind fun x4=>
  some (x4.1,x4.2))
 else bif decide (a1.1 = 6) then ((w8 k a0 a1.1 a1.2).bind fun x5=>
  some (x5.1,x5.2))
 else bif decide (a1.1 = 7) then ((w8 k a0 a1.1 a1.2).bind fun x6=>
  some (x6.1,x6.2))
 else bif decide (a1.1 = 8) then ((Kz k a0 a1.2.1 a1.2.2.1).bind fun x7=>
  some (x7.1,x7.2))
 else bif decide (a1.1 = 10) then ((Ct k a0 (decide (a1.1=10)) a1.2.1 a1.2.2.1).bind fun x8=>
  some (x8.1,x8.2))
 else bif decide (a1.1 = 11) then ((Ct k a0 (decide (a1.1=10)) a1.2.1 a1.2.2.1).bind fun x9=>
  some (x9.1,x9.2))
 else bif decide (a1.1 = 12) then ((KA k a0 a1.2.1 a1.2.2.1).bind fun gK=>
  some (gK.1,gK.2))
 else some (0,(yG a0 ([],a0.2.2.2.2.2.2.2.2.2.2.2.2.2.2.2.2.2)))
def GN (k:Nat)(a0:vH)(a1:vW)(a2:qY):Option (vW×(List qY)×Int):=
 (xc k a0 a2).bind fun x0=>
 bif !x0 then some (a1,[],5)
 else bif a1.2.2.2.2.2.2.2.2.2.2 then (bif !(decide (a2.2.1=9)) then some (a1,[],7)
  else bif decide (a2.2.1 = 9) then (bif zE a2.1 a1.2.1.length then ((pO k a1.2.2.2.2.2.2.2.1 a2.1).bind fun x1=>
    (jK k 17 [(a1.2.1.getD a2.1.toNat (0,0,0)).1,(a1.2.1.getD a2.1.toNat (0,0,0)).2.1,(a1.2.1.getD a2.1.toNat (0,0,0)).2.2,(x1.length:Int),a1.1]).bind fun x2=>
    some (a1,[(a2.1,x2)],0))
   else none)
  else bif decide (a2.2.1 = 14) then ((CM k a0 a1).bind fun x3=>
   some (x3.1,x3.2,0))
  else(tx k (gj a0 (fz a1 (a2.1,0))) a2.2).bind fun x4=>
  bif !(decide (x4.1=0)) then some (a1,[],x4.1)
  else bif !(decide (a2.1 = (-1))) then ((jK k 15 []).bind fun x5=>
   (lN k x4.2.2.2.2.2.2.1 x4.2.2.2.2.2.2.2.1 x4.2.2.2.2.2.2.2.2.1 x4.2.2.2.2.2.2.2.2.2.1 x4.2.2.2.2.2.2.2.2.2.2.1 x4.2.2.2.2.2.2.2.2.2.2.2.1 x4.2.2.2.2.2.2.2.2.2.2.2.2.1 x4.2.2.2.2.2.2.2.2.2.2.2.2.2.1 x4.2.2.2.2.2.2.2.2.2.2.2.2.2.2.1 x4.2.2.2.2.2.2.2.2.2.2.2.2.2.2.2.1 x4.2.2.2.2.2.2.2.2.2.2.2.2.2.2.2.2.1 (decide (a2.2.1=13))).bind fun x6=>
   bif zW (1 + x4.2.2.2.2.2.2.2.2.2.2.2.2.2.2.2.2.2.2.1.length) 64 then (let y0:List qY:=([(a2.1,x5)]++x4.2.2.2.2.2.2.2.2.2.2.2.2.2.2.2.2.2.2.1)
    bif zW (y0.length + x6.2.2.2.2.2.2.2.2.2.2.2.length) 64 then (bif decide (x4.2.2.2.2.2.2.2.2.2.2.2.2.2.2.2.2.2.2.2 > 0) then ((kO k x6.2.2.2.2.2.2.2.1 x4.2.2.2.2.2.2.2.2.2.2.2.2.2.2.2.2.2.2.2).bind fun x7=>
      bif decide (x7 ≥ 0) then ((jK k 19 [x4.2.2.2.2.2.2.2.2.2.2.2.2.2.2.2.2.2.2.2]).bind fun x8=>
       bif zW ((y0 ++ x6.2.2.2.2.2.2.2.2.2.2.2).length + 1) 64 then (let y1:List qY:=((y0++x6.2.2.2.2.2.2.2.2.2.2.2)++[(a2.1,x8)])
        some ((yD x6),y1,0))
       else none)
      else some ((yD x6),(y0++x6.2.2.2.2.2.2.2.2.2.2.2),0))
     else some ((yD x6),(y0++x6.2.2.2.2.2.2.2.2.2.2.2),0))
    else none)
   else none)
  else(lN k x4.2.2.2.2.2.2.1 x4.2.2.2.2.2.2.2.1 x4.2.2.2.2.2.2.2.2.1 x4.2.2.2.2.2.2.2.2.2.1 x4.2.2.2.2.2.2.2.2.2.2.1 x4.2.2.2.2.2.2.2.2.2.2.2.1 x4.2.2.2.2.2.2.2.2.2.2.2.2.1 x4.2.2.2.2.2.2.2.2.2.2.2.2.2.1 x4.2.2.2.2.2.2.2.2.2.2.2.2.2.2.1 x4.2.2.2.2.2.2.2.2.2.2.2.2.2.2.2.1 x4.2.2.2.2.2.2.2.2.2.2.2.2.2.2.2.2.1 (decide (a2.2.1=13))).bind fun x9=>
  bif zW x4.2.2.2.2.2.2.2.2.2.2.2.2.2.2.2.2.2.2.1.length 64 then (let y2:List qY:=x4.2.2.2.2.2.2.2.2.2.2.2.2.2.2.2.2.2.2.1
   bif zW (y2.length + x9.2.2.2.2.2.2.2.2.2.2.2.length) 64 then (bif decide (x4.2.2.2.2.2.2.2.2.2.2.2.2.2.2.2.2.2.2.2 > 0) then ((kO k x9.2.2.2.2.2.2.2.1 x4.2.2.2.2.2.2.2.2.2.2.2.2.2.2.2.2.2.2.2).bind fun gK=>
     bif decide (gK ≥ 0) then ((jK k 19 [x4.2.2.2.2.2.2.2.2.2.2.2.2.2.2.2.2.2.2.2]).bind fun GM=>
      bif zW ((y2 ++ x9.2.2.2.2.2.2.2.2.2.2.2).length + 1) 64 then (let y3:List qY:=((y2++x9.2.2.2.2.2.2.2.2.2.2.2)++[(a2.1,GM)])
       some ((yD x9),y3,0))
      else none)
     else some ((yD x9),(y2++x9.2.2.2.2.2.2.2.2.2.2.2),0))
    else some ((yD x9),(y2++x9.2.2.2.2.2.2.2.2.2.2.2),0))
   else none)
  else none)
 else bif decide (a2.2.1 = 9) then (bif zE a2.1 a1.2.1.length then ((pO k a1.2.2.2.2.2.2.2.1 a2.1).bind fun XR=>
   (jK k 17 [(a1.2.1.getD a2.1.toNat (0,0,0)).1,(a1.2.1.getD a2.1.toNat (0,0,0)).2.1,(a1.2.1.getD a2.1.toNat (0,0,0)).2.2,(XR.length:Int),a1.1]).bind fun x13=>
   some (a1,[(a2.1,x13)],0))
  else none)
 else bif decide (a2.2.1 = 14) then ((CM k a0 a1).bind fun x14=>
  some (x14.1,x14.2,0))
 else(tx k (gj a0 (fz a1 (a2.1,0))) a2.2).bind fun de=>
 bif !(decide (de.1=0)) then some (a1,[],de.1)
 else bif !(decide (a2.1 = (-1))) then ((jK k 15 []).bind fun x16=>
  (lN k de.2.2.2.2.2.2.1 de.2.2.2.2.2.2.2.1 de.2.2.2.2.2.2.2.2.1 de.2.2.2.2.2.2.2.2.2.1 de.2.2.2.2.2.2.2.2.2.2.1 de.2.2.2.2.2.2.2.2.2.2.2.1 de.2.2.2.2.2.2.2.2.2.2.2.2.1 de.2.2.2.2.2.2.2.2.2.2.2.2.2.1 de.2.2.2.2.2.2.2.2.2.2.2.2.2.2.1 de.2.2.2.2.2.2.2.2.2.2.2.2.2.2.2.1 de.2.2.2.2.2.2.2.2.2.2.2.2.2.2.2.2.1 (decide (a2.2.1=13))).bind fun qz=>
  bif zW (1 + de.2.2.2.2.2.2.2.2.2.2.2.2.2.2.2.2.2.2.1.length) 64 then (let y4:List qY:=([(a2.1,x16)]++de.2.2.2.2.2.2.2.2.2.2.2.2.2.2.2.2.2.2.1)
   bif zW (y4.length + qz.2.2.2.2.2.2.2.2.2.2.2.length) 64 then (bif decide (de.2.2.2.2.2.2.2.2.2.2.2.2.2.2.2.2.2.2.2 > 0) then ((kO k qz.2.2.2.2.2.2.2.1 de.2.2.2.2.2.2.2.2.2.2.2.2.2.2.2.2.2.2.2).bind fun x18=>
     bif decide (x18 ≥ 0) then ((jK k 19 [de.2.2.2.2.2.2.2.2.2.2.2.2.2.2.2.2.2.2.2]).bind fun x19=>
      bif zW ((y4 ++ qz.2.2.2.2.2.2.2.2.2.2.2).length + 1) 64 then (let y5:List qY:=((y4++qz.2.2.2.2.2.2.2.2.2.2.2)++[(a2.1,x19)])
       some ((yD qz),y5,0))
      else none)
     else some ((yD qz),(y4++qz.2.2.2.2.2.2.2.2.2.2.2),0))
    else some ((yD qz),(y4++qz.2.2.2.2.2.2.2.2.2.2.2),0))
   else none)
  else none)
 else(lN k de.2.2.2.2.2.2.1 de.2.2.2.2.2.2.2.1 de.2.2.2.2.2.2.2.2.1 de.2.2.2.2.2.2.2.2.2.1 de.2.2.2.2.2.2.2.2.2.2.1 de.2.2.2.2.2.2.2.2.2.2.2.1 de.2.2.2.2.2.2.2.2.2.2.2.2.1 de.2.2.2.2.2.2.2.2.2.2.2.2.2.1 de.2.2.2.2.2.2.2.2.2.2.2.2.2.2.1 de.2.2.2.2.2.2.2.2.2.2.2.2.2.2.2.1 de.2.2.2.2.2.2.2.2.2.2.2.2.2.2.2.2.1 (decide (a2.2.1=13))).bind fun re=>
 bif zW de.2.2.2.2.2.2.2.2.2.2.2.2.2.2.2.2.2.2.1.length 64 then (let y6:List qY:=de.2.2.2.2.2.2.2.2.2.2.2.2.2.2.2.2.2.2.1
  bif zW (y6.length + re.2.2.2.2.2.2.2.2.2.2.2.length) 64 then (bif decide (de.2.2.2.2.2.2.2.2.2.2.2.2.2.2.2.2.2.2.2 > 0) then ((kO k re.2.2.2.2.2.2.2.1 de.2.2.2.2.2.2.2.2.2.2.2.2.2.2.2.2.2.2.2).bind fun x21=>
    bif decide (x21 ≥ 0) then ((jK k 19 [de.2.2.2.2.2.2.2.2.2.2.2.2.2.2.2.2.2.2.2]).bind fun x22=>
     bif zW ((y6 ++ re.2.2.2.2.2.2.2.2.2.2.2).length + 1) 64 then (let y7:List qY:=((y6++re.2.2.2.2.2.2.2.2.2.2.2)++[(a2.1,x22)])
      some ((yD re),y7,0))
     else none)
    else some ((yD re),(y6++re.2.2.2.2.2.2.2.2.2.2.2),0))
   else some ((yD re),(y6++re.2.2.2.2.2.2.2.2.2.2.2),0))
  else none)
 else none
abbrev XA:Type:=List qY→List qY→Int→Option (Unit⊕Bool)
def BJ (k:Nat)(rec:XA)(s0 s1:List qY)(s5:Int):Option (Unit⊕Bool):=
 bif decide (s5 < (s0.length : Int)) then (bif zE s5 s0.length then (bif zE s5 s1.length then (bif !((decide ((s0.getD s5.toNat (0,0,0,0,0,0,0,0)).1=(s1.getD s5.toNat (0,0,0,0,0,0,0,0)).1))&&((decide ((s0.getD s5.toNat (0,0,0,0,0,0,0,0)).2.1=(s1.getD s5.toNat (0,0,0,0,0,0,0,0)).2.1))&&((decide ((s0.getD s5.toNat (0,0,0,0,0,0,0,0)).2.2.1=(s1.getD s5.toNat (0,0,0,0,0,0,0,0)).2.2.1))&&((decide ((s0.getD s5.toNat (0,0,0,0,0,0,0,0)).2.2.2.1=(s1.getD s5.toNat (0,0,0,0,0,0,0,0)).2.2.2.1))&&((decide ((s0.getD s5.toNat (0,0,0,0,0,0,0,0)).2.2.2.2.1=(s1.getD s5.toNat (0,0,0,0,0,0,0,0)).2.2.2.2.1))&&((decide ((s0.getD s5.toNat (0,0,0,0,0,0,0,0)).2.2.2.2.2.1=(s1.getD s5.toNat (0,0,0,0,0,0,0,0)).2.2.2.2.2.1))&&((decide ((s0.getD s5.toNat (0,0,0,0,0,0,0,0)).2.2.2.2.2.2.1=(s1.getD s5.toNat (0,0,0,0,0,0,0,0)).2.2.2.2.2.2.1))&&(decide ((s0.getD s5.toNat (0,0,0,0,0,0,0,0)).2.2.2.2.2.2.2=(s1.getD s5.toNat (0,0,0,0,0,0,0,0)).2.2.2.2.2.2.2))))))))) then some (.inr false)
    else rec s0 s1 (zA (s5+1)))
   else none)
  else none)
 else some (.inl ())
def BI (k:Nat):Nat→XA
 |0,_,_,_=>none
 |n+1,s0,s1,s5=>BJ k (BI k n) s0 s1 s5
def JZ (k:Nat)(a0 a1:List qY):Option Bool:=
 bif !(decide ((a0.length:Int)=(a1.length:Int))) then some false
 else(BI k k a0 a1 0).bind fun z=>
 match z with
 |.inl z1=>some true
 |.inr z2=>some z2
def Ry (k:Nat)(a0:Int):Option Bool:=
 (vA k a0 0 1048576).bind fun x0=>
 some (!x0)
abbrev XE:Type:=List Int→Int→Int→Option (Unit⊕Int)
def B4 (k:Nat)(rec:XE)(s0:List Int)(s7 s8:Int):Option (Unit⊕Int):=
 bif decide (s8 < s7) then (bif zE s8 s0.length then ((Ry k (s0.getD s8.toNat 0)).bind fun x0=>
   bif x0 then some (.inr s8)
   else rec s0 s7 (zA (s8+1)))
  else none)
 else some (.inl ())
def wo (k:Nat):Nat→XE
 |0,_,_,_=>none
 |n+1,s0,s7,s8=>B4 k (wo k n) s0 s7 s8
def Rz (k:Nat)(a0:List Int):Option Int:=
 (wo k k a0 (a0.length:Int) 0).bind fun z=>
 match z with
 |.inl z1=>some (-1)
 |.inr z2=>some z2
def Gc (k:Nat)(a0:List Int):Option Bool:=
 (Rz k a0).bind fun x0=>
 some (decide (x0≥0))
def RA (k:Nat)(a0:Int):Option Bool:=
 some (decide (a0>1099511627776))
abbrev XG:Type:=List Int→Int→Int→Option (Unit⊕Int)
def B5 (k:Nat)(rec:XG)(s0:List Int)(s7 s8:Int):Option (Unit⊕Int):=
 bif decide (s8 < s7) then (bif zE s8 s0.length then ((RA k (s0.getD s8.toNat 0)).bind fun x0=>
   bif x0 then some (.inr s8)
   else rec s0 s7 (zA (s8+1)))
  else none)
 else some (.inl ())
def wq (k:Nat):Nat→XG
 |0,_,_,_=>none
 |n+1,s0,s7,s8=>B5 k (wq k n) s0 s7 s8
def RB (k:Nat)(a0:List Int):Option Int:=
 (wq k k a0 (a0.length:Int) 0).bind fun z=>
 match z with
 |.inl z1=>some (-1)
 |.inr z2=>some z2
def Ke (k:Nat)(a0:List Int):Option Bool:=
 (RB k a0).bind fun x0=>
 some (decide (x0≥0))
abbrev XI:Type:=List (List Int)→Int→Int→vH→vW→Option (Unit⊕Bool)
def B6 (k:Nat)(rec:XI)(jn:List (List Int))(eN kq:Int)(b0:vH)(b1:vW):Option (Unit⊕Bool):=
 bif decide (kq < eN) then (bif zE kq jn.length then ((oE k b0.2.1 b1.2.2.2.2.2.1 (jn.getD kq.toNat [])).bind fun x1=>
   bif !x1.2 then some (.inr false)
   else bif decide (x1.1>1152921504606846976) then some (.inr false)
   else bif zE kq b1.2.1.length then (bif !(decide (x1.1=(b1.2.1.getD kq.toNat (0,0,0)).2.1)) then some (.inr false)
    else(Ke k (jn.getD kq.toNat [])).bind fun x2=>
    bif x2 then some (.inr false)
    else rec jn eN (zA (kq+1)) b0 b1)
   else none)
  else none)
 else some (.inl ())
def td (k:Nat):Nat→XI:=vY (fun _ _ _ _ _=>none) (B6 k)
def Gd (k:Nat)(a0:vH)(a1:vW):Option Bool:=
 bif !(decide ((a1.2.2.2.2.2.1.length:Int)=(a0.2.1.length:Int))) then some false
 else bif !(decide ((a1.2.2.2.2.2.2.1.length:Int)=a0.1)) then some false
 else(Gc k a1.2.2.2.2.2.1).bind fun x0=>
 bif x0 then some false
 else(td k k a1.2.2.2.2.2.2.1 (a1.2.2.2.2.2.2.1.length:Int) 0 a0 a1).bind fun z=>
 match z with
 |.inl z1=>some true
 |.inr z2=>some z2
abbrev XK:Type:=List zD→Int→Option (Unit⊕Bool)
def Kb (k:Nat)(rec:XK)(s0:List zD)(s5:Int):Option (Unit⊕Bool):=
 bif decide (s5 > 0) then (bif zE s5 s0.length then (bif zE (zA (s5 - 1)) s0.length then ((AV k (s0.getD s5.toNat (0,0,0,0,0,0,0)).1 (s0.getD s5.toNat (0,0,0,0,0,0,0)).2.1 (s0.getD s5.toNat (0,0,0,0,0,0,0)).2.2.1 (s0.getD s5.toNat (0,0,0,0,0,0,0)).2.2.2.1 (s0.getD s5.toNat (0,0,0,0,0,0,0)).2.2.2.2.1 (s0.getD s5.toNat (0,0,0,0,0,0,0)).2.2.2.2.2.1 (s0.getD s5.toNat (0,0,0,0,0,0,0)).2.2.2.2.2.2 (s0.getD (zA (s5-1)).toNat (0,0,0,0,0,0,0)).1 (s0.getD (zA (s5-1)).toNat (0,0,0,0,0,0,0)).2.1 (s0.getD (zA (s5-1)).toNat (0,0,0,0,0,0,0)).2.2.1 (s0.getD (zA (s5-1)).toNat (0,0,0,0,0,0,0)).2.2.2.1 (s0.getD (zA (s5-1)).toNat (0,0,0,0,0,0,0)).2.2.2.2.1 (s0.getD (zA (s5-1)).toNat (0,0,0,0,0,0,0)).2.2.2.2.2.1 (s0.getD (zA (s5-1)).toNat (0,0,0,0,0,0,0)).2.2.2.2.2.2).bind fun x0=>
    bif decide (x0<0) then some (.inr false)
    else rec s0 (zA (s5-1)))
   else none)
  else none)
 else some (.inl ())
def F6 (k:Nat):Nat→XK:=vY (fun _ _=>none) (Kb k)
def Ka (k:Nat)(a0:List zD):Option Bool:=
 (F6 k k a0 (zA ((a0.length:Int)-1))).bind fun z=>
 match z with
 |.inl z1=>some true
 |.inr z2=>some z2
abbrev Nh:Type:=(List zD)⊕Bool
abbrev XN:Type:=List zD→List zD→Int→Int→Option Nh
def B1 (k:Nat)(rec:XN)(s0 s5:List zD)(s6 s7:Int):Option Nh:=
 bif decide (s7 < s6) then (bif zE s7 s5.length then ((mo k s0 (s5.getD s7.toNat (0,0,0,0,0,0,0)).1).bind fun x0=>
   bif !(decide (x0=s7)) then some (.inr false)
   else rec s0 s5 s6 (zA (s7+1)))
  else none)
 else some (.inl s0)
def wk (k:Nat):Nat→XN
 |0,_,_,_,_=>none
 |n+1,s0,s5,s6,s7=>B1 k (wk k n) s0 s5 s6 s7
def F5 (k:Nat)(a0:List zD):Option Bool:=
 (wk k k a0 a0 (a0.length:Int) 0).bind fun z=>
 match z with
 | .inl z1 => bif decide ((z1.length : Int) ≤ 40) then ((Ka k z1).bind fun x1=>
   some x1)
  else some false
 |.inr z2=>some z2
abbrev XP:Type:=List Int→Int→List Int→Int→Int→Option ((List Int)⊕Bool)
def B2 (k:Nat)(rec:XP)(s0:List Int)(s3:Int)(s6:List Int)(s7 s8:Int):Option ((List Int)⊕Bool):=
 bif decide (s8 < s7) then (bif zE s8 s6.length then (bif decide ((s6.getD s8.toNat 0)≤s3) then some (.inr false)
   else rec s0 (s6.getD s8.toNat 0) s6 s7 (zA (s8+1)))
  else none)
 else some (.inl s0)
def F8 (k:Nat):Nat→XP:=vY (fun _ _ _ _ _=>none) (B2 k)
def F7 (k:Nat)(a0:List Int):Option Bool:=
 (F8 k k a0 0 a0 (a0.length:Int) 0).bind fun z=>
 match z with
 |.inl z1=>some (decide ((z1.length:Int)≤200))
 |.inr z2=>some z2
def JC (k:Nat)(a0:List Int)(a1:Int):Option Bool:=
 (A8 k a0 a1).bind fun x0=>
 some x0.2
def Kd (k:Nat)(a0:zD)(a1:vW):Option Bool:=
 (zr k a1.2.1 a1.2.2.1 a1.2.2.2.1 a1.2.2.2.2.1 a0.1 a0.2.1 a0.2.2.1 a0.2.2.2.1 a0.2.2.2.2.1 a0.2.2.2.2.2.1 a0.2.2.2.2.2.2).bind fun x0=>
 bif !x0 then some true
 else bif decide (a0.2.2.2.2.2.1<0) then some true
 else(vA k a0.2.2.2.2.2.2 a0.2.2.2.2.2.1 1048576).bind fun x1=>
 bif !x1 then some true
 else(JC k a1.2.2.2.2.2.2.2.2.1 a0.1).bind fun x2=>
 some (!x2)
abbrev R7:Type:=List zD→Int→Int→Int→List zO→List (List Int)→List Int→List (List Int)→List Int→List (List Int)→List zD→List Int→Int→Bool→Option (Unit⊕Int)
def B3 (k:Nat)(rec:R7)(s0:List zD)(s7 s8 aa:Int)(af:List zO)(ag:List (List Int))(ae:List Int)(bb:List (List Int))(bq:List Int)(bx:List (List Int))(dJ:List zD)(dK:List Int)(dL:Int)(cc:Bool):Option (Unit⊕Int):=
 bif decide (s8 < s7) then (bif zE s8 s0.length then ((Kd k (s0.getD s8.toNat (0,0,0,0,0,0,0)) (aa,af,ag,ae,bb,bq,bx,dJ,dK,dL,cc)).bind fun x0=>
   bif x0 then some (.inr s8)
   else rec s0 s7 (zA (s8+1)) aa af ag ae bb bq bx dJ dK dL cc)
  else none)
 else some (.inl ())
def wm (k:Nat):Nat→R7
 |0,_,_,_,_,_,_,_,_,_,_,_,_,_,_=>none
 |n+1,s0,s7,s8,aa,af,ag,ae,bb,bq,bx,dJ,dK,dL,cc=>B3 k (wm k n) s0 s7 s8 aa af ag ae bb bq bx dJ dK dL cc
def Rx (k:Nat)(a0:List zD)(XS:Int)(XT:List zO)(XU:List (List Int))(XV:List Int)(XW:List (List Int))(XX:List Int)(XY:List (List Int))(XZ:List zD)(X0:List Int)(X1:Int)(X2:Bool):Option Int:=
 (wm k k a0 (a0.length:Int) 0 XS XT XU XV XW XX XY XZ X0 X1 X2).bind fun z=>
 match z with
 |.inl z1=>some (-1)
 |.inr z2=>some z2
def Kc (k:Nat)(a0:List zD)(XS:Int)(XT:List zO)(XU:List (List Int))(XV:List Int)(XW:List (List Int))(XX:List Int)(XY:List (List Int))(XZ:List zD)(X0:List Int)(X1:Int)(X2:Bool):Option Bool:=
 (Rx k a0 XS XT XU XV XW XX XY XZ X0 X1 X2).bind fun x0=>
 some (decide (x0≥0))
def F9 (k:Nat)(a0:vW):Option Bool:=
 (F5 k a0.2.2.2.2.2.2.2.1).bind fun x0=>
 bif x0 then ((F7 k a0.2.2.2.2.2.2.2.2.1).bind fun x1=>
  bif x1 then ((Kc k a0.2.2.2.2.2.2.2.1 a0.1 a0.2.1 a0.2.2.1 a0.2.2.2.1 a0.2.2.2.2.1 a0.2.2.2.2.2.1 a0.2.2.2.2.2.2.1 a0.2.2.2.2.2.2.2.1 a0.2.2.2.2.2.2.2.2.1 a0.2.2.2.2.2.2.2.2.2.1 a0.2.2.2.2.2.2.2.2.2.2).bind fun x2=>
   some (!x2))
  else some false)
 else some false
abbrev K0:Type:=vH×vW×(List Int)
abbrev R9:Type:=List zO→Int→Int→vH→vW→List Int→Option K0
def B8 (k:Nat)(rec:R9)(lR:List zO)(s45 Ni:Int)(b0:vH)(b1:vW)(r2:List Int):Option K0:=
 bif decide (Ni < s45) then (bif zE Ni lR.length then (bif zW (r2.length+1) 8 then(rec lR s45 (zA (Ni+1)) b0 b1 (r2++[(lR.getD Ni.toNat (0,0,0)).1]))
   else none)
  else none)
 else some (b0,b1,r2)
def B7 (k:Nat):Nat→R9:=vY (fun _ _ _ _ _ _=>none) (B8 k)
def Kf (k:Nat)(a0:vH)(a1:vW):Option Bool:=
 (vA k a1.1 0 a0.2.2.2.1).bind fun x0=>
 bif !x0 then some false
 else(uZ k a1.2.1 a1.2.2.1 a1.2.2.2.1 a1.2.2.2.2.1).bind fun x1=>
 bif !x1 then some false
 else bif !(decide ((a1.2.1.length:Int)=a0.1)) then some false
 else(Gd k a0 a1).bind fun x2=>
 bif !x2 then some false
 else(F9 k a1).bind fun x3=>
 bif !x3 then some false
 else(B7 k k a1.2.1 (a1.2.1.length:Int) 0 a0 a1 []).bind fun z=>
 (Ba k z.2.2).bind fun x4=>
 bif !x4.2 then some false
 else bif !(decide (x4.1=z.2.1.2.2.2.2.2.2.2.2.2.1)) then some false
 else(vA k x4.1 0 1152921504606846976).bind fun x5=>
 bif !x5 then some false
 else(wb k z.1.1 z.1.2.1 z.1.2.2.1 z.1.2.2.2.1 z.1.2.2.2.2 z.2.1.1).bind fun x6=>
 bif la z.2.1.2.2.2.2.2.2.2.2.2.2 x6 then (bif !z.2.1.2.2.2.2.2.2.2.2.2.2 then some true
  else some (decide ((z.2.1.2.2.2.2.2.2.2.1.length:Int)=0)))
 else some false
abbrev K2:Type:=(vH×vW)⊕Bool
abbrev Se:Type:=List qY→Int→vH→vW→vW→Option K2
def CR (k:Nat)(rec:Se)(s1:List qY)(s8:Int)(b0:vH)(b1 b2:vW):Option K2:=
 bif decide (s8 < (s1.length : Int)) then (bif zE s8 s1.length then ((GO k b0 b1 (s1.getD s8.toNat (0,0,0,0,0,0,0,0))).bind fun x3=>
   bif zE s8 s1.length then ((GN k b0 b2 (s1.getD s8.toNat (0,0,0,0,0,0,0,0))).bind fun x4=>
    (JZ k x3.2.1 x4.2.1).bind fun x5=>
    bif !x5 then some (.inr false)
    else bif !(decide (x3.2.2=x4.2.2)) then some (.inr false)
    else(KX k x3.1 x4.1).bind fun x6=>
    bif !x6 then some (.inr false)
    else rec s1 (zA (s8+1)) b0 x3.1 x4.1)
   else none)
  else none)
 else some (.inl (b0,b1))
def xg (k:Nat):Nat→Se:=vY (fun _ _ _ _ _=>none) (CR k)
def KY (k:Nat)(a0:Int)(a1:List qY):Option Bool:=
 bif decide ((a1.length:Int)>120) then some true
 else(GS k a0).bind fun x0=>
 (KU k x0).bind fun x1=>
 (R3 k x0).bind fun x2=>
 (xg k k a1 0 x0 x1 x2).bind fun z=>
 match z with
 |.inl z1=>(Kf k z1.1 z1.2).bind fun x7=>
  bif x7 then ((R2 k).bind fun x8=>
   some x8)
  else some false
 |.inr z2=>some z2
end Go.Ab.Gi
