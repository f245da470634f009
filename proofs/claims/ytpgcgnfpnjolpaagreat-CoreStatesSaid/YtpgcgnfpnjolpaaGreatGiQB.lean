/- Plain proofs, part 1. -/
import Derived.Test.YtpgcgnfpnjolpaaGreatGiQA
import Derived.Test.YtpgcgnfpnjolpaaGreatGiXS
set_option linter.unusedVariables false
set_option linter.unusedSimpArgs false
set_option maxRecDepth 100000
namespace Go.Ab.Gi
open Go.Ab
abbrev wH:=EQ
abbrev qS:=Int×List mg×Int×Int×Int
abbrev jH:=Int×Int×Int×Int×Int×Int×Int
abbrev vP6:=Int×List mg×Int×Int×Int×Int×List qQ×wH×AC×wH×AC×wH×List zG×AC×Int×Bool×Int×List yB
structure qG where
 t:Int
 B:BT
 pr:AC
 ho:wH
 m:List zG
 ids:AC
 to:Int
 ov:Bool
abbrev qi:=Int×List qQ×wH×AC×wH×AC×wH×List zG×AC×Int×Bool
def qG.st (s:qG):qi:=(s.t,s.B.1,s.B.2.1,s.B.2.2.1,s.B.2.2.2,s.pr,s.ho,s.m,s.ids,s.to,s.ov)
def dk (r:qS)(s:qG)(who:Int)(l:List yB):vP6:=(r.1,r.2.1,r.2.2.1,r.2.2.2.1,r.2.2.2.2,s.t,s.B.1,s.B.2.1,s.B.2.2.1,s.B.2.2.2,s.pr,s.ho,s.m,s.ids,s.to,s.ov,who,l)
structure wV (r:qS):Prop where
 pa:1≤r.1∧r.1≤6
 n3:r.2.1.length≤3
 price:∀i,i<r.2.1.length→0≤(r.2.1.getD i fK).1∧(r.2.1.getD i fK).1≤1048576
 cut:∀i,i<r.2.1.length→0≤(r.2.1.getD i fK).2∧(r.2.1.getD i fK).2≤10000
 cu:0≤r.2.2.1∧r.2.2.1≤r.2.2.2.1
 cl:1≤r.2.2.2.1∧r.2.2.2.1≤1048576
 pe:1≤r.2.2.2.2∧r.2.2.2.2≤1048576
def kH (m:List zG):Prop:=List.Pairwise (fun p q=>vV p q=true) m
structure gO (n:Nat) (m:List zG) (ids:AC):Prop where
 dist:qI m
 len:m.length≤40
 sort:kH m
 may:∀p∈m,qY n p
 time:∀p∈m,0≤p.2.2.2.2.2.1∧p.2.2.2.2.2.1≤p.2.2.2.2.2.2∧p.2.2.2.2.2.2≤1048576
 were:∀p∈m,p.1∈ids
 asc:nf ids
 pos:∀x∈ids,1≤x
 idl:ids.length≤200
structure yO (r:qS) (s:qG):Prop where
 tk:0≤s.t∧s.t≤r.2.2.2.1
 bk:qL s.B
 n:(s.B.1.length:Int)=r.1
 hol:s.ho.length=s.B.1.length
 laid:∀i,i<s.B.1.length→gM r.2.1 s.pr (s.ho.getD i [])
 cred:∀i,i<s.B.1.length→(s.B.1.getD i ad).2.1=gL r.2.1 s.pr (s.ho.getD i [])
 most:∀i,i<s.B.1.length→(s.B.1.getD i ad).2.1≤1152921504606846976
 waits:gO s.B.1.length s.m s.ids
 sum:qE (fun i=>(s.B.1.getD i ad).1) s.B.1.length=s.to
 tot:0≤s.to∧s.to≤1152921504606846976
 over:s.ov=decide (s.t=r.2.2.2.1)
 none:s.ov=true→s.m=[]
theorem kI k a b c:yW k a b c=some (decide (a≥b)&&decide (a≤c)):=by
 unfold yW;grind
theorem ld {α:Type} c (a b:α):(bif c then some a else some b)=some (bif c then a else b):=by grind
def iB (pa t:Int)(p:zG):Bool:=
 decide (p.2.1≥0)&&decide (p.2.1<pa)&&(decide (p.2.2.1≥0)&&decide (p.2.2.1<pa)&&(decide (p.1≥1)&&(decide (p.2.2.2.1≥1)&&(decide (p.2.2.2.1≤1099511627776)&&(decide (p.2.2.2.2.1≥1)&&(!decide (p.2.1=p.2.2.1)&&(decide (p.2.2.2.2.1≤3)&&(decide (p.2.2.2.2.2.1≥0)&&(decide (p.2.2.2.2.2.1≤p.2.2.2.2.2.2)&&(decide (p.2.2.2.2.2.2≥t)&&decide (p.2.2.2.2.2.2≤1048576)))))))))))
theorem vO6 k (r:qS) w:GU k r w=some (decide (w≥0)&&decide (w<r.1)):=by
 unfold GU;grind
theorem vEz k (r:qS) t (p:zG):K8 k r t p=some (iB r.1 t p):=by
 unfold K8 iB;simp[vO6,ld]
def nn (cu cl t c:Int):Int:=bif decide (t≥cl) then 7 else bif decide (c=3)&&decide (t≥cu) then 7 else 0
theorem yG6 k (r:qS) t c:xa k r t c=some (nn r.2.2.1 r.2.2.2.1 t c):=by
 unfold xa nn;grind
def kJ (r:qS)(t:Int)(p:zG):Int:=bif !iB r.1 t p then 1 else nn r.2.2.1 r.2.2.2.1 t p.2.2.2.2.1
theorem vBm k (r:qS) t (p:zG):Cw k r t p=some (kJ r t p):=by
 unfold Cw kJ;rw[vEz];simp[yG6];grind
def jM (who:Int)(f:jH):zG:=(f.2.1,who,f.2.2)
def gd (r:qS)(s:qG)(who:Int)(f:jH):Int×List zG×AC:=
 bif !(decide (f.2.2.1≥0)&&decide (f.2.2.1≤r.1-1)) then(1,s.m,s.ids)
 else bif !(decide (f.2.2.2.2.1≥1)&&decide (f.2.2.2.2.1≤3)) then(1,s.m,s.ids)
 else bif !decide (kJ r s.t (jM who f)=0) then(kJ r s.t (jM who f),s.m,s.ids)
 else bif decide (f.2.1∈s.ids) then(6,s.m,s.ids)
 else bif decide (200≤s.ids.length) then(3,s.m,s.ids)
 else bif (vE s.m f.2.1).isSome then(6,s.m,s.ids)
 else bif decide (40≤s.m.length) then(3,s.m,s.ids)
 else(0,me s.m (jM who f),ng s.ids f.2.1)
theorem vQl {k}(hk:1000≤k){r}(hr:wV r){s}(h:gO s.B.1.length s.m s.ids) who l f:
  ∃d,K9 k (dk r s who l) f.2=some ((gd r s who f).1,d)∧((gd r s who f).1=0→d=dk r {s with m:=(gd r s who f).2.1,ids:=(gd r s who f).2.2} who l):=by
 have hp:=hr.pa;have hi:=h.idl;have hm:=h.len;have w1:zA (r.1-1)=r.1-1:=zN (by omega) (by omega);have eD:K9 k (dk r s who l) f.2=(yW k f.2.2.1 0 (zA (r.1-1))).bind fun x0=>
  bif !x0 then some (1,dk r s who l)
  else(yW k f.2.2.2.2.1 1 3).bind fun x1=>
  bif !x1 then some (1,dk r s who l)
  else(Cw k r s.t (jM who f)).bind fun x2=>
  bif !(decide (x2=0)) then some (x2,dk r s who l)
  else(BN k s.ids f.2.1).bind fun x3=>
  bif !(decide (x3.2=0)) then some (x3.2,dk r s who l)
  else(sX k s.m (jM who f)).bind fun x4=>
  bif !(decide (x4.2=0)) then some (x4.2,dk r s who l)
  else some (0,dk r {s with m:=x4.1,ids:=x3.1} who l):=rfl
 rw[eD,kI,kI,vBm,w1,vMv (by omega) (by omega) h.asc,QK (by omega) (by omega) (by unfold qN;omega)];simp only[ak];unfold gd;cases decide (f.2.2.1≥0)&&decide (f.2.2.1≤r.1-1) with
 |false=>exact by simp
 |true=>
 cases decide (f.2.2.2.2.1≥1)&&decide (f.2.2.2.2.1≤3) with
 |false=>exact by simp
 |true=>
 by_cases hc:kJ r s.t (jM who f)=0
 ·rw[ag hc];by_cases h1:f.2.1∈s.ids
  ·rw[ag h1];exact by simp
  ·rw[ai h1];by_cases h2:200≤s.ids.length
   ·rw[ag h2];exact by simp
   ·rw[ai h2];have e1:(jM who f).1=f.2.1:=rfl;rw[e1];cases(vE s.m f.2.1).isSome with
    |true=>exact by simp
    |false=>
     by_cases h3:40≤s.m.length
     ·rw[ag h3];exact by simp
     ·rw[ai h3];exact by simp
 ·rw[ai hc];exact by simp
def kK (who kd a:Int):yB:=(who,kd,a,0,0,0,0,0)
theorem qXo {k l}(hl:l.length≤1000) r s who kd a:tt k (dk r s who l) kd [a]=some (dk r s who (l++[kK who kd a])):=by
 have e:tt k (dk r s who l) kd [a]=bif zR (l.length+1) 64 then some (dk r s who (l++[kK who kd a])) else none:=rfl
 rw[e,qT (by omega) (by omega)];rfl
def iC (r:qS)(s:qG)(who:Int)(f:jH):Int×List zG×List yB:=match vE s.m f.2.1 with
 |none=>(4,s.m,[])
 |some x=>
  bif !decide ((s.m.getD x pd).2.1=who) then(4,s.m,[])
  else bif decide (f.1=2) then(0,qV s.m x,[kK who 20 f.2.1])
  else bif decide (f.1 = 4) then (bif !(decide (f.2.2.1≥1)&&decide (f.2.2.1≤3)) then(1,s.m,[])
   else bif !decide (nn r.2.2.1 r.2.2.2.1 s.t f.2.2.1=0) then(nn r.2.2.1 r.2.2.2.1 s.t f.2.2.1,s.m,[])
   else(0,me (qV s.m x) ((s.m.getD x pd).1,(s.m.getD x pd).2.1,(s.m.getD x pd).2.2.1,(s.m.getD x pd).2.2.2.1,f.2.2.1,(s.m.getD x pd).2.2.2.2.2.1,(s.m.getD x pd).2.2.2.2.2.2),[]))
  else bif decide (f.2.2.1=0) then(0,Gp (qV s.m x) (s.m.getD x pd),[])
  else bif decide (f.2.2.1=1) then(0,me (qV s.m x) (s.m.getD x pd),[])
  else(1,s.m,[])
theorem vJf {k}(hk:1000≤k){r s}(h:gO s.B.1.length s.m s.ids) who {l}(hl:l.length≤1000)(f:jH):
  ∃d,xc k (dk r s who l) f=some ((iC r s who f).1,d)∧((iC r s who f).1=0→d=dk r {s with m:=(iC r s who f).2.1} who (l++(iC r s who f).2.2)):=by
 have hm:=h.len;have lT:qN s.m:=by unfold qN;omega
 have eD : xc k (dk r s who l) f = ((mc k s.m f.2.1).bind fun x0=>
   bif decide (x0<0) then some (((0,0,0,0,0,0,0):zG),(4:Int))
   else bif zC x0 s.m.length then (bif !(decide ((s.m.getD x0.toNat (0,0,0,0,0,0,0)).2.1=who)) then some ((0,0,0,0,0,0,0),4)
    else bif zC x0 s.m.length then some ((s.m.getD x0.toNat (0,0,0,0,0,0,0)),0)
    else none)
   else none).bind fun x0=>
  bif !(decide (x0.2=0)) then some (x0.2,dk r s who l)
  else bif decide (f.1 = 2) then ((nc k s.m f.2.1).bind fun x1=>
   (tt k (dk r {s with m:=x1.1} who l) 20 [f.2.1]).bind fun x2=>
   some (x1.2.2.2.2.2.2.2.2,x2))
  else bif decide (f.1 = 4) then ((yW k f.2.2.1 1 3).bind fun x3=>
   bif !x3 then some (1,dk r s who l)
   else(xa k r s.t f.2.2.1).bind fun x4=>
   bif !(decide (x4=0)) then some (x4,dk r s who l)
   else(BI k s.m f.2.1 f.2.2.1).bind fun x5=>
   some (x5.2,dk r {s with m:=x5.1} who l))
  else bif decide (f.2.2.1 = 0) then ((BL k s.m f.2.1).bind fun x6=>
   some (x6.2,dk r {s with m:=x6.1} who l))
  else bif decide (f.2.2.1 = 1) then ((BJ k s.m f.2.1).bind fun x7=>
   some (x7.2,dk r {s with m:=x7.1} who l))
  else some (1,dk r s who l):=rfl
 rw[eD,BB (by omega) (by omega)];unfold iC eN;cases hx:vE s.m f.2.1 with
 |none=>exact by simp
 |some x=>
  have cR:=iy hx;have e1:decide ((x:Int)<0)=false:=by simp
  simp only[ak,e1,ay,zV,ag cR.1,av,aC];by_cases hw:(s.m.getD x (0,0,0,0,0,0,0)).2.1=who
  ·have sv:(s.m.getD x pd).2.1=who:=hw;rw[ag hw];by_cases h2:f.1=2
   ·rw[ag h2];simp only[av,wq (show s.m.length<k by omega) lT,ak,qXo hl];unfold fJ;rw[hx];exact by simp
   ·rw[ai h2];simp only[ay];by_cases h4:f.1=4
    ·rw[ag h4];simp only[av,kI,ak,yG6,yYu (show 3≤k by omega) (by grind) lT h.dist hm hx];cases decide (f.2.2.1≥1)&&decide (f.2.2.1≤3) with
     |false=>exact by simp
     |true=>
      simp only[bG,ay];by_cases hc:nn r.2.2.1 r.2.2.2.1 s.t f.2.2.1=0
      all_goals simp_all
    ·rw[ai h4];simp only[ay];by_cases h0:f.2.2.1=0
     ·rw[ag h0];simp only[av,vQb (show 3≤k by omega) (by grind) lT hx,ak];exact by simp
     ·rw[ai h0];simp only[ay];by_cases h1:f.2.2.1=1
      ·rw[ag h1];simp only[av,vP1 (show 3≤k by omega) (by grind) lT h.dist hm hx,ak];exact by simp
      ·rw[ai h1];exact by simp
  ·have sv:¬(s.m.getD x pd).2.1=who:=hw;rw[ai hw];exact by simp
def Ra (s:qG)(a:List qQ)(b:wH)(m:AC):qG:={s with B:=(a,b,m,s.B.2.2.2)}
def iD (r:qS)(s:qG)(who:Int)(f:jH):Int×qG:=
 bif decide (f.1 = 5) then (bif !((decide (f.2.1≥0)&&decide (f.2.1≤r.1-1))&& !decide (f.2.1=who)) then(1,s)
  else bif !(decide (f.2.2.1≥-1)&&decide (f.2.2.1≤1152921504606846976)) then(1,s)
  else(0,Ra s s.B.1 (s.B.2.1.set who.toNat ((s.B.2.1.getD who.toNat []).set f.2.1.toNat f.2.2.1)) s.B.2.2.1))
 else bif decide (f.1 = 6) then (bif !(decide (f.2.1≥-1)&&decide (f.2.1≤1152921504606846976)) then(1,s)
  else(0,Ra s s.B.1 s.B.2.1 (s.B.2.2.1.set who.toNat f.2.1)))
 else bif !(decide (f.2.1≥0)&&decide (f.2.1≤1152921504606846976)) then(1,s)
 else(0,Ra s (s.B.1.set who.toNat ((s.B.1.getD who.toNat ad).1,(s.B.1.getD who.toNat ad).2.1,f.2.1)) s.B.2.1 s.B.2.2.1)
theorem vNm {k}(hk:1000≤k){r}(hr:wV r){s}(hb:qL s.B)(hn:(s.B.1.length:Int)=r.1){who}(hw:0≤who∧who<r.1) l (f:jH):
    ∃d,xd k (dk r s who l) f=some ((iD r s who f).1,d)∧((iD r s who f).1=0→d=dk r (iD r s who f).2 who l):=by
  have hp:=hr.pa;have w1:zA (r.1-1)=r.1-1:=zN (by omega) (by omega);obtain⟨w,rfl⟩:=Int.eq_ofNat_of_zero_le hw.1;have eP:w<s.B.1.length:=by omega
  have eD:xd k (dk r s w l) f=(jW k s.B.1 s.B.2.1 s.B.2.2.1 s.B.2.2.2).bind fun x0=>
    bif decide (f.1 = 5) then (((yW k f.2.1 0 (zA (r.1-1))).bind fun x0=>bif x0 then some (!(decide (f.2.1=(w:Int)))) else some false).bind fun x1=>
      bif !x1 then some (1,dk r s w l)
      else(yW k f.2.2.1 (-1) 1152921504606846976).bind fun x2=>
      bif !x2 then some (1,dk r s w l)
      else bif zC (w : Int) x0.2.1.length then (bif zC f.2.1 (x0.2.1.getD (w:Int).toNat []).length then
        some (0,dk r {s with B:=(x0.1,(x0.2.1.set (w:Int).toNat ((x0.2.1.getD (w:Int).toNat []).set f.2.1.toNat f.2.2.1)),x0.2.2.1,x0.2.2.2)} w l)
       else none)
      else none)
    else bif decide (f.1 = 6) then ((yW k f.2.1 (-1) 1152921504606846976).bind fun x3=>
      bif !x3 then some (1,dk r s w l)
      else bif zC (w:Int) x0.2.2.1.length then some (0,dk r {s with B:=(x0.1,x0.2.1,(x0.2.2.1.set (w:Int).toNat f.2.1),x0.2.2.2)} w l)
      else none)
    else(yW k f.2.1 0 1152921504606846976).bind fun x4=>
    bif !x4 then some (1,dk r s w l)
    else bif zC (w:Int) x0.1.length then some (0,dk r {s with B:=((x0.1.set (w:Int).toNat ((x0.1.getD (w:Int).toNat (0,0,0)).1,(x0.1.getD (w:Int).toNat (0,0,0)).2.1,f.2.1)),x0.2.1,x0.2.2.1,x0.2.2.2)} w l)
    else none:=rfl
  rw[eD,FJ (by omega) hb.toSized,w1];simp only[ak,kI,zV,aC];unfold iD;rw[aC];by_cases h5:f.1=5
  · rw[ag h5];simp only[av];cases hc:decide (f.2.1≥0)&&decide (f.2.1≤r.1-1) with
    |false=>exact by simp
    |true=>
      simp  at hc;cases decide (f.2.1=(w:Int)) with
      |true=>exact by simp
      |false=>
        cases decide (f.2.2.1≥-1)&&decide (f.2.2.1≤1152921504606846976) with
        |false=>exact by simp
        |true=>
          have b1:decide (w<s.B.2.1.length)=true:=ag (by rw[hb.bl];exact eP);have b2:zC f.2.1 (s.B.2.1.getD w []).length=true:=vw hc.1 (by rw[hb.br w eP];omega);simp only[av,ak,fY,bG,ay,b1,b2,Bool.and_self];exact⟨_,rfl,fun _=>rfl⟩
  · rw[ai h5];simp only[ay];by_cases h6:f.1=6
    · rw[ag h6];cases decide (f.2.1≥-1)&&decide (f.2.1≤1152921504606846976) with
      |false=>exact by simp
      |true=>
        have b1:decide (w<s.B.2.2.1.length)=true:=ag (by rw[hb.ml];exact eP);simp only[av,bG,ay,b1];exact⟨_,rfl,fun _=>rfl⟩
    · rw[ai h6];cases decide (f.2.1≥0)&&decide (f.2.1≤1152921504606846976) with
      |false=>exact by simp
      |true=>
        have b1:decide (w<s.B.1.length)=true:=by grind
        simp only[av,bG,ay,b1];exact⟨_,rfl,fun _=>rfl⟩
def Cx (s:qG)(w:Nat)(h:AC)(n:Int):Int×qG:=
 bif decide (n>1152921504606846976) then(8,s)
 else bif decide (n<(s.B.1.getD w ad).2.1)&&decide ((s.B.1.getD w ad).1+n<0) then(9,s)
 else(0,{s with B:=(s.B.1.set w ((s.B.1.getD w ad).1,n,(s.B.1.getD w ad).2.2),s.B.2.1,s.B.2.2.1,s.B.2.2.2),ho:=s.ho.set w h})
def iE (r:qS)(s:qG)(who a many:Int):Int×qG:=
 bif !(decide (a≥0)&&decide (a≤(r.2.1.length:Int)-1)) then(1,s)
 else bif !(decide (many≥0)&&decide (many≤1099511627776)) then(1,s)
 else Cx s who.toNat ((s.ho.getD who.toNat []).set a.toNat many) (gL r.2.1 s.pr ((s.ho.getD who.toNat []).set a.toNat many))
theorem gM.set {sa pr h}(L:gM sa pr h){i}(hi:i<sa.length){v}(hv:0≤v∧v≤1099511627776):gM sa pr (h.set i v):=
 ⟨L.n3,L.pl,by rw[List.length_set];exact L.hl,L.cut,L.price,fun j hj=>by
  rw[jG];split
  ·exact hv
  ·exact L.hold j hj⟩
theorem gM.setP {sa pr h}(L:gM sa pr h){i}(hi:i<sa.length){v}(hv:0≤v∧v≤1048576):gM sa (pr.set i v) h:=
 ⟨L.n3,by rw[List.length_set];exact L.pl,L.hl,L.cut,fun j hj=>by
  rw[jG];split
  ·exact hv
  ·exact L.price j hj,L.hold⟩
theorem vFb {k}{l:wH}(hl:l.length≤1000):Cy k l=some l:=by
 unfold Cy;rw[qT (by omega) (by omega)];rfl
theorem yU7 {k}(hk:1000≤k){r}(hr:wV r){s}(h:yO r s){who}(hw:0≤who∧who<r.1) l a many:
    ∃d,La k (dk r s who l) a many=some ((iE r s who a many).1,d)∧((iE r s who a many).1=0→d=dk r (iE r s who a many).2 who l):=by
  have hp:=hr.pa;have h3:=hr.n3;have hn:=h.n;have eO:=h.bk.n6;have hol:=h.hol;have w1:zA ((r.2.1.length:Int)-1)=(r.2.1.length:Int)-1:=zN (by omega) (by omega);obtain⟨w,rfl⟩:=Int.eq_ofNat_of_zero_le hw.1;have eP:w<s.B.1.length:=by omega
  have eD:La k (dk r s w l) a many=((yW k a 0 (zA ((r.2.1.length:Int)-1))).bind fun x0=>some x0).bind fun x0=>
    bif !x0 then some (1,dk r s w l)
    else(yW k many 0 1099511627776).bind fun x1=>
    bif !x1 then some (1,dk r s w l)
    else(Cy k s.ho).bind fun x2=>
    bif zC (w : Int) x2.length then ((ni k (x2.getD (w:Int).toNat []) a many).bind fun x3=>
      bif zC (w:Int) x2.length then(
       bif zC (w : Int) (x2.set (w : Int).toNat x3).length then ((oD k r.2.1 s.pr ((x2.set (w:Int).toNat x3).getD (w:Int).toNat [])).bind fun x4=>
        bif zC (w : Int) s.B.1.length then (bif !x4.2 then some (8,dk r s w l)
         else bif decide (x4.1>1152921504606846976) then some (8,dk r s w l)
         else bif decide (x4.1 < (s.B.1.getD (w : Int).toNat (0, 0, 0)).2.1) then (bif decide ((zA ((s.B.1.getD (w:Int).toNat (0,0,0)).1+x4.1))<0) then some (9,dk r s w l)
          else(jW k s.B.1 s.B.2.1 s.B.2.2.1 s.B.2.2.2).bind fun x5=>
          bif zC (w:Int) x5.1.length then
           some (0,dk r {s with B:=((x5.1.set (w:Int).toNat ((x5.1.getD (w:Int).toNat (0,0,0)).1,x4.1,(x5.1.getD (w:Int).toNat (0,0,0)).2.2)),x5.2.1,x5.2.2.1,x5.2.2.2),ho:=x2.set (w:Int).toNat x3} w l)
          else none)
         else(jW k s.B.1 s.B.2.1 s.B.2.2.1 s.B.2.2.2).bind fun x6=>
         bif zC (w:Int) x6.1.length then
          some (0,dk r {s with B:=((x6.1.set (w:Int).toNat ((x6.1.getD (w:Int).toNat (0,0,0)).1,x4.1,(x6.1.getD (w:Int).toNat (0,0,0)).2.2)),x6.2.1,x6.2.2.1,x6.2.2.2),ho:=x2.set (w:Int).toNat x3} w l)
         else none)
        else none)
       else none)
      else none)
    else none:=rfl
  rw[eD,w1,kI,kI,FJ (by omega) h.bk.toSized,vFb (by omega)];simp only[ak,zV,aC];unfold iE;simp only[aC];cases hc:decide (a≥0)&&decide (a≤(r.2.1.length:Int)-1) with
  |false=>exact by simp
  |true=>
  simp only[bJ,bO] at hc;cases hm:decide (many≥0)&&decide (many≤1099511627776) with
  |false=>exact by simp
  |true=>
  obtain⟨i,rfl⟩:=Int.eq_ofNat_of_zero_le hc.1;have hi:i<r.2.1.length:=by omega
  have L:=h.laid w eP;have L2:=L.set hi (v:=many) (by grind);have b1:decide (w<s.ho.length)=true:=by grind
  have b2:decide (w<s.B.1.length)=true:=ag eP;have j5:ni k (s.ho.getD w []) (i:Int) many=some ((s.ho.getD w []).set i many):=by
    have:=yC2 (k:=k) (l:=s.ho.getD w []) (by rw[L.hl];omega) (i:=(i:Int)) (by omega) (by rw[L.hl];omega) many;simp_all
  have GV:(s.ho.set w ((s.ho.getD w []).set i many)).getD w []=(s.ho.getD w []).set i many:=by
    rw[jG,if_pos ⟨rfl,by omega⟩]
  have hv:=QS (k:=k) L2 (by omega);have hb:=h.bk.nums.bal w eP;have uI:=BU L2;simp only[bG,ay,b1,av,j5,ak,List.length_set,GV,hv,b2,aC];clear hv L2 GV eD;generalize gL r.2.1 s.pr ((s.ho.getD w []).set i many)=n at uI⊢;unfold Cx;cases Rb:decide (n>1152921504606846976) with
  |true=>exact by simp
  |false=>
    have h8:¬n>1152921504606846976:=om Rb;have w2:zA ((s.B.1.getD w (0,0,0)).1+n)=(s.B.1.getD w (0,0,0)).1+n:=zN (by have:=hb.1;simp only[ad] at this;omega) (by have:=hb.2;simp only[ad] at this;omega);simp only[w2,ay];cases decide (n<(s.B.1.getD w (0,0,0)).2.1) with
    |false=>exact by simp
    |true=>
      cases decide ((s.B.1.getD w (0,0,0)).1+n<0) with
      |true=>exact by simp
      |false=>exact by simp
def wR (a:qQ)(n:Int):qQ×Int:=bif jF (a.1+n,a.2.1,a.2.2) then((a.1+n,a.2.1,a.2.2),0) else(a,8)
theorem yAg {k}{a:qQ}(ha:-4611686018427387904<a.1∧a.1<4611686018427387904){n}(hn:-1099511627776≤n∧n≤1099511627776):GW k a n=some (wR a n):=by
 have aap:Lb k a.1 n=some (a.1+n,true):=by
  unfold Lb;have w1:n>0→zA (9223372036854775807-n)=9223372036854775807-n:=fun h=>zN (by omega) (by omega)
  have w2:n<0→zA (-9223372036854775808-n)= -9223372036854775808-n:=fun h=>zN (by omega) (by omega)
  have w3:zA (a.1+n)=a.1+n:=zN (by omega) (by omega);grind
 unfold GW wR;simp[yG3];grind
theorem Rc x (s:Nat)(h:s≤62):shr .i64 x (s:Int)=x/2^s:=by
 have e:shr .i64 x (s:Int)=x.fdiv (2^(min (s:Int).toNat 64)):=rfl;grind
theorem oJ x:shr .i64 x 16=x/65536:=Rc x 16 (by decide)
theorem qT6 x:shr .i64 x 32=x/4294967296:=Rc x 32 (by decide)
theorem yI7 x:shr .i64 x 48=x/281474976710656:=Rc x 48 (by decide)
theorem yV8 x:shr .i64 x 0=x:=by grind
theorem ql x:yA .i64 x 65535=x%65536:=ySe 16 (by decide) x
theorem Re m (hm:m≤62){x y}(hx:0≤x)(hy:0≤y∧y<2^m)(hs:x*2^m+y<9223372036854775808):fe .i64 (x*2^m) y=x*2^m+y:=by
 obtain⟨a,rfl⟩:=Int.eq_ofNat_of_zero_le hx;obtain⟨b,rfl⟩:=Int.eq_ofNat_of_zero_le hy.1;have hp:(2:Int)^m=((2^m:Nat):Int):=by simp
 rw[hp] at hs hy⊢;have e1:(a:Int)*((2^m:Nat):Int)=((a*2^m:Nat):Int):=by simp
 rw[e1] at hs⊢;have hb:b<2^m:=by omega
 unfold fe oY;have GX:IntKind.i64.bits=64:=rfl;have e2:(BitVec.ofInt IntKind.i64.bits ((a*2^m:Nat):Int)|||BitVec.ofInt IntKind.i64.bits (b:Int)).toNat=a*2^m+b:=by
  rw[BitVec.toNat_or,BitVec.ofInt_natCast,BitVec.ofInt_natCast,BitVec.toNat_ofNat,BitVec.toNat_ofNat,GX,Nat.mod_eq_of_lt (by omega),Nat.mod_eq_of_lt (by omega)];have:=Nat.shiftLeft_add_eq_or_of_lt hb a;rw[Nat.shiftLeft_eq] at this;exact this.symm
 rw[e2];exact zN (by omega) (by omega)
def V9 (l0 l1 l2 l3 l4 l5 l6 l7 l8:Int):Int:=l0+65536*(l1+65536*(l2+65536*(l3+65536*(l4+65536*(l5+65536*(l6+65536*(l7+65536*l8)))))))
theorem vH4 (l0 l1 l2 l3 l4 l5 l6 l7 l8:Int){c1 c2 c3 c4 c5 c6 c7 c8:Int}(h1:c1=zA (l1+shr .i64 l0 16))(h2:c2=zA (l2+shr .i64 c1 16))(h3:c3=zA (l3+shr .i64 c2 16))(h4:c4=zA (l4+shr .i64 c3 16))(h5:c5=zA (l5+shr .i64 c4 16))(h6:c6=zA (l6+shr .i64 c5 16))(h7:c7=zA (l7+shr .i64 c6 16))(h8:c8=zA (l8+shr .i64 c7 16)):
  Cz 1000 [l0,l1,l2,l3,l4,l5,l6,l7,l8]=some [yA .i64 l0 65535,yA .i64 c1 65535,yA .i64 c2 65535,yA .i64 c3 65535,yA .i64 c4 65535,yA .i64 c5 65535,yA .i64 c6 65535,yA .i64 c7 65535,c8]:=by
 subst h8;subst h7;subst h6;subst h5;subst h4;subst h3;subst h2;subst h1
 kernel_rfl
theorem yF4 {l0 l1 l2 l3 l4 l5 l6 l7 l8:Int}(g0:0≤l0∧l0≤1099511627776)(g1:0≤l1∧l1≤1099511627776)(g2:0≤l2∧l2≤1099511627776)(g3:0≤l3∧l3≤1099511627776)(g4:0≤l4∧l4≤1099511627776)(g5:0≤l5∧l5≤1099511627776)(g6:0≤l6∧l6≤1099511627776)(g7:0≤l7∧l7≤1099511627776)(g8:0≤l8∧l8≤1099511627776):∃d0 d1 d2 d3 d4 d5 d6 d7 d8,
  Cz 1000 [l0,l1,l2,l3,l4,l5,l6,l7,l8]=some [d0,d1,d2,d3,d4,d5,d6,d7,d8]∧V9 d0 d1 d2 d3 d4 d5 d6 d7 d8=V9 l0 l1 l2 l3 l4 l5 l6 l7 l8∧(0≤d0∧d0<65536)∧(0≤d1∧d1<65536)∧(0≤d2∧d2<65536)∧(0≤d3∧d3<65536)∧(0≤d4∧d4<65536)∧(0≤d5∧d5<65536)∧(0≤d6∧d6<65536)∧(0≤d7∧d7<65536)∧0≤d8:=by
 obtain⟨c1,mO⟩:∃c,c=l1+l0/65536:=⟨_,rfl⟩;have b1:0≤c1∧c1≤2199023255552:=by omega
 have h1:c1=zA (l1+shr .i64 l0 16):=by rw[oJ,←mO,zN (by omega) (by omega)]
 obtain⟨c2,cT⟩:∃c,c=l2+c1/65536:=⟨_,rfl⟩;have b2:0≤c2∧c2≤2199023255552:=by omega
 have h2:c2=zA (l2+shr .i64 c1 16):=by rw[oJ,←cT,zN (by omega) (by omega)]
 obtain⟨c3,dB⟩:∃c,c=l3+c2/65536:=⟨_,rfl⟩;have b3:0≤c3∧c3≤2199023255552:=by omega
 have h3:c3=zA (l3+shr .i64 c2 16):=by rw[oJ,←dB,zN (by omega) (by omega)]
 obtain⟨c4,fg⟩:∃c,c=l4+c3/65536:=⟨_,rfl⟩;have b4:0≤c4∧c4≤2199023255552:=by omega
 have h4:c4=zA (l4+shr .i64 c3 16):=by rw[oJ,←fg,zN (by omega) (by omega)]
 obtain⟨c5,kB⟩:∃c,c=l5+c4/65536:=⟨_,rfl⟩;have b5:0≤c5∧c5≤2199023255552:=by omega
 have h5:c5=zA (l5+shr .i64 c4 16):=by rw[oJ,←kB,zN (by omega) (by omega)]
 obtain⟨c6,Am⟩:∃c,c=l6+c5/65536:=⟨_,rfl⟩;have b6:0≤c6∧c6≤2199023255552:=by omega
 have h6:c6=zA (l6+shr .i64 c5 16):=by rw[oJ,←Am,zN (by omega) (by omega)]
 obtain⟨c7,An⟩:∃c,c=l7+c6/65536:=⟨_,rfl⟩;have b7:0≤c7∧c7≤2199023255552:=by omega
 have h7:c7=zA (l7+shr .i64 c6 16):=by rw[oJ,←An,zN (by omega) (by omega)]
 obtain⟨c8,hc8⟩:∃c,c=l8+c7/65536:=⟨_,rfl⟩;have b8:0≤c8∧c8≤2199023255552:=by omega
 have h8:c8=zA (l8+shr .i64 c7 16):=by rw[oJ,←hc8,zN (by omega) (by omega)]
 have run:=vH4 l0 l1 l2 l3 l4 l5 l6 l7 l8 h1 h2 h3 h4 h5 h6 h7 h8;simp only[ql] at run;refine⟨_,_,_,_,_,_,_,_,_,run,?_,⟨Int.emod_nonneg _ (by decide),Int.emod_lt_of_pos _ (by decide)⟩,⟨Int.emod_nonneg _ (by decide),Int.emod_lt_of_pos _ (by decide)⟩,⟨Int.emod_nonneg _ (by decide),Int.emod_lt_of_pos _ (by decide)⟩,⟨Int.emod_nonneg _ (by decide),Int.emod_lt_of_pos _ (by decide)⟩,⟨Int.emod_nonneg _ (by decide),Int.emod_lt_of_pos _ (by decide)⟩,⟨Int.emod_nonneg _ (by decide),Int.emod_lt_of_pos _ (by decide)⟩,⟨Int.emod_nonneg _ (by decide),Int.emod_lt_of_pos _ (by decide)⟩,⟨Int.emod_nonneg _ (by decide),Int.emod_lt_of_pos _ (by decide)⟩,b8.1⟩;unfold V9;clear run h1 h2 h3 h4 h5 h6 h7 h8;omega
theorem vI5 l0 l1 l2 l3 l4 l5 l6 l7 l8 n:Lc 1000 [l0,l1,l2,l3,l4,l5,l6,l7,l8] n=Cz 1000 [zA (l0*n),zA (l1*n),zA (l2*n),zA (l3*n),zA (l4*n),zA (l5*n),zA (l6*n),zA (l7*n),zA (l8*n)]:=by
 have e:Ld 1000 1000 n 0 [l0,l1,l2,l3,l4,l5,l6,l7,l8]=some [zA (l0*n),zA (l1*n),zA (l2*n),zA (l3*n),zA (l4*n),zA (l5*n),zA (l6*n),zA (l7*n),zA (l8*n)]:=by kernel_rfl
 unfold Lc;simp_all
theorem yTo l0 l1 l2 l3 l4 l5 l6 l7 l8 n:V9 l0 l1 l2 l3 l4 l5 l6 l7 l8*n=V9 (l0*n) (l1*n) (l2*n) (l3*n) (l4*n) (l5*n) (l6*n) (l7*n) (l8*n):=by
 unfold V9;grind
theorem vLo l0 l1 l2 l3 l4 l5 l6 l7 l8 {x0 x1 x2 x3 x4 x5 x6 x7 x8 r0 r1 r2 r3 r4 r5 r6 r7 r8 r9}(h8:x8=zA (shl .i64 r9 16+l8))(h7:x7=zA (shl .i64 r8 16+l7))(h6:x6=zA (shl .i64 r7 16+l6))(h5:x5=zA (shl .i64 r6 16+l5))(h4:x4=zA (shl .i64 r5 16+l4))(h3:x3=zA (shl .i64 r4 16+l3))(h2:x2=zA (shl .i64 r3 16+l2))(h1:x1=zA (shl .i64 r2 16+l1))(h0:x0=zA (shl .i64 r1 16+l0))(h9:r9=0)(k8:r8=Int.tmod x8 10000)(k7:r7=Int.tmod x7 10000)(k6:r6=Int.tmod x6 10000)(k5:r5=Int.tmod x5 10000)(k4:r4=Int.tmod x4 10000)(k3:r3=Int.tmod x3 10000)(k2:r2=Int.tmod x2 10000)(k1:r1=Int.tmod x1 10000)(k0:r0=Int.tmod x0 10000):
  GY 1000 1000 10000 0 8 [l0,l1,l2,l3,l4,l5,l6,l7,l8]=some [zA (Int.tdiv x0 10000),zA (Int.tdiv x1 10000),zA (Int.tdiv x2 10000),zA (Int.tdiv x3 10000),zA (Int.tdiv x4 10000),zA (Int.tdiv x5 10000),zA (Int.tdiv x6 10000),zA (Int.tdiv x7 10000),zA (Int.tdiv x8 10000)]:=by
 subst h0;subst k1;subst h1;subst k2;subst h2;subst k3;subst h3;subst k4;subst h4;subst k5;subst h5;subst k6;subst h6;subst k7;subst h7;subst k8;subst h8;subst h9
 kernel_rfl
theorem qm x:shl .i64 x 16=zA (x*65536):=rfl
theorem vKo q0 q1 q2 q3 (h : decide (q3 ≥ 32768) = false) : ((CA 1000 1000 4 [q0,q1,q2,q3,0,0,0,0,0]).bind fun z1=>
 match z1 with
 | .inl z2 => bif zC 3 z2.length then (bif decide ((z2.getD 3 0)≥32768) then some ((0:Int),false)
   else bif zC 3 z2.length then (bif zC 2 z2.length then (bif zC 1 z2.length then (bif zC 0 z2.length then some ((fe .i64 (fe .i64 (fe .i64 (shl .i64 (z2.getD 3 0) 48) (shl .i64 (z2.getD 2 0) 32)) (shl .i64 (z2.getD 1 0) 16)) (z2.getD 0 0)),true)
      else none)
     else none)
    else none)
   else none)
  else none
 |.inr z3=>some (z3.1,z3.2))=some (fe .i64 (fe .i64 (fe .i64 (shl .i64 q3 48) (shl .i64 q2 32)) (shl .i64 q1 16)) q0,true):=by
  have e:CA 1000 1000 4 [q0,q1,q2,q3,0,0,0,0,0]=some (.inl [q0,q1,q2,q3,0,0,0,0,0]):=by rfl
  rw[e];simp only[ak];have e3:([q0,q1,q2,q3,0,0,0,0,0]:AC).getD 3 0=q3:=rfl;rw[e3,h];rfl
theorem vDm {q0 q1 q2 q3}(h0:0≤q0∧q0<65536)(h1:0≤q1∧q1<65536)(h2:0≤q2∧q2<65536)(h3:0≤q3∧q3<32768):
  fe .i64 (fe .i64 (fe .i64 (shl .i64 q3 48) (shl .i64 q2 32)) (shl .i64 q1 16)) q0=q0+65536*(q1+65536*(q2+65536*q3)):=by
 have s3:shl .i64 q3 48=zA (q3*281474976710656):=rfl;have s2:shl .i64 q2 32=zA (q2*4294967296):=rfl;have s1:shl .i64 q1 16=zA (q1*65536):=rfl;rw[s3,s2,s1,zN (x:=q3*281474976710656) (by omega) (by omega),zN (x:=q2*4294967296) (by omega) (by omega),zN (x:=q1*65536) (by omega) (by omega)];have b1:=Re 48 (by decide) (x:=q3) (y:=q2*4294967296) h3.1 (by omega) (by omega);have p48:(2:Int)^48=281474976710656:=rfl;rw[p48] at b1;have b2:=Re 32 (by decide) (x:=q3*65536+q2) (y:=q1*65536) (by omega) (by omega) (by omega);have p32:(2:Int)^32=4294967296:=rfl;rw[p32] at b2;have b3:=Re 16 (by decide) (x:=(q3*65536+q2)*65536+q1) (y:=q0) (by omega) (by omega) (by omega);grind
theorem vJb {l0 l1 l2 l3 l4 l5 l6 l7 l8}(g0:0≤l0∧l0<65536)(g1:0≤l1∧l1<65536)(g2:0≤l2∧l2<65536)(g3:0≤l3∧l3<65536)(g4:0≤l4∧l4<65536)(g5:0≤l5∧l5<65536)(g6:0≤l6∧l6<65536)(g7:0≤l7∧l7<65536)(g8:0≤l8∧l8≤0)(hV:V9 l0 l1 l2 l3 l4 l5 l6 l7 l8/10000≤1152921504606846976):Le 1000 [l0,l1,l2,l3,l4,l5,l6,l7,l8] 10000=some (V9 l0 l1 l2 l3 l4 l5 l6 l7 l8/10000,true):=by
  obtain⟨r9,h9⟩:∃r:Int,r=0:=⟨_,rfl⟩;obtain⟨x8,hx8⟩:∃x,x=r9*65536+l8:=⟨_,rfl⟩;obtain⟨r8,hr8⟩:∃r,r=x8%10000:=⟨_,rfl⟩;obtain⟨q8,hq8⟩:∃q,q=x8/10000:=⟨_,rfl⟩;have v8:x8=10000*q8+r8∧0≤r8∧r8<10000∧0≤x8∧x8<655360000:=by omega
  have h8:x8=zA (shl .i64 r9 16+l8):=by rw[qm,zN (x:=r9*65536) (by omega) (by omega),←hx8,zN (by omega) (by omega)]
  have k8:r8=Int.tmod x8 10000:=by rw[Int.tmod_eq_emod_of_nonneg (by omega)];exact hr8
  have t8:zA (Int.tdiv x8 10000)=q8:=by rw[Int.tdiv_eq_ediv_of_nonneg (by omega),←hq8,zN (by omega) (by omega)]
  obtain⟨x7,hx7⟩:∃x,x=r8*65536+l7:=⟨_,rfl⟩;obtain⟨r7,hr7⟩:∃r,r=x7%10000:=⟨_,rfl⟩;obtain⟨q7,hq7⟩:∃q,q=x7/10000:=⟨_,rfl⟩;have v7:x7=10000*q7+r7∧0≤r7∧r7<10000∧0≤x7∧x7<655360000:=by omega
  have h7:x7=zA (shl .i64 r8 16+l7):=by rw[qm,zN (x:=r8*65536) (by omega) (by omega),←hx7,zN (by omega) (by omega)]
  have k7:r7=Int.tmod x7 10000:=by rw[Int.tmod_eq_emod_of_nonneg (by omega)];exact hr7
  have t7:zA (Int.tdiv x7 10000)=q7:=by rw[Int.tdiv_eq_ediv_of_nonneg (by omega),←hq7,zN (by omega) (by omega)]
  obtain⟨x6,JI⟩:∃x,x=r7*65536+l6:=⟨_,rfl⟩;obtain⟨r6,hr6⟩:∃r,r=x6%10000:=⟨_,rfl⟩;obtain⟨q6,hq6⟩:∃q,q=x6/10000:=⟨_,rfl⟩;have v6:x6=10000*q6+r6∧0≤r6∧r6<10000∧0≤x6∧x6<655360000:=by omega
  have h6:x6=zA (shl .i64 r7 16+l6):=by rw[qm,zN (x:=r7*65536) (by omega) (by omega),←JI,zN (by omega) (by omega)]
  have k6:r6=Int.tmod x6 10000:=by rw[Int.tmod_eq_emod_of_nonneg (by omega)];exact hr6
  have t6:zA (Int.tdiv x6 10000)=q6:=by rw[Int.tdiv_eq_ediv_of_nonneg (by omega),←hq6,zN (by omega) (by omega)]
  obtain⟨x5,hx5⟩:∃x,x=r6*65536+l5:=⟨_,rfl⟩;obtain⟨r5,hr5⟩:∃r,r=x5%10000:=⟨_,rfl⟩;obtain⟨q5,hq5⟩:∃q,q=x5/10000:=⟨_,rfl⟩;have v5:x5=10000*q5+r5∧0≤r5∧r5<10000∧0≤x5∧x5<655360000:=by omega
  have h5:x5=zA (shl .i64 r6 16+l5):=by rw[qm,zN (x:=r6*65536) (by omega) (by omega),←hx5,zN (by omega) (by omega)]
  have k5:r5=Int.tmod x5 10000:=by rw[Int.tmod_eq_emod_of_nonneg (by omega)];exact hr5
  have t5:zA (Int.tdiv x5 10000)=q5:=by rw[Int.tdiv_eq_ediv_of_nonneg (by omega),←hq5,zN (by omega) (by omega)]
  obtain⟨x4,hx4⟩:∃x,x=r5*65536+l4:=⟨_,rfl⟩;obtain⟨r4,hr4⟩:∃r,r=x4%10000:=⟨_,rfl⟩;obtain⟨q4,hq4⟩:∃q,q=x4/10000:=⟨_,rfl⟩;have v4:x4=10000*q4+r4∧0≤r4∧r4<10000∧0≤x4∧x4<655360000:=by omega
  have h4:x4=zA (shl .i64 r5 16+l4):=by rw[qm,zN (x:=r5*65536) (by omega) (by omega),←hx4,zN (by omega) (by omega)]
  have k4:r4=Int.tmod x4 10000:=by rw[Int.tmod_eq_emod_of_nonneg (by omega)];exact hr4
  have t4:zA (Int.tdiv x4 10000)=q4:=by rw[Int.tdiv_eq_ediv_of_nonneg (by omega),←hq4,zN (by omega) (by omega)]
  obtain⟨x3,Rf⟩:∃x,x=r4*65536+l3:=⟨_,rfl⟩;obtain⟨r3,hr3⟩:∃r,r=x3%10000:=⟨_,rfl⟩;obtain⟨q3,hq3⟩:∃q,q=x3/10000:=⟨_,rfl⟩;have v3:x3=10000*q3+r3∧0≤r3∧r3<10000∧0≤x3∧x3<655360000:=by omega
  have h3:x3=zA (shl .i64 r4 16+l3):=by rw[qm,zN (x:=r4*65536) (by omega) (by omega),←Rf,zN (by omega) (by omega)]
  have k3:r3=Int.tmod x3 10000:=by rw[Int.tmod_eq_emod_of_nonneg (by omega)];exact hr3
  have t3:zA (Int.tdiv x3 10000)=q3:=by rw[Int.tdiv_eq_ediv_of_nonneg (by omega),←hq3,zN (by omega) (by omega)]
  obtain⟨x2,zh⟩:∃x,x=r3*65536+l2:=⟨_,rfl⟩;obtain⟨r2,nN⟩:∃r,r=x2%10000:=⟨_,rfl⟩;obtain⟨q2,hq2⟩:∃q,q=x2/10000:=⟨_,rfl⟩;have v2:x2=10000*q2+r2∧0≤r2∧r2<10000∧0≤x2∧x2<655360000:=by omega
  have h2:x2=zA (shl .i64 r3 16+l2):=by rw[qm,zN (x:=r3*65536) (by omega) (by omega),←zh,zN (by omega) (by omega)]
  have k2:r2=Int.tmod x2 10000:=by rw[Int.tmod_eq_emod_of_nonneg (by omega)];exact nN
  have t2:zA (Int.tdiv x2 10000)=q2:=by rw[Int.tdiv_eq_ediv_of_nonneg (by omega),←hq2,zN (by omega) (by omega)]
  obtain⟨x1,cR⟩:∃x,x=r2*65536+l1:=⟨_,rfl⟩;obtain⟨r1,se⟩:∃r,r=x1%10000:=⟨_,rfl⟩;obtain⟨q1,hq1⟩:∃q,q=x1/10000:=⟨_,rfl⟩;have v1:x1=10000*q1+r1∧0≤r1∧r1<10000∧0≤x1∧x1<655360000:=by omega
  have h1:x1=zA (shl .i64 r2 16+l1):=by rw[qm,zN (x:=r2*65536) (by omega) (by omega),←cR,zN (by omega) (by omega)]
  have k1:r1=Int.tmod x1 10000:=by rw[Int.tmod_eq_emod_of_nonneg (by omega)];exact se
  have t1:zA (Int.tdiv x1 10000)=q1:=by rw[Int.tdiv_eq_ediv_of_nonneg (by omega),←hq1,zN (by omega) (by omega)]
  obtain⟨x0,Rg⟩:∃x,x=r1*65536+l0:=⟨_,rfl⟩;obtain⟨r0,pt⟩:∃r,r=x0%10000:=⟨_,rfl⟩;obtain⟨q0,hq0⟩:∃q,q=x0/10000:=⟨_,rfl⟩;have v0:x0=10000*q0+r0∧0≤r0∧r0<10000∧0≤x0∧x0<655360000:=by omega
  have h0:x0=zA (shl .i64 r1 16+l0):=by rw[qm,zN (x:=r1*65536) (by omega) (by omega),←Rg,zN (by omega) (by omega)]
  have k0:r0=Int.tmod x0 10000:=by rw[Int.tmod_eq_emod_of_nonneg (by omega)];exact pt
  have t0:zA (Int.tdiv x0 10000)=q0:=by rw[Int.tdiv_eq_ediv_of_nonneg (by omega),←hq0,zN (by omega) (by omega)]
  have run:=vLo l0 l1 l2 l3 l4 l5 l6 l7 l8 h8 h7 h6 h5 h4 h3 h2 h1 h0 h9 k8 k7 k6 k5 k4 k3 k2 k1 k0;rw[t0,t1,t2,t3,t4,t5,t6,t7,t8] at run;clear h0 k0 t0 h1 k1 t1 h2 k2 t2 h3 k3 t3 h4 k4 t4 h5 k5 t5 h6 k6 t6 h7 k7 t7 h8 k8 t8;have hv:10000*V9 q0 q1 q2 q3 q4 q5 q6 q7 q8+r0=V9 l0 l1 l2 l3 l4 l5 l6 l7 l8:=by unfold V9;omega
  have hq:V9 q0 q1 q2 q3 q4 q5 q6 q7 q8=V9 l0 l1 l2 l3 l4 l5 l6 l7 l8/10000:=by omega
  rw[←hq] at hV⊢;unfold V9 at hV;have z8:q8=0:=by omega
  have z7:q7=0:=by omega
  have z6:q6=0:=by omega
  have z5:q5=0:=by omega
  have z4:q4=0:=by omega
  have z3:q3<32768:=by omega
  rw[z4,z5,z6,z7,z8] at run;have eU:Le 1000 [l0,l1,l2,l3,l4,l5,l6,l7,l8] 10000=(GY 1000 1000 10000 0 8 [l0,l1,l2,l3,l4,l5,l6,l7,l8]).bind fun z=>(CA 1000 1000 4 z).bind fun z1=>
   match z1 with
   | .inl z2 => bif zC 3 z2.length then (bif decide ((z2.getD 3 0)≥32768) then some ((0:Int),false)
     else bif zC 3 z2.length then (bif zC 2 z2.length then (bif zC 1 z2.length then (bif zC 0 z2.length then some ((fe .i64 (fe .i64 (fe .i64 (shl .i64 (z2.getD 3 0) 48) (shl .i64 (z2.getD 2 0) 32)) (shl .i64 (z2.getD 1 0) 16)) (z2.getD 0 0)),true)
        else none)
       else none)
      else none)
     else none)
    else none
   |.inr z3=>some (z3.1,z3.2):=rfl
  rw[eU,run];simp only[ak];refine(vKo q0 q1 q2 q3 (ai (by omega))).trans ?_;rw[vDm ⟨by omega,by omega⟩ ⟨by omega,by omega⟩ ⟨by omega,by omega⟩ ⟨by omega,z3⟩];unfold V9;rw[z4,z5,z6,z7,z8];exact by simp
theorem vQo (a b x0 x1 x2 x3:Int):Lf 1000 1000 b 0 [x0,x1,x2,x3] [0,0,0,0,0,0,0,0,0]=some [zA (0+zA (x0*yA .i64 (shr .i64 b 0) 65535)),zA (zA (0+zA (x0*yA .i64 (shr .i64 b 16) 65535))+zA (x1*yA .i64 (shr .i64 b 0) 65535)),zA (zA (zA (0+zA (x0*yA .i64 (shr .i64 b 32) 65535))+zA (x1*yA .i64 (shr .i64 b 16) 65535))+zA (x2*yA .i64 (shr .i64 b 0) 65535)),zA (zA (zA (zA (0+zA (x0*yA .i64 (shr .i64 b 48) 65535))+zA (x1*yA .i64 (shr .i64 b 32) 65535))+zA (x2*yA .i64 (shr .i64 b 16) 65535))+zA (x3*yA .i64 (shr .i64 b 0) 65535)),zA (zA (zA (0+zA (x1*yA .i64 (shr .i64 b 48) 65535))+zA (x2*yA .i64 (shr .i64 b 32) 65535))+zA (x3*yA .i64 (shr .i64 b 16) 65535)),zA (zA (0+zA (x2*yA .i64 (shr .i64 b 48) 65535))+zA (x3*yA .i64 (shr .i64 b 32) 65535)),zA (0+zA (x3*yA .i64 (shr .i64 b 48) 65535)),0,0]:=by kernel_rfl
theorem vHq {x0 x1 x2 x3 y0 y1 y2 y3}:(x0+65536*x1+4294967296*x2+281474976710656*x3)*(y0+65536*y1+4294967296*y2+281474976710656*y3)=V9 (x0*y0) (x0*y1+x1*y0) (x0*y2+x1*y1+x2*y0) (x0*y3+x1*y2+x2*y1+x3*y0) (x1*y3+x2*y2+x3*y1) (x2*y3+x3*y2) (x3*y3) 0 0:=by
 have row:∀x:Int,x*(y0+65536*y1+4294967296*y2+281474976710656*y3)=x*y0+65536*(x*y1)+4294967296*(x*y2)+281474976710656*(x*y3):=by grind
 rw[Int.add_mul,Int.add_mul,Int.add_mul,Int.mul_assoc,Int.mul_assoc,Int.mul_assoc,row,row,row,row];unfold V9;omega
theorem vGu {a b}(ha:0≤a∧a≤1048576)(hb:0≤b∧b≤1099511627776):∃d0 d1 d2 d3 d4 d5 d6 d7 d8,
  Lg 1000 a b=some [d0,d1,d2,d3,d4,d5,d6,d7,d8]∧V9 d0 d1 d2 d3 d4 d5 d6 d7 d8=a*b∧(0≤d0∧d0<65536)∧(0≤d1∧d1<65536)∧(0≤d2∧d2<65536)∧(0≤d3∧d3<65536)∧(0≤d4∧d4<65536)∧(0≤d5∧d5<65536)∧(0≤d6∧d6<65536)∧(0≤d7∧d7<65536)∧d8=0:=by
 obtain⟨x0,Rg⟩:∃z,z=a%65536:=⟨_,rfl⟩;have tu:0≤x0∧x0≤65535:=by omega
 obtain⟨x1,cR⟩:∃z,z=a/65536%65536:=⟨_,rfl⟩;have tv:0≤x1∧x1≤65535:=by omega
 obtain⟨x2,zh⟩:∃z,z=a/4294967296%65536:=⟨_,rfl⟩;have tw:0≤x2∧x2≤65535:=by omega
 obtain⟨x3,Rf⟩:∃z,z=a/281474976710656%65536:=⟨_,rfl⟩;have tx:0≤x3∧x3≤65535:=by omega
 obtain⟨y0,Ov⟩:∃z,z=b%65536:=⟨_,rfl⟩;have tz:0≤y0∧y0≤65535:=by omega
 obtain⟨y1,OV⟩:∃z,z=b/65536%65536:=⟨_,rfl⟩;have tA:0≤y1∧y1≤65535:=by omega
 obtain⟨y2,OW⟩:∃z,z=b/4294967296%65536:=⟨_,rfl⟩;have tB:0≤y2∧y2≤65535:=by omega
 obtain⟨y3,hy3⟩:∃z,z=b/281474976710656%65536:=⟨_,rfl⟩;have tC:0≤y3∧y3≤65535:=by omega
 have ea:a=x0+65536*x1+4294967296*x2+281474976710656*x3:=by omega
 have eb:b=y0+65536*y1+4294967296*y2+281474976710656*y3:=by omega
 have dg:Lh 1000 a=some [x0,x1,x2,x3]:=by
  unfold Lh;rw[oJ,qT6,yI7,ql,ql,ql,ql,←Rg,←cR,←zh,←Rf]
 have run:=vQo a b x0 x1 x2 x3;rw[yV8,oJ,qT6,yI7,ql,ql,ql,ql,←Ov,←OV,←OW,←hy3] at run;have yv:=vHq (x0:=x0) (x1:=x1) (x2:=x2) (x3:=x3) (y0:=y0) (y1:=y1) (y2:=y2) (y3:=y3);rw[←ea,←eb] at yv;have hm:=vK ha.1 ha.2 hb.1 hb.2;have m00:=vK tu.1 tu.2 tz.1 tz.2;have m01:=vK tu.1 tu.2 tA.1 tA.2;have m02:=vK tu.1 tu.2 tB.1 tB.2;have m03:=vK tu.1 tu.2 tC.1 tC.2;have m10:=vK tv.1 tv.2 tz.1 tz.2;have m11:=vK tv.1 tv.2 tA.1 tA.2;have m12:=vK tv.1 tv.2 tB.1 tB.2;have m13:=vK tv.1 tv.2 tC.1 tC.2;have m20:=vK tw.1 tw.2 tz.1 tz.2;have m21:=vK tw.1 tw.2 tA.1 tA.2;have m22:=vK tw.1 tw.2 tB.1 tB.2;have m23:=vK tw.1 tw.2 tC.1 tC.2;have m30:=vK tx.1 tx.2 tz.1 tz.2;have m31:=vK tx.1 tx.2 tA.1 tA.2;have m32:=vK tx.1 tx.2 tB.1 tB.2;have m33:=vK tx.1 tx.2 tC.1 tC.2;generalize x0*y0=Rh at*
 generalize x0*y1=Lj at*
 generalize x0*y2=GZ at*
 generalize x0*y3=CB at*
 generalize x1*y0=Ri at*
 generalize x1*y1=Lk at*
 generalize x1*y2=G0 at*
 generalize x1*y3=G1 at*
 generalize x2*y0=Rj at*
 generalize x2*y1=Ll at*
 generalize x2*y2=Lm at*
 generalize x2*y3=Ln at*
 generalize x3*y0=Rk at*
 generalize x3*y1=Rl at*
 generalize x3*y2=Rm at*
 generalize x3*y3=Rn at*
 rw[zN (x:=Rh) (by omega) (by omega)] at run;rw[zN (x:=Lj) (by omega) (by omega)] at run;rw[zN (x:=GZ) (by omega) (by omega)] at run;rw[zN (x:=CB) (by omega) (by omega)] at run;rw[zN (x:=Ri) (by omega) (by omega)] at run;rw[zN (x:=Lk) (by omega) (by omega)] at run;rw[zN (x:=G0) (by omega) (by omega)] at run;rw[zN (x:=G1) (by omega) (by omega)] at run;rw[zN (x:=Rj) (by omega) (by omega)] at run;rw[zN (x:=Ll) (by omega) (by omega)] at run;rw[zN (x:=Lm) (by omega) (by omega)] at run;rw[zN (x:=Ln) (by omega) (by omega)] at run;rw[zN (x:=Rk) (by omega) (by omega)] at run;rw[zN (x:=Rl) (by omega) (by omega)] at run;rw[zN (x:=Rm) (by omega) (by omega)] at run;rw[zN (x:=Rn) (by omega) (by omega)] at run;rw[zN (x:=0+Rh) (by omega) (by omega)] at run;rw[zN (x:=0+Lj) (by omega) (by omega)] at run;rw[zN (x:=0+GZ) (by omega) (by omega)] at run;rw[zN (x:=0+CB) (by omega) (by omega)] at run;rw[zN (x:=0+Lj+Ri) (by omega) (by omega)] at run;rw[zN (x:=0+GZ+Lk) (by omega) (by omega)] at run;rw[zN (x:=0+CB+G0) (by omega) (by omega)] at run;rw[zN (x:=0+G1) (by omega) (by omega)] at run;rw[zN (x:=0+GZ+Lk+Rj) (by omega) (by omega)] at run;rw[zN (x:=0+CB+G0+Ll) (by omega) (by omega)] at run;rw[zN (x:=0+G1+Lm) (by omega) (by omega)] at run;rw[zN (x:=0+Ln) (by omega) (by omega)] at run;rw[zN (x:=0+CB+G0+Ll+Rk) (by omega) (by omega)] at run;rw[zN (x:=0+G1+Lm+Rl) (by omega) (by omega)] at run;rw[zN (x:=0+Ln+Rm) (by omega) (by omega)] at run;rw[zN (x:=0+Rn) (by omega) (by omega)] at run;obtain⟨d0,d1,d2,d3,d4,d5,d6,d7,d8,c1,c2,n0,n1,n2,n3,n4,n5,n6,n7,n8⟩:=yF4 (l0:=0+Rh) (l1:=0+Lj+Ri) (l2:=0+GZ+Lk+Rj) (l3:=0+CB+G0+Ll+Rk) (l4:=0+G1+Lm+Rl) (l5:=0+Ln+Rm) (l6:=0+Rn) (l7:=0) (l8:=0) (by omega) (by omega) (by omega) (by omega) (by omega) (by omega) (by omega) (by omega) (by omega);refine⟨d0,d1,d2,d3,d4,d5,d6,d7,d8,?_,?_,n0,n1,n2,n3,n4,n5,n6,n7,?_⟩
 ·unfold Lg;rw[dg];simp only[ak];rw[run];simp only[ak];rw[c1];rfl
 ·rw[c2,yv];unfold V9;omega
 ·have:V9 d0 d1 d2 d3 d4 d5 d6 d7 d8=a*b:=by
   rw[c2,yv];unfold V9;omega
  unfold V9 at this;omega
theorem vE5 {p m c:Int}(hp:0≤p∧p≤1048576)(hm:0≤m∧m≤1099511627776)(hc:0≤c∧c≤10000):Lp 1000 p m c=some (qa p m c,true):=by
 obtain⟨d0,d1,d2,d3,d4,d5,d6,d7,d8,e1,e2,n0,n1,n2,n3,n4,n5,n6,n7,n8⟩:=vGu hp hm;have tD:=vK hp.1 hp.2 hm.1 hm.2;have hn:0≤10000-c∧10000-c≤10000:=by omega
 have wn:zA (10000-c)=10000-c:=zN (by omega) (by omega);have hw:=yGo hp hm hc;unfold qa at hw⊢;have hpn:=vK tD.1 tD.2 hn.1 hn.2;have eV:=yTo d0 d1 d2 d3 d4 d5 d6 d7 d8 (10000-c);rw[e2] at eV;unfold Lp;rw[ai (show¬p<0 by omega),ai (show¬m<0 by omega),ai (show¬c<0 by omega),ai (show¬c>10000 by omega),e1,wn];simp only[ay,ak];rw[vI5];generalize 10000-c=n at*
 have u0:=vK n0.1 (show d0≤65535 by omega) hn.1 hn.2;have u1:=vK n1.1 (show d1≤65535 by omega) hn.1 hn.2;have u2:=vK n2.1 (show d2≤65535 by omega) hn.1 hn.2;have u3:=vK n3.1 (show d3≤65535 by omega) hn.1 hn.2;have u4:=vK n4.1 (show d4≤65535 by omega) hn.1 hn.2;have u5:=vK n5.1 (show d5≤65535 by omega) hn.1 hn.2;have u6:=vK n6.1 (show d6≤65535 by omega) hn.1 hn.2;have u7:=vK n7.1 (show d7≤65535 by omega) hn.1 hn.2;have u8:0≤d8*n∧d8*n≤0:=by rw[n8,Int.zero_mul];omega
 generalize d0*n=t0 at*
 generalize d1*n=t1 at*
 generalize d2*n=t2 at*
 generalize d3*n=t3 at*
 generalize d4*n=t4 at*
 generalize d5*n=t5 at*
 generalize d6*n=t6 at*
 generalize d7*n=t7 at*
 generalize d8*n=t8 at*
 rw[zN (x:=t0) (by omega) (by omega),zN (x:=t1) (by omega) (by omega),zN (x:=t2) (by omega) (by omega),zN (x:=t3) (by omega) (by omega),zN (x:=t4) (by omega) (by omega),zN (x:=t5) (by omega) (by omega),zN (x:=t6) (by omega) (by omega),zN (x:=t7) (by omega) (by omega),zN (x:=t8) (by omega) (by omega)];obtain⟨e0,e1,e2,e3,e4,e5,e6,e7,e8,f1,f2,k0,k1,k2,k3,k4,k5,k6,k7,k8⟩:=yF4 (l0:=t0) (l1:=t1) (l2:=t2) (l3:=t3) (l4:=t4) (l5:=t5) (l6:=t6) (l7:=t7) (l8:=t8) (by omega) (by omega) (by omega) (by omega) (by omega) (by omega) (by omega) (by omega) (by omega);rw[f1];simp only[ak];rw[←eV] at f2;have z8:e8≤0:=by unfold V9 at f2;omega
 rw[vJb k0 k1 k2 k3 k4 k5 k6 k7 ⟨k8,z8⟩ (by rw[f2];exact hw.2),f2];rfl
theorem Ro k x y:CC k x.1 x.2.1 x.2.2.1 x.2.2.2.1 x.2.2.2.2.1 x.2.2.2.2.2.1 x.2.2.2.2.2.2 y.1 y.2.1 y.2.2.1 y.2.2.2.1 y.2.2.2.2.1 y.2.2.2.2.2.1 y.2.2.2.2.2.2=some (vV x y):=by
 unfold CC vV;grind
theorem yWj k {a b}(ha:0≤a∧a≤4611686018427387904)(hb:0≤b∧b≤1152921504606846976):CD k a b=some (a+b,true):=by
 unfold CD;rw[zN (x:=a+b) (by omega) (by omega),zN (x:=9223372036854775807-b) (by omega) (by omega),ai (show¬a>9223372036854775807-b by omega),ai (show¬b<0 by omega)];simp
theorem Rp {sa pr h}(L:gM sa pr h):tE 1000 sa pr h=some (gL sa pr h,true):=by
 have h3:=L.n3;obtain ⟨s', g1, g2⟩ := yZ (L := fun n i (v : Int) => G2 1000 n sa pr h v i) (N := sa.length) (fun v => (.inl v : Int ⊕ Int × Bool)) (fun i v => v = qE (lx sa pr h) i) (fun n v _=>by
  show CE 1000 _ sa pr h v (sa.length:Int)=_;unfold CE;simp) (fun n i v hi hv=>by
  refine⟨v+lx sa pr h i,?_,by rw[hv];rfl⟩;show CE 1000 (G2 1000 n) sa pr h v (i:Int)=_;unfold CE;have hw:=Gx L hi;have hb:=KP (g:=lx sa pr h) (n:=i) (fun j hj=>Gx L (by omega));have ed:sa.getD i (0,0)=sa.getD i fK:=rfl;rw[ag (by grind),zV,zV,zV,ag hi,ag (show i<pr.length by rw[L.pl];exact hi),ag (show i<h.length by rw[L.hl];exact hi),aC,ed,vE5 (L.price i hi) (L.hold i hi) (L.cut i hi)];simp only[ak];have e:qa (pr.getD i 0) (h.getD i 0) (sa.getD i fK).2=lx sa pr h i:=rfl;rw[e,yWj _ (by omega) hw,qD hi (by omega)];rfl) (n:=1000) (s:=0) (by omega) rfl
 unfold tE;rw[ag (show(pr.length:Int)=(sa.length:Int) by rw[L.pl]),ag (show(h.length:Int)=(sa.length:Int) by rw[L.hl]),g1,g2];rfl
theorem j6 {α:Type}{d}(l:List α){i} h:l.getD i d=l[i]:=by
 simp_all
theorem G3 {X:Type}{L:Nat→Int→Option X}{N:Nat}{e}(bH:∀n,L (n+1) (N:Int)=some e)(aH:∀n i,i<N→L (n+1) (i:Int)=L n ((i+1:Nat):Int)){n}(hn:N<n):L n 0=some e:=by
 obtain⟨_,h,_⟩:=yZ (L:=fun n i (_:Unit)=>L n i) (N:=N) (fun _=>e) (fun _ _=>True) (by grind) (fun n i _ hi _=>⟨(),by grind,trivial⟩) (n:=n) (s:=()) hn trivial;exact h
theorem qn {k l}(hk:l.length<k)(hl:qN l) id:ly k l id=some (fJ l id):=by
 unfold qN at hl;unfold ly;rw[Gj hk (by omega)];unfold eN fJ;cases hp:vE l id with
 |none=>rfl
 |some x=>
  have hx:=(iy hp).1;have e1:decide ((x:Int)<0)=false:=ai (by omega);have e2:decide ((0:Int)≤(x:Int))=true:=by simp
  have e3:decide ((x:Int)≤(l.length:Int))=true:=ag (by omega);have e4:decide ((0:Int)≤((x+1:Nat):Int))=true:=ag (by omega);have e5:decide (((x+1:Nat):Int)≤(l.length:Int))=true:=ag (by omega);have l1:=List.length_take_le x l;have l2:(l.drop (x+1)).length≤l.length:=by rw[List.length_drop];omega
  have e6:zR (0+(l.take x).length) 56=true:=qT (by omega) (by omega);have e7:zR ((l.take x).length+(l.drop (x+1)).length) 56=true:=qT (by omega) (by omega);simp only[ak,e3,e5,qD hx (show l.length<9223372036854775808 by omega),zV,ag hx,aC,e6,e7];rfl
theorem vD8 (q p:zG):gK q p= !vV p q:=by
 unfold gK vV;rcases Int.lt_trichotomy q.2.1 p.2.1 with h|h|h
 ·have h1:¬p.2.1<q.2.1:=by omega
  have h2:¬p.2.1=q.2.1:=by omega
  simp[h,h1,h2]
 ·rcases Int.lt_trichotomy q.2.2.2.2.1 p.2.2.2.2.1 with g|g|g
  ·have g1:¬p.2.2.2.2.1≤q.2.2.2.2.1:=by omega
   simp[h,g,g1]
  ·simp[h,g]
  ·have g1:¬q.2.2.2.2.1<p.2.2.2.2.1:=by omega
   have g2:p.2.2.2.2.1≤q.2.2.2.2.1:=by omega
   simp[h,g1,g2]
 ·have h1:¬q.2.1<p.2.1:=by omega
  have h2:¬q.2.1=p.2.1:=by omega
  simp[h,h1,h2]
theorem Lq {k}{l:List zG}(hl:l.length≤1000){x}(hx:x≤l.length) y:xe k l x y.1 y.2.1 y.2.2.1 y.2.2.2.1 y.2.2.2.2.1 y.2.2.2.2.2.1 y.2.2.2.2.2.2=some (l.take x++(y::l.drop x)):=by
 unfold xe;have e1:(decide (0≤(x:Int))&&decide ((x:Int)≤((l.length:Nat):Int)))=true:=by simp_all
 have e2:zR (0+(l.take x).length) 56=true:=qT (by grind) (by grind);have e3:zR ((l.take x).length+1) 56=true:=qT (by grind) (by grind);rw[e1,aC,e2,e3];have e4:zR ((l.take x++[(y.1,(y.2.1,(y.2.2.1,(y.2.2.2.1,(y.2.2.2.2.1,(y.2.2.2.2.2.1,y.2.2.2.2.2.2))))))]).length+(l.drop x).length) 56=true:=qT (by grind) (by grind);grind
theorem Rq {k}{l:List zG}(hk:l.length<k)(hl:l.length≤1000) y:CF k l y.1 y.2.1 y.2.2.1 y.2.2.2.1 y.2.2.2.2.1 y.2.2.2.2.2.1 y.2.2.2.2.2.2=some (((l.takeWhile (fun q=>vV q y)).length:Nat):Int):=by
 have := BF (L := fun n i => CG k n l i y.1 y.2.1 y.2.2.1 y.2.2.2.1 y.2.2.2.2.1 y.2.2.2.2.2.1 y.2.2.2.2.2.2) (N := l.length) (fun x => vV (l.getD x pd) y) (fun i => (i : Int)) (fun n=>by
  show CH k _ l l.length _ _ _ _ _ _ _=_;unfold CH;simp) (fun n i hi=>by
  show CH k _ l i _ _ _ _ _ _ _=_;unfold CH;have h1:=Ro k (l.getD i pd) y;simp only[zV,qM,aC,ag hi,av,h1,ak,qD hi (by grind)]
  ) l.length 0 k (by omega) hk
 have e:((0:Nat):Int)=0:=rfl;unfold CF;have h':CG k k l 0 y.1 y.2.1 y.2.2.1 y.2.2.2.1 y.2.2.2.2.1 y.2.2.2.2.2.1 y.2.2.2.2.2.2=_:=this;rw[h',BG (fun q=>vV q y) l pd l.length 0 (by omega),List.drop_zero,Nat.zero_add];rfl
theorem yU8 {k:Nat}{l:List zG}(hk:l.length<k)(hl:l.length≤1000)(p:zG):
  xf k l p.1 p.2.1 p.2.2.1 p.2.2.2.1 p.2.2.2.2.1 p.2.2.2.2.2.1 p.2.2.2.2.2.2=some (bif (vE l p.1).isSome then(l,6) else bif decide (40≤l.length) then(l,3) else(me l p,0)):=by
 unfold xf;rw[Gj hk (by omega)];unfold eN;cases hp:vE l p.1 with
 |some x=>
  have e1:decide ((x:Int)≥0)=true:=ag (by omega);simp only[ak,e1,av,Option.isSome_some]
 |none=>
  have e1:decide ((-1:Int)≥0)=false:=rfl;simp only[ak,e1,ay,Option.isSome_none];by_cases h:40≤l.length
  ·rw[ag h,ag (show(l.length:Int)≥40 by omega)];rfl
  ·rw[ai h,ai (show¬(l.length:Int)≥40 by omega)];simp only[ay];rw[Rq hk hl p];simp only[ak];rw[Lq hl (wu _ l) p,(lv _ l).1,(lv _ l).2];rfl
theorem yTu {k l}(bI:l.length<k)(hl:qN l){id x}(hx:vE l id=some x) c:
  G4 k l id c=some (me (qV l x) ((l.getD x pd).1,(l.getD x pd).2.1,(l.getD x pd).2.2.1,(l.getD x pd).2.2.2.1,c,(l.getD x pd).2.2.2.2.2.1,(l.getD x pd).2.2.2.2.2.2),0):=by
 have cR:=iy hx;have hlen:=lu cR.1;have dr:=hl;unfold qN at dr;unfold G4;rw[qn bI hl];unfold fJ;rw[hx];simp only[ak];have h1:=Rq (k:=k) (l:=qV l x) (by omega) (by omega) ((l.getD x pd).1,(l.getD x pd).2.1,(l.getD x pd).2.2.1,(l.getD x pd).2.2.2.1,c,(l.getD x pd).2.2.2.2.2.1,(l.getD x pd).2.2.2.2.2.2);rw[h1];simp only[ak];have h2:=Lq (k:=k) (l:=qV l x) (by omega) (wu (fun q=>vV q ((l.getD x pd).1,(l.getD x pd).2.1,(l.getD x pd).2.2.1,(l.getD x pd).2.2.2.1,c,(l.getD x pd).2.2.2.2.2.1,(l.getD x pd).2.2.2.2.2.2)) (qV l x)) ((l.getD x pd).1,(l.getD x pd).2.1,(l.getD x pd).2.2.1,(l.getD x pd).2.2.2.1,c,(l.getD x pd).2.2.2.2.2.1,(l.getD x pd).2.2.2.2.2.2);rw[h2,(lv _ (qV l x)).1,(lv _ (qV l x)).2];rfl
theorem yWi {k l}(bI:l.length<k)(hl:qN l){id x}(hx:vE l id=some x):
  G5 k l id=some (me (qV l x) (l.getD x pd),0):=by
 have cR:=iy hx;have hlen:=lu cR.1;have dr:=hl;unfold qN at dr;unfold G5;rw[qn bI hl];unfold fJ;rw[hx];simp only[ak];rw[Rq (k:=k) (l:=qV l x) (by omega) (by omega) (l.getD x pd)];simp only[ak];rw[Lq (k:=k) (l:=qV l x) (by omega) (wu (fun q=>vV q (l.getD x pd)) (qV l x)) (l.getD x pd),(lv _ (qV l x)).1,(lv _ (qV l x)).2];rfl
theorem vJh {k l}(bI:l.length<k)(hl:qN l){id x}(hx:vE l id=some x):
  G6 k l id=some (Gp (qV l x) (l.getD x pd),0):=by
 have cR:=iy hx;have hlen:=lu cR.1;have dr:=hl;unfold qN at dr;have G7:∀(l:List zG),l.length<k→l.length≤1000→∀p:zG,G8 k k l 0 p=some (l,(((l.takeWhile (fun q=>gK q p)).length:Nat):Int),p):=by
  intro l bI hl p;have := BF (L := fun n i => G8 k n l i p) (N := l.length) (fun x => gK (l.getD x pd) p) (fun i => (l, (i : Int), p)) (fun n=>by
   show CI k _ l l.length p=_;unfold CI;simp) (fun n i hi=>by
   show CI k _ l i p=_;unfold CI;have h1:=Ro k p (l.getD i pd);simp only[zV,qM,aC,ag hi,h1,qD hi (by grind),vD8];rfl) l.length 0 k (by omega) bI
  have e:((0:Nat):Int)=0:=rfl;rw[e] at this;rw[this,BG (fun q=>gK q p) l pd l.length 0 (by omega),List.drop_zero,Nat.zero_add]
 unfold G6;rw[qn bI hl];unfold fJ;rw[hx];have h1:=G7 (qV l x) (by omega) (by omega) (l.getD x pd);refine(congrArg (fun z=>Option.bind z _) h1).trans ?_;simp only[ak];rw[Lq (k:=k) (l:=qV l x) (by omega) (wu (fun q=>gK q (l.getD x pd)) (qV l x)) (l.getD x pd),(lv _ (qV l x)).1,(lv _ (qV l x)).2];rfl
theorem vGw {k:Nat}{l:AC}(hk:l.length<k)(hl:l.length≤1000)(id:Int):xg k l id=some (decide (id∈l)):=by
 have := jO (L := fun n i => oK k n l id i) (N := l.length) (fun i => !decide (l.getD i 0 = id)) (.inl ()) (.inr true) (fun n=>by
  show oL k _ l id l.length=_;unfold oL;rw [ai (Int.lt_irrefl _)]; rfl) (fun n i hi=>by
  show oL k (oK k n) l id i=_;unfold oL;rw[ag (show(i:Int)<l.length by omega),zV,ag hi,aC,qD hi (by omega)];cases decide (l.getD i 0=id)<;>rfl) hk
 unfold xg;have h':oK k k l id 0=_:=this;rw[h'];have e:qA (fun i=> !decide (l.getD i 0=id)) l.length 0= !decide (id∈l):=by
  by_cases hm:id∈l
  ·rw[ag hm];cases ha:qA (fun i=> !decide (l.getD i 0=id)) l.length 0 with
   |false=>rfl
   |true=>
    obtain⟨i,hi,e⟩:=List.getElem_of_mem hm;have:=wI.1 ha i hi;rw[j6 l hi,e] at this;simp at this
  ·rw[ai hm];refine wI.2 fun i hi=>?_
   rw[ai (show¬l.getD i 0=id from fun e=>hm (by rw[←e];exact jU hi))];rfl
 rw[e];cases decide (id∈l)<;>rfl
theorem vGc {k:Nat}{l:AC}(hk:l.length<k)(hl:l.length≤1000)(id:Int):
  xh k l id=some (bif decide (id∈l) then(l,6) else bif decide (200≤l.length) then(l,3) else(ng l id,0)):=by
 unfold xh;rw[vGw hk hl];simp only[ak];by_cases hm:id∈l
 ·rw[ag hm];rfl
 ·rw[ai hm];simp only[ay];by_cases h:200≤l.length
  ·rw[ag h,ag (show(l.length:Int)≥200 by omega)];rfl
  ·rw[ai h,ai (show¬(l.length:Int)≥200 by omega)];have := BF (L := fun n i => G9 k n l id i) (N := l.length) (fun x => decide (l.getD x 0 < id)) (fun i => (l, id, (i : Int))) (fun n=>by
    show CJ k _ l id l.length=_;unfold CJ;simp only [qM, ai (Nat.lt_irrefl _), ay]) (fun n i hi=>by
    show CJ k _ l id i=_;unfold CJ;simp only[zV,qM,aC,ag hi,av,qD hi (show l.length<9223372036854775808 by omega)];rfl) l.length 0 k (by omega) hk
   have e:((0:Nat):Int)=0:=rfl;rw[e,BG (fun x=>decide (x<id)) l 0 l.length 0 (by omega),List.drop_zero,Nat.zero_add] at this;have h':G9 k k l id 0=_:=this;simp only[ay];rw[h'];have hn:=wu (fun x=>decide (x<id)) l;obtain⟨t1,t2⟩:=lv (fun x=>decide (x<id)) l;have e1:(decide (0≤(((l.takeWhile (fun x=>decide (x<id))).length:Nat):Int))&&decide ((((l.takeWhile (fun x=>decide (x<id))).length:Nat):Int)≤((l.length:Nat):Int)))=true:=by simp;exact hn
   have hd:=(List.dropWhile_sublist (fun x=>decide (x<id)) (l:=l)).length_le;simp only[ak,e1,av,aC,t1,t2];rw[qT (n:=0+(l.takeWhile (fun x=>decide (x<id))).length) (by omega) (by omega),qT (n:=(l.takeWhile (fun x=>decide (x<id))).length+1) (by omega) (by omega),qT (n:=(l.takeWhile (fun x=>decide (x<id))++[id]).length+(l.dropWhile (fun x=>decide (x<id))).length) (by rw[List.length_append];simp;omega) (by rw[List.length_append];simp;omega)];simp only[av];unfold ng;simp
abbrev vCq:=Int×List mg×Int×Int×Int×Int×List qQ×wH×AC×wH×AC×wH×List zG×AC×Int×Bool×Int
def eQ (r:qS)(s:qG)(who:Int):vCq:=(r.1,r.2.1,r.2.2.1,r.2.2.2.1,r.2.2.2.2,s.t,s.B.1,s.B.2.1,s.B.2.2.1,s.B.2.2.2,s.pr,s.ho,s.m,s.ids,s.to,s.ov,who)
def Lr (s:qG)(i:Nat)(a:qQ)(to:Int):qG:={s with B:=(s.B.1.set i a,s.B.2.1,s.B.2.2.1,s.B.2.2.2),to:=to}
def Ha (s:qG)(i:Nat)(n:Int):Int×qG:=
 bif decide ((s.B.1.getD i ad).1+(s.B.1.getD i ad).2.1-(s.B.1.getD i ad).2.2<n) then(9,s)
 else bif decide (s.to-n<0) then(9,s)
 else bif !decide ((wR (s.B.1.getD i ad) (-n)).2=0) then((wR (s.B.1.getD i ad) (-n)).2,s)
 else bif decide (s.to-n>1152921504606846976) then(8,s)
 else(0,Lr s i (wR (s.B.1.getD i ad) (-n)).1 (s.to-n))
def Hb (s:qG)(i:Nat)(n:Int):Int×qG:=
 bif !decide ((wR (s.B.1.getD i ad) n).2=0) then((wR (s.B.1.getD i ad) n).2,s)
 else bif decide (s.to+n>1152921504606846976) then(8,s)
 else(0,Lr s i (wR (s.B.1.getD i ad) n).1 (s.to+n))
def iF (r:qS)(s:qG)(kd to n:Int):Int×qG:=
 bif !(decide (to≥0)&&decide (to≤r.1-1)) then(1,s)
 else bif !(decide (n≥1)&&decide (n≤1099511627776)) then(1,s)
 else bif decide (kd=11) then Ha s to.toNat n else Hb s to.toNat n
theorem vA2 {k}(hk:1000≤k){r}(hr:wV r){s}(h:yO r s) who kd to n:
    ∃d,CK k (eQ r s who) kd to n=some ((iF r s kd to n).1,d)∧((iF r s kd to n).1=0→d=dk r (iF r s kd to n).2 who []):=by
  have hp:=hr.pa;have hn:=h.n;have ht:=h.tot;have w1:zA (r.1-1)=r.1-1:=zN (by omega) (by omega);have eD:CK k (eQ r s who) kd to n=(yW k to 0 (zA (r.1-1))).bind fun x0=>
    bif !x0 then some (1,dk r s who [])
    else(yW k n 1 1099511627776).bind fun x1=>
    bif !x1 then some (1,dk r s who [])
    else bif zC to s.B.1.length then ((CL k (s.B.1.getD to.toNat (0,0,0)) n).bind fun x2=>
      bif decide (kd = 11) then ((CM k (s.B.1.getD to.toNat (0,0,0)) n 3).bind fun x3=>
       (CN k (s.B.1.getD to.toNat (0,0,0)) 3).bind fun x4=>
       bif decide (x4<n) then some (9,dk r s who [])
       else bif decide ((zA (s.to-n))<0) then some (9,dk r s who [])
       else bif !(decide (x3.2=0)) then some (x3.2,dk r s who [])
       else bif decide ((zA (s.to-n))>1152921504606846976) then some (8,dk r s who [])
       else(jW k s.B.1 s.B.2.1 s.B.2.2.1 s.B.2.2.2).bind fun x5=>
       bif zC to x5.1.length then some (0,dk r {s with B:=(x5.1.set to.toNat x3.1,x5.2.1,x5.2.2.1,x5.2.2.2),to:=zA (s.to-n)} who [])
       else none)
      else bif !(decide (x2.2=0)) then some (x2.2,dk r s who [])
      else bif decide ((zA (s.to+n))>1152921504606846976) then some (8,dk r s who [])
      else(jW k s.B.1 s.B.2.1 s.B.2.2.1 s.B.2.2.2).bind fun x6=>
      bif zC to x6.1.length then some (0,dk r {s with B:=(x6.1.set to.toNat x2.1,x6.2.1,x6.2.2.1,x6.2.2.2),to:=zA (s.to+n)} who [])
      else none)
    else none:=rfl
  rw[eD,w1,kI,kI,FJ (by omega) h.bk.toSized];simp only[ak];unfold iF;cases hc:decide (to≥0)&&decide (to≤r.1-1) with
  |false=>exact by simp
  |true=>
  simp only[bJ,bO] at hc;cases hm:decide (n≥1)&&decide (n≤1099511627776) with
  |false=>exact by simp
  |true=>
  simp only[bJ,bO] at hm;obtain⟨i,rfl⟩:=Int.eq_ofNat_of_zero_le hc.1;have hi:i<s.B.1.length:=by omega
  have hb:=h.bk.nums.bal i hi;have iq:=h.bk.nums.res i hi;have hcr:=h.most i hi;have Rr:0≤(s.B.1.getD i ad).2.1:=by rw[h.cred i hi];exact BU (h.laid i hi)
  have b0:zC (i:Int) s.B.1.length=true:=by rw[zV,ag hi]
  have Hc:CL k (s.B.1.getD i (0,0,0)) n=some (wR (s.B.1.getD i ad) n):=by
    unfold CL;rw[yAg hb (by omega)];rfl
  have Hd:CM k (s.B.1.getD i (0,0,0)) n 3=some (wR (s.B.1.getD i ad) (-n)):=by
    unfold CM;rw[show zA (0-n)= -n by rw[zN (by omega) (by omega)];omega,yAg hb (by omega)];simp
  have tF:CN k (s.B.1.getD i (0,0,0)) 3=some ((s.B.1.getD i ad).1+(s.B.1.getD i ad).2.1-(s.B.1.getD i ad).2.2):=by
    unfold CN;have d1:decide ((3:Int)=3)=true:=rfl;rw[d1,av];have q1:zA ((s.B.1.getD i (0,0,0)).1+(s.B.1.getD i (0,0,0)).2.1)=(s.B.1.getD i ad).1+(s.B.1.getD i ad).2.1:=zN (by simp only[ad] at*;omega) (by simp only[ad] at*;omega);rw[q1];exact congrArg some (zN (by simp only[ad] at*;omega) (by simp only[ad] at*;omega))
  have q2:zA (s.to-n)=s.to-n:=zN (by omega) (by omega);have q3:zA (s.to+n)=s.to+n:=zN (by omega) (by omega);simp only[bG,ay,b0,av,aC,Hc,Hd,tF,ak,q2,q3];clear Hc Hd tF eD;cases decide (kd=11) with
  |true=>
    simp only[av];unfold Ha;cases decide ((s.B.1.getD i ad).1+(s.B.1.getD i ad).2.1-(s.B.1.getD i ad).2.2<n) with
    |true=>exact by simp
    |false=>
    cases decide (s.to-n<0) with
    |true=>exact by simp
    |false=>
    cases hz:decide ((wR (s.B.1.getD i ad) (-n)).2=0) with
    |false=>exact by simp
    |true=>
    cases decide (s.to-n>1152921504606846976) with
    |true=>exact by simp
    |false=>exact⟨_,rfl,fun _=>rfl⟩
  |false=>
    simp only[ay];unfold Hb;cases hz:decide ((wR (s.B.1.getD i ad) n).2=0) with
    |false=>exact by simp
    |true=>
    cases decide (s.to+n>1152921504606846976) with
    |true=>exact by simp
    |false=>exact⟨_,rfl,fun _=>rfl⟩
def jX (sa:List mg)(pr:AC)(ho:wH)(j:Nat):Int:=gL sa pr (ho.getD j [])
def qo (sa:List mg)(pr:AC)(ho:wH)(a:List qQ):List qQ:=(List.range a.length).map fun j=>((a.getD j ad).1,jX sa pr ho j,(a.getD j ad).2.2)
def CO (r:qS)(s:qG)(pr:AC):Int×qG:=
 bif qA (fun j=> !decide (jX r.2.1 pr s.ho j>1152921504606846976)) s.B.1.length 0 then(0,{s with B:=(qo r.2.1 pr s.ho s.B.1,s.B.2.1,s.B.2.2.1,s.B.2.2.2),pr:=pr}) else(8,s)
def iG (r:qS)(s:qG)(a p:Int):Int×qG:=
 bif !(decide (a≥0)&&decide (a≤(r.2.1.length:Int)-1)) then(1,s)
 else bif !(decide (p≥0)&&decide (p≤1048576)) then(1,s)
 else CO r s (s.pr.set a.toNat p)
theorem Rs sa pr ho a:(qo sa pr ho a).length=a.length:=by simp[qo]
theorem Rt sa pr ho a {j}(hj:j<a.length):(qo sa pr ho a).getD j ad=((a.getD j ad).1,jX sa pr ho j,(a.getD j ad).2.2):=by
 unfold qo;simp_all
theorem vIn {k:Nat}(hk:1000≤k){r:qS}{s:qG}(who:Int){pr:AC}(hL:∀i,i<s.B.1.length→gM r.2.1 pr (s.ho.getD i []))(hol:s.ho.length=s.B.1.length)(eO:s.B.1.length≤6):
  (qA (fun j=> !decide (jX r.2.1 pr s.ho j>1152921504606846976)) s.B.1.length 0=true∧qp k k s.ho s.ho.length 0 (eQ r s who) pr s.B.1 s.B.2.1 s.B.2.2.1 s.B.2.2.2=some (.inl (eQ r s who,pr,qo r.2.1 pr s.ho s.B.1,s.B.2.1,s.B.2.2.1,s.B.2.2.2)))∨
  (qA (fun j=> !decide (jX r.2.1 pr s.ho j>1152921504606846976)) s.B.1.length 0=false∧qp k k s.ho s.ho.length 0 (eQ r s who) pr s.B.1 s.B.2.1 s.B.2.2.1 s.B.2.2.2=some (.inr (8,eQ r s who))):=by
 rw[hol];have:=Kk (L:=fun n i (a:List qQ)=>qp k n s.ho s.B.1.length i (eQ r s who) pr a s.B.2.1 s.B.2.2.1 s.B.2.2.2) (N:=s.B.1.length) (fun j=> !decide (jX r.2.1 pr s.ho j>1152921504606846976))
  (fun a=>.inl (eQ r s who,pr,a,s.B.2.1,s.B.2.2.1,s.B.2.2.2)) (.inr (8,eQ r s who))
  (fun i a => a.length = s.B.1.length ∧ ∀ j, j < s.B.1.length → a.getD j ad = if j < i then ((s.B.1.getD j ad).1, jX r.2.1 pr s.ho j, (s.B.1.getD j ad).2.2) else s.B.1.getD j ad) (fun n a _=>by
   show CP k _ s.ho s.B.1.length s.B.1.length (eQ r s who) pr a s.B.2.1 s.B.2.2.1 s.B.2.2.2=_;unfold CP;simp only [qM, ai (Nat.lt_irrefl _), ay]) (fun n i a hi ha=>by
   have hv:=QS (k:=k) (hL i hi) (by omega);have aH:qp k (n+1) s.ho s.B.1.length i (eQ r s who) pr a s.B.2.1 s.B.2.2.1 s.B.2.2.2=bif decide (jX r.2.1 pr s.ho i>1152921504606846976) then some (.inr (8,eQ r s who)) else qp k n s.ho s.B.1.length ((i+1:Nat):Int) (eQ r s who) pr (a.set i ((a.getD i ad).1,jX r.2.1 pr s.ho i,(a.getD i ad).2.2)) s.B.2.1 s.B.2.2.1 s.B.2.2.2:=by
    show CP k _ s.ho s.B.1.length i (eQ r s who) pr a s.B.2.1 s.B.2.2.1 s.B.2.2.2=_;unfold CP;have fS:oD k (eQ r s who).2.1 pr (s.ho.getD i [])=some (jX r.2.1 pr s.ho i,true):=hv;simp only[qM,zV,aC,ag hi,ag (show i<s.ho.length by omega),ag (show i<a.length by rw[ha.1];exact hi),av,fS,ak,bG,ay,qD hi (show s.B.1.length<9223372036854775808 by omega)];rfl
   refine⟨fun ho=>?_,fun ho=>?_⟩
   ·have h1:decide (jX r.2.1 pr s.ho i>1152921504606846976)=false:=by simpa using ho
    refine⟨_,by rw[aH,h1];rfl,by rw[List.length_set];exact ha.1,fun j hj=>?_⟩;rw[jG];by_cases e:i=j
    ·subst e;rw[if_pos ⟨rfl,by rw[ha.1];exact hi⟩,if_pos (by omega),ha.2 i hi,if_neg (Nat.lt_irrefl _)]
    ·rw[if_neg (by omega),ha.2 j hj];by_cases h:j<i
     ·rw[if_pos h,if_pos (by omega)]
     ·rw[if_neg h,if_neg (by omega)]
   ·have h1:decide (jX r.2.1 pr s.ho i>1152921504606846976)=true:=by simpa using ho
    rw[aH,h1];rfl) s.B.1.length 0 k s.B.1 (by omega) (by omega) ⟨rfl,fun j _=>by rw[if_neg (Nat.not_lt_zero _)]⟩
 rcases this with⟨h1,a,h2,h3,h4⟩|⟨h1,h2⟩
 ·refine .inl ⟨h1,?_⟩;have e:a=qo r.2.1 pr s.ho s.B.1:=Au ad (by rw[h3,Rs]) fun j hj=>by
   rw[h3] at hj;rw[h4 j hj,if_pos hj,Rt _ _ _ _ hj]
  rw[←e];exact h2
 ·exact .inr ⟨h1,h2⟩
theorem yZm {k:Nat}(hk:1000≤k){r:qS}(hr:wV r){s:qG}(h:yO r s)(who a p:Int):
  ∃d,Ls k (eQ r s who) a p=some ((iG r s a p).1,d)∧((iG r s a p).1=0→d=dk r (iG r s a p).2 who []):=by
 have h3:=hr.n3;have eO:=h.bk.n6;have kA:=h.bk.n1;have w1:zA ((r.2.1.length:Int)-1)=(r.2.1.length:Int)-1:=zN (by omega) (by omega);have eD:Ls k (eQ r s who) a p=((yW k a 0 (zA ((r.2.1.length:Int)-1))).bind fun x0=>some x0).bind fun x0=>
  bif !x0 then some (1,dk r s who [])
  else(yW k p 0 1048576).bind fun x1=>
  bif !x1 then some (1,dk r s who [])
  else(ni k s.pr a p).bind fun x2=>
  (jW k s.B.1 s.B.2.1 s.B.2.2.1 s.B.2.2.2).bind fun x3=>
  (qp k k s.ho (s.ho.length:Int) 0 (eQ r s who) x2 x3.1 x3.2.1 x3.2.2.1 x3.2.2.2).bind fun z=>
  match z with
  |.inl z1=>some (0,(wJ z1.1 (xi z1 (z1.2.1,(Ru z1.1 [])))))
  |.inr z2=>some (jS z2 []):=rfl
 rw[eD,w1,kI,kI,FJ (by omega) h.bk.toSized];simp only[ak];unfold iG;cases hc:decide (a≥0)&&decide (a≤(r.2.1.length:Int)-1) with
 |false=>exact⟨_,rfl,fun e=>by cases e⟩
 |true=>
 simp only[bJ,bO] at hc;cases hm:decide (p≥0)&&decide (p≤1048576) with
 |false=>exact⟨_,rfl,fun e=>by cases e⟩
 |true=>
 simp only[bJ,bO] at hm;obtain⟨i,rfl⟩:=Int.eq_ofNat_of_zero_le hc.1;have hi:i<r.2.1.length:=by omega
 have L0:=h.laid 0 (by omega);have j5:ni k s.pr (i:Int) p=some (s.pr.set i p):=by
  have:=yC2 (k:=k) (l:=s.pr) (by rw[L0.pl];omega) (i:=(i:Int)) (by omega) (by rw[L0.pl];omega) p;rw[aC] at this;exact this
 simp only[bG,ay,j5,ak,aC];unfold CO;rcases vIn (r:=r) (s:=s) hk who (pr:=s.pr.set i p) (fun j hj=>(h.laid j hj).setP hi ⟨by omega,by omega⟩) h.hol eO with⟨g1,g2⟩|⟨g1,g2⟩
 ·rw[g2,g1];exact⟨_,rfl,fun _=>rfl⟩
 ·rw[g2,g1];exact⟨_,rfl,fun e=>by cases e⟩
theorem He {q p}:vV q p=true↔q.2.1<p.2.1∨(q.2.1=p.2.1∧q.2.2.2.2.1≤p.2.2.2.2.1):=by
 unfold vV;simp
theorem Rv {q p}:gK q p=true↔q.2.1<p.2.1∨(q.2.1=p.2.1∧q.2.2.2.2.1<p.2.2.2.2.1):=by
 unfold gK;simp
theorem qU3 {a b c}(h:vV a b=true)(g:vV b c=true):vV a c=true:=by
 rw[He] at*;omega
theorem yUy {a b}(h:¬vV a b=true):vV b a=true:=by
 rw[He] at*;omega
theorem vGz {a b}(h:gK a b=true):vV a b=true:=by
 rw[Rv] at h;rw[He];omega
theorem vEa {a b}(h:¬gK a b=true):vV b a=true:=by
 rw[Rv] at h;rw[He];omega
theorem yLd f l (p:zG):List.Perm (l.takeWhile f++(p::l.dropWhile f)) (p::l):=by
 have:=List.perm_middle (a:=p) (l₁:=l.takeWhile f) (l₂:=l.dropWhile f);simp_all
theorem yL8 {l:List zG}(hs:kH l)(p:zG)(f:zG→Bool)(h1:∀q,f q=true→vV q p=true)(h2:∀q,¬f q=true→vV p q=true):kH (l.takeWhile f++(p::l.dropWhile f)):=by
 have uQ:=hs;unfold kH at hs uQ⊢;rw[←List.takeWhile_append_dropWhile (p:=f) (l:=l)] at hs;obtain⟨a1,a2,a3⟩:=List.pairwise_append.1 hs;have Rw:∀q∈l.takeWhile f,f q=true:=fun q hq=>List.all_eq_true.1 (List.all_takeWhile (p:=f) (l:=l)) q hq
 have Rx:∀q∈l.dropWhile f,vV p q=true:=by
  cases hd:l.dropWhile f with
  |nil=>intro q hq;cases hq
  |cons x m=>
   have hx:¬f x=true:=by
    have bh:l.dropWhile f≠[]:=by rw[hd];simp
    have:=List.head_dropWhile_not f bh;have e:(l.dropWhile f).head bh=x:=by simp only[hd,List.head_cons]
    rw[e] at this;simp[this]
   intro q hq;rcases List.mem_cons.1 hq with rfl|hq
   ·exact h2 _ hx
   ·rw[hd] at a2;exact qU3 (h2 x hx) ((List.pairwise_cons.1 a2).1 q hq)
 refine List.pairwise_append.2 ⟨a1,List.pairwise_cons.2 ⟨Rx,a2⟩,fun a ha b hb=>?_⟩;rcases List.mem_cons.1 hb with rfl|hb
 ·exact h1 a (Rw a ha)
 ·exact a3 a ha b hb
theorem Ry {l}(hs:kH l) p:kH (me l p):=yL8 hs p _ (by simp) (fun _ h=>yUy h)
theorem vNq {l}(hs:kH l) p:kH (Gp l p):=yL8 hs p _ (fun _ h=>vGz h) (fun _ h=>vEa h)
theorem Rz l p:List.Perm (me l p) (p::l):=yLd _ l p
theorem vP8 l p:List.Perm (Gp l p) (p::l):=yLd _ l p
theorem kH.cut {l}(h:kH l) x:kH (qV l x):=List.Pairwise.sublist (pZ l x) h
theorem yV1 {l:AC}(ha:nf l){id:Int}(hn:id∉l):nf (ng l id):=by
 unfold ng;have nF:=ha;unfold nf at ha nF⊢;rw[←List.takeWhile_append_dropWhile (p:=fun x=>decide (x<id)) (l:=l)] at ha;obtain⟨a1,a2,a3⟩:=List.pairwise_append.1 ha;have Rw:∀q∈l.takeWhile (fun x=>decide (x<id)),q<id:=fun q hq=>by simpa using List.all_eq_true.1 (List.all_takeWhile (p:=fun x=>decide (x<id)) (l:=l)) q hq
 have Rx:∀q∈l.dropWhile (fun x=>decide (x<id)),id<q:=by
  cases hd:l.dropWhile (fun x=>decide (x<id)) with
  |nil=>intro q hq;cases hq
  |cons x m=>
   have uP:x∈l:=(List.dropWhile_sublist _).subset (by rw[hd];exact List.mem_cons_self ..);have hx:¬x<id:=by
    have bh:l.dropWhile (fun x=>decide (x<id))≠[]:=by rw[hd];simp
    have:=List.head_dropWhile_not (fun x=>decide (x<id)) bh;have e:(l.dropWhile (fun x=>decide (x<id))).head bh=x:=by simp only[hd,List.head_cons]
    rw[e] at this
    simpa using this
   have bh:x≠id:=fun e=>hn (e▸uP)
   intro q hq;rcases List.mem_cons.1 hq with rfl|hq
   ·omega
   ·rw[hd] at a2;have:=(List.pairwise_cons.1 a2).1 q hq;omega
 refine List.pairwise_append.2 ⟨a1,List.pairwise_cons.2 ⟨Rx,a2⟩,fun a ha b hb=>?_⟩;rcases List.mem_cons.1 hb with rfl|hb
 ·exact Rw a ha
 ·exact a3 a ha b hb
theorem vEn l id:List.Perm (ng l id) (id::l):=by
 have:=List.perm_middle (a:=id) (l₁:=l.takeWhile (fun x=>decide (x<id))) (l₂:=l.dropWhile (fun x=>decide (x<id)))
 rwa [List.takeWhile_append_dropWhile] at this
theorem gO.sub {n m m' ids}(h:gO n m ids)(hs:List.Sublist m' m):gO n m' ids:=
 ⟨List.Pairwise.sublist hs h.dist,by have:=hs.length_le;have:=h.len;omega,List.Pairwise.sublist hs h.sort,fun p hp=>h.may p (by grind),fun p hp=>h.time p (by grind),fun p hp=>h.were p (by grind),h.asc,h.pos,h.idl⟩
theorem gO.turn {n:Nat}{m:List zG}{ids:AC}(h:gO n m ids){x:Nat}(hx:x<m.length){p:zG}{m':List zG}(hp:List.Perm m' (p::qV m x))(hs:kH m')(h1:p.1=(m.getD x pd).1)
  (h2:qY n p) (h3:0≤p.2.2.2.2.2.1∧p.2.2.2.2.2.1≤p.2.2.2.2.2.2∧p.2.2.2.2.2.2≤1048576):gO n m' ids:=by
 have hc:=pZ m x;have hl:=lu hx;have hd:qI (p::qV m x):=by
  refine List.pairwise_cons.2 ⟨fun q hq=>?_,h.dist.cut x⟩;rw[h1];have hd:=h.dist;unfold qI at hd;rw[KA m x pd hx] at hd;have Gs:=List.pairwise_append.1 hd;have QM:=List.pairwise_cons.1 Gs.2.1;unfold qV at hq;rcases List.mem_append.1 hq with hq|hq
  ·exact fun e=>Gs.2.2 _ hq _ (List.mem_cons_self ..) e.symm
  ·exact QM.1 _ hq
 have hlen:=hp.length_eq;rw[List.length_cons] at hlen;refine⟨hd.perm hp,by have:=h.len;omega,hs,fun q hq=>?_,fun q hq=>?_,fun q hq=>?_,h.asc,h.pos,h.idl⟩;all_goals rcases List.mem_cons.1 (hp.subset hq) with rfl|mf
 ·exact h2
 ·exact h.may q (hc.subset mf)
 ·exact h3
 ·exact h.time q (hc.subset mf)
 ·rw[h1];exact h.were _ (jU hx)
 ·exact h.were q (hc.subset mf)
theorem yX5 {r:qS}{s:qG}(hr:wV r)(h:yO r s){who:Int}{f:jH}(h0:(gd r s who f).1=0):gO s.B.1.length (gd r s who f).2.1 (gd r s who f).2.2:=by
 have hw:=h.waits;have hn:=h.n;have ht:=h.tk;unfold gd at h0⊢;cases hc:decide (f.2.2.1≥0)&&decide (f.2.2.1≤r.1-1) with
 |false=>rw[hc] at h0;cases h0
 |true=>
 cases cT:decide (f.2.2.2.2.1≥1)&&decide (f.2.2.2.2.1≤3) with
 |false=>rw[hc,cT] at h0;cases h0
 |true=>
 cases dB:decide (kJ r s.t (jM who f)=0) with
 |false=>rw[hc,cT,dB] at h0;exact absurd h0 (om dB)
 |true=>
 cases fg:decide (f.2.1∈s.ids) with
 |true=>rw[hc,cT,dB,fg] at h0;cases h0
 |false=>
 cases kB:decide (200≤s.ids.length) with
 |true=>rw[hc,cT,dB,fg,kB] at h0;cases h0
 |false=>
 cases Am:(vE s.m f.2.1).isSome with
 |true=>rw[hc,cT,dB,fg,kB,Am] at h0;cases h0
 |false=>
 cases An:decide (40≤s.m.length) with
 |true=>rw[hc,cT,dB,fg,kB,Am,An] at h0;cases h0
 |false=>
 show gO s.B.1.length (me s.m (jM who f)) (ng s.ids f.2.1);have Ja:f.2.1∉s.ids:=om fg;have hi:=om kB;have hm:=om An;have xj:=PW dB;have RA:iB r.1 s.t (jM who f)=true:=by
  unfold kJ at xj;cases hb:iB r.1 s.t (jM who f) with
  |true=>rfl
  |false=>rw[hb] at xj;cases xj
 unfold iB at RA;simp only[bJ,bO,Bool.not_eq_true',decide_eq_false_iff_not] at RA;obtain⟨⟨p1,p2⟩,⟨p3,p4⟩,p5,p6,p7,p8,p9,pM,p11,p12,p13,p14⟩:=RA;have tD:=Rz s.m (jM who f);have Lt:=vEn s.ids f.2.1;have hlen:=tD.length_eq;have mR:=Lt.length_eq;rw[List.length_cons] at hlen mR;have bK:qY s.B.1.length (jM who f):=⟨p1,by omega,p3,by omega,p9,p6,p7,p8,pM⟩;have dZ:∀x,x∈s.ids→x∈ng s.ids f.2.1:=fun x hx=>Lt.symm.subset (List.mem_cons_of_mem _ hx)
 have Hf:qI (jM who f::s.m):=List.pairwise_cons.2 ⟨fun q hq e=>Ja (by have:=hw.were q hq;rw[←e] at this;exact this),hw.dist⟩;refine⟨Hf.perm tD,by omega,Ry hw.sort _,fun q hq=>?_,fun q hq=>?_,fun q hq=>?_,yV1 hw.asc Ja,fun x hx=>?_,by omega⟩
 ·rcases List.mem_cons.1 (tD.subset hq) with rfl|mf
  ·exact bK
  ·exact hw.may q mf
 ·rcases List.mem_cons.1 (tD.subset hq) with rfl|mf
  ·exact⟨p11,p12,p14⟩
  ·exact hw.time q mf
 ·rcases List.mem_cons.1 (tD.subset hq) with rfl|mf
  ·exact Lt.symm.subset (List.mem_cons_self ..)
  ·exact dZ _ (hw.were q mf)
 ·rcases List.mem_cons.1 (Lt.subset hx) with rfl|mD
  ·exact p5
  ·exact hw.pos x mD
theorem vIo {r s}(h:yO r s){who f}(h0:(iC r s who f).1=0):gO s.B.1.length (iC r s who f).2.1 s.ids:=by
 have hw:=h.waits;unfold iC at h0⊢;cases hx:vE s.m f.2.1 with
 |none=>omega
 |some x=>
 rw[hx] at h0;have cR:=(iy hx).1;have dD:s.m.getD x pd∈s.m:=by grind
 have hm:=hw.may _ dD;have ht:=hw.time _ dD;simp only at h0⊢;cases hc:decide ((s.m.getD x pd).2.1=who) with
 |false=>simp_all
 |true=>
 cases cT:decide (f.1=2) with
 |true=>exact hw.sub (pZ _ _)
 |false=>
 cases dB:decide (f.1=4) with
 |true=>
  cases fg:decide (f.2.2.1≥1)&&decide (f.2.2.1≤3) with
  |false=>simp_all
  |true=>
  cases kB:decide (nn r.2.2.1 r.2.2.2.1 s.t f.2.2.1=0) with
  |false=>simp_all
  |true=>
  simp  at fg;obtain⟨m1,m2,m3,m4,m5,m6,m7,m8,m9⟩:=hm;exact hw.turn cR (Rz _ _) (Ry (hw.sort.cut x) _) rfl ⟨m1,m2,m3,m4,m5,m6,m7,fg.1,fg.2⟩ ht
 |false=>
  cases fg:decide (f.2.2.1=0) with
  |true=>exact hw.turn cR (vP8 _ _) (vNq (hw.sort.cut x) _) rfl hm ht
  |false=>
   cases kB:decide (f.2.2.1=1) with
   |true=>exact hw.turn cR (Rz _ _) (Ry (hw.sort.cut x) _) rfl hm ht
   |false=>simp_all
theorem qTz {n}(h:-1≤n∧n≤1152921504606846976):vY n=true:=by
 unfold vY;grind
theorem oM {a}:jF a=true↔(-4611686018427387904<a.1∧a.1<4611686018427387904)∧(0≤a.2.1∧a.2.1≤2305843009213693952)∧(0≤a.2.2∧a.2.2≤2305843009213693952):=by
 unfold jF;grind
theorem wA.setBil {a}{b:wH}{m}{p:wH}(h:wA a b m p){w i}(hw:w<a.length)(hi:i<a.length){n}(hn:-1≤n∧n≤1152921504606846976):wA a (b.set w ((b.getD w []).set i n)) m p:=
  { h with
    bl:=by rw[List.length_set];exact h.bl
    br:=fun j hj=>by
      rw[jG];split
      · rw[List.length_set];exact h.br w hw
      · exact h.br j hj
    bil:=fun j hj k hk=>by
      unfold cell;rw[jG];split
      · rw[jG];split
        · exact qTz hn
        · exact h.bil w hw k hk
      · exact h.bil j hj k hk}
theorem wA.setMul {a}{b:wH}{m}{p:wH}(h:wA a b m p) w {n}(hn:-1≤n∧n≤1152921504606846976):wA a b (m.set w n) p:=
  { h with
    ml:=by rw[List.length_set];exact h.ml
    mul:=fun j hj=>by
      rw[jG];split
      · exact qTz hn
      · exact h.mul j hj}
theorem wA.setAcct {a}{b:wH}{m}{p:wH}(h:wA a b m p){a'}(hl:a'.length=a.length)(ha:∀i,i<a.length→jF (a'.getD i ad)=true):wA a' b m p where
 n1:=by rw[hl];exact h.n1
 n6:=by rw[hl];exact h.n6
 bl:=by rw[hl];exact h.bl
 br:=by rw[hl];exact h.br
 ml:=by rw[hl];exact h.ml
 pl:=by rw[hl];exact h.pl
 pr:=by rw[hl];exact h.pr
 mul:=by rw[hl];exact h.mul
 bil:=by rw[hl];exact h.bil
 acct:=by simp_all
 net:=by rw[hl];exact h.net
 turn:=by rw[hl];exact h.turn
theorem vI0 {n g i}(hi:i<n) d:qE (fun j=>if j=i then g j+d else g j) n=qE g n+d:=by
 have e:qE (fun j=>if j=i then g j+d else g j) n=qE (fun j=>g j+(if j=i then d else 0)) n:=by grind
 rw[e,At,vy,if_pos hi]
theorem yO.books {r s}(h:yO r s){B}(hb:qL B)(hl:B.1.length=s.B.1.length)(mZ:∀i,i<s.B.1.length→(B.1.getD i ad).1=(s.B.1.getD i ad).1)(hc:∀i,i<s.B.1.length→(B.1.getD i ad).2.1=(s.B.1.getD i ad).2.1):yO r {s with B:=B} where
 tk:=h.tk
 bk:=hb
 n:=by rw[hl];exact h.n
 hol:=by rw[hl];exact h.hol
 laid:=by rw[hl];exact h.laid
 cred:=by rw[hl];intro i hi;rw[hc i hi];exact h.cred i hi
 most:=by rw[hl];intro i hi;rw[hc i hi];exact h.most i hi
 waits:=by rw[hl];exact h.waits
 sum:=by rw[hl,ot mZ];exact h.sum
 tot:=h.tot
 over:=h.over
 none:=h.none
theorem yO.queue {r s}(h:yO r s)(ho:s.ov=false){m ids}(hw:gO s.B.1.length m ids):yO r {s with m:=m,ids:=ids} where
 tk:=h.tk
 bk:=h.bk
 n:=h.n
 hol:=h.hol
 laid:=h.laid
 cred:=h.cred
 most:=h.most
 waits:=hw
 sum:=h.sum
 tot:=h.tot
 over:=h.over
 none:=by grind
theorem vD9 {r:qS}{s:qG}(h:yO r s){who:Int}(hw:0≤who∧who<r.1){f:jH}(h0:(iD r s who f).1=0):yO r (iD r s who f).2:=by
 have hn:=h.n;have hb:wA s.B.1 s.B.2.1 s.B.2.2.1 s.B.2.2.2:=h.bk;obtain⟨w,rfl⟩:=Int.eq_ofNat_of_zero_le hw.1;have eP:w<s.B.1.length:=by omega
 unfold iD at h0⊢;cases hc:decide (f.1=5) with
 |true=>
  rw[hc] at h0;simp only[av] at h0⊢;cases cT:decide (f.2.1≥0)&&decide (f.2.1≤r.1-1) with
  |false=>rw[cT] at h0;cases h0
  |true=>
  cases dB:decide (f.2.1=(w:Int)) with
  |true=>rw[cT,dB] at h0;cases h0
  |false=>
  cases fg:decide (f.2.2.1≥-1)&&decide (f.2.2.1≤1152921504606846976) with
  |false=>rw[cT,dB,fg] at h0;cases h0
  |true=>
  simp only[bJ,bO] at cT fg;exact h.books (B:=(s.B.1,s.B.2.1.set w ((s.B.2.1.getD w []).set f.2.1.toNat f.2.2.1),s.B.2.2.1,s.B.2.2.2)) (hb.setBil eP (by omega) (by grind)) rfl (by simp) (by simp)
 |false=>
  rw[hc] at h0;simp only[ay] at h0⊢;cases cT:decide (f.1=6) with
  |true=>
   rw[cT] at h0;simp only[av] at h0⊢;cases dB:decide (f.2.1≥-1)&&decide (f.2.1≤1152921504606846976) with
   |false=>rw[dB] at h0;cases h0
   |true=>
   simp only[bJ,bO] at dB;exact h.books (B:=(s.B.1,s.B.2.1,s.B.2.2.1.set w f.2.1,s.B.2.2.2)) (hb.setMul w (by grind)) rfl (fun _ _=>rfl) (by simp)
  |false=>
   rw[cT] at h0;simp only[ay] at h0⊢;cases dB:decide (f.2.1≥0)&&decide (f.2.1≤1152921504606846976) with
   |false=>rw[dB] at h0;cases h0
   |true=>
   have hg:∀i,(s.B.1.set w ((s.B.1.getD w ad).1,(s.B.1.getD w ad).2.1,f.2.1)).getD i ad=if i=w then((s.B.1.getD w ad).1,(s.B.1.getD w ad).2.1,f.2.1) else s.B.1.getD i ad:=by grind
   refine h.books (B:=(s.B.1.set w ((s.B.1.getD w ad).1,(s.B.1.getD w ad).2.1,f.2.1),s.B.2.1,s.B.2.2.1,s.B.2.2.2)) (hb.setAcct (by rw[List.length_set]) fun i hi=>?_) (by simp) (fun i hi=>?_) (fun i hi=>?_)
   ·rw[hg];split
    ·have:=oM.1 (hb.acct w eP);rw[oM];grind
    ·exact hb.acct i hi
   all_goals grind
theorem vG2 {r}(hr:wV r){s}(h:yO r s){who}(hw:0≤who∧who<r.1){a many}(h0:(iE r s who a many).1=0):yO r (iE r s who a many).2:=by
  have hn:=h.n;have hb:wA s.B.1 s.B.2.1 s.B.2.2.1 s.B.2.2.2:=h.bk;obtain⟨w,rfl⟩:=Int.eq_ofNat_of_zero_le hw.1;have eP:w<s.B.1.length:=by omega
  have hol:=h.hol;unfold iE at h0⊢;simp only[aC] at h0⊢;cases hc:decide (a≥0)&&decide (a≤(r.2.1.length:Int)-1) with
  |false=>simp_all
  |true=>
  cases cT:decide (many≥0)&&decide (many≤1099511627776) with
  |false=>simp_all
  |true=>
  rw[hc,cT] at h0;simp only[bG,ay] at h0⊢;simp  at hc cT;have L2:=(h.laid w eP).set (i:=a.toNat) (by omega) (v:=many) (by grind);have uI:=BU L2;obtain⟨n,bh⟩:∃n,n=gL r.2.1 s.pr ((s.ho.getD w []).set a.toNat many):=by simp
  rw[←bh] at h0 uI⊢;unfold Cx at h0⊢;cases dB:decide (n>1152921504606846976) with
  |true=>simp_all
  |false=>
  cases fg:decide (n<(s.B.1.getD w ad).2.1)&&decide ((s.B.1.getD w ad).1+n<0) with
  |true=>simp_all
  |false=>
  have dB:=om dB;have hg:∀i,(s.B.1.set w ((s.B.1.getD w ad).1,n,(s.B.1.getD w ad).2.2)).getD i ad=if i=w then((s.B.1.getD w ad).1,n,(s.B.1.getD w ad).2.2) else s.B.1.getD i ad:=by grind
  have hgh:∀i,(s.ho.set w ((s.ho.getD w []).set a.toNat many)).getD i []=if i=w then(s.ho.getD w []).set a.toNat many else s.ho.getD i []:=by grind
  simp only[ay];have eS:(s.B.1.set w ((s.B.1.getD w ad).1,n,(s.B.1.getD w ad).2.2)).length=s.B.1.length:=by simp
  exact{
    tk:=h.tk
    bk:=hb.setAcct eS fun i hi=>by
      rw[hg];split
      · have:=oM.1 (hb.acct w eP);rw[oM];grind
      · exact hb.acct i hi
    n:=by simp_all
    hol:=by simp_all
    laid:=by
      rw[eS];intro i hi;rw[hgh];split
      · exact L2
      · exact h.laid i hi
    cred:=by
      rw[eS];intro i hi;rw[hg,hgh];split
      · exact bh
      · exact h.cred i hi
    most:=by
      rw[eS];intro i hi;rw[hg];split
      · show n≤_;omega
      · exact h.most i hi
    waits:=by rw[eS];exact h.waits
    sum:=by
      rw[eS,ot (h:=fun i=>(s.B.1.getD i ad).1) (by grind)];exact h.sum
    tot:=h.tot
    over:=h.over
    none:=h.none}
theorem qY6 {r s}(h:yO r s){i}(hi:i<s.B.1.length){n}(hz:(wR (s.B.1.getD i ad) n).2=0)(ht:0≤s.to+n∧s.to+n≤1152921504606846976):
    yO r (Lr s i (wR (s.B.1.getD i ad) n).1 (s.to+n)):=by
  have hb:wA s.B.1 s.B.2.1 s.B.2.2.1 s.B.2.2.2:=h.bk;unfold wR at hz⊢;cases hc:jF ((s.B.1.getD i ad).1+n,(s.B.1.getD i ad).2.1,(s.B.1.getD i ad).2.2) with
  |false=>simp_all
  |true=>
  simp only[av];have hg:∀j,(s.B.1.set i ((s.B.1.getD i ad).1+n,(s.B.1.getD i ad).2.1,(s.B.1.getD i ad).2.2)).getD j ad=if j=i then((s.B.1.getD i ad).1+n,(s.B.1.getD i ad).2.1,(s.B.1.getD i ad).2.2) else s.B.1.getD j ad:=by grind
  have eS:(s.B.1.set i ((s.B.1.getD i ad).1+n,(s.B.1.getD i ad).2.1,(s.B.1.getD i ad).2.2)).length=s.B.1.length:=by simp
  unfold Lr;exact{
    tk:=h.tk
    bk:=hb.setAcct eS fun j hj=>by
      rw[hg];split
      · exact hc
      · exact hb.acct j hj
    n:=by rw[eS];exact h.n
    hol:=by rw[eS];exact h.hol
    laid:=by rw[eS];exact h.laid
    cred:=by
      rw[eS];intro j hj;rw[hg];split
      · rename_i e;rw[e];exact h.cred i hi
      · exact h.cred j hj
    most:=by
      rw[eS];intro j hj;rw[hg];split
      · exact h.most i hi
      · exact h.most j hj
    waits:=by rw[eS];exact h.waits
    sum:=by
      rw[eS,ot (h:=fun j=>if j=i then(s.B.1.getD j ad).1+n else(s.B.1.getD j ad).1) (by grind),vI0 hi,h.sum]
    tot:=ht
    over:=h.over
    none:=h.none}
theorem vQj {r s}(h:yO r s){kd to n}(h0:(iF r s kd to n).1=0):yO r (iF r s kd to n).2∧(iF r s kd to n).2.to=s.to+(if kd=11 then-n else n)∧(iF r s kd to n).2.m=s.m∧(iF r s kd to n).2.ids=s.ids∧(iF r s kd to n).2.t=s.t:=by
 have hn:=h.n;have ht:=h.tot;unfold iF at h0⊢;cases hc:decide (to≥0)&&decide (to≤r.1-1) with
 |false=>rw[hc] at h0;cases h0
 |true=>
 cases cT:decide (n≥1)&&decide (n≤1099511627776) with
 |false=>simp_all
 |true=>
 rw[hc,cT] at h0;simp  at hc cT;have hi:to.toNat<s.B.1.length:=by omega
 by_cases hk:kd=11
 ·rw[ag hk] at h0⊢;rw[if_pos hk];unfold Ha at h0⊢;cases dB:decide ((s.B.1.getD to.toNat ad).1+(s.B.1.getD to.toNat ad).2.1-(s.B.1.getD to.toNat ad).2.2<n) with
  |true=>rw[dB] at h0;cases h0
  |false=>
  cases fg:decide (s.to-n<0) with
  |true=>simp_all
  |false=>
  cases hz:decide ((wR (s.B.1.getD to.toNat ad) (-n)).2=0) with
  |false=>grind
  |true=>
  cases kB:decide (s.to-n>1152921504606846976) with
  |true=>grind
  |false=>
  have fg:=om fg;have:=qY6 h hi (n:= -n) (by grind) (by omega);exact⟨this,rfl,rfl,rfl,rfl⟩
 ·rw[ai hk] at h0⊢;rw[if_neg hk];unfold Hb at h0⊢;cases hz:decide ((wR (s.B.1.getD to.toNat ad) n).2=0) with
  |false=>simp_all
  |true=>
  cases kB:decide (s.to+n>1152921504606846976) with
  |true=>simp_all
  |false=>
  have kB:=om kB;exact⟨qY6 h hi (by grind) (by omega),rfl,rfl,rfl,rfl⟩
theorem vMj {r s}(h:yO r s){a p}(h0:(iG r s a p).1=0):yO r (iG r s a p).2:=by
  have hb:wA s.B.1 s.B.2.1 s.B.2.2.1 s.B.2.2.2:=h.bk;unfold iG at h0⊢;cases hc:decide (a≥0)&&decide (a≤(r.2.1.length:Int)-1) with
  |false=>simp_all
  |true=>
  cases cT:decide (p≥0)&&decide (p≤1048576) with
  |false=>simp_all
  |true=>
  simp  at hc cT;have hL:∀i,i<s.B.1.length→gM r.2.1 (s.pr.set a.toNat p) (s.ho.getD i []):=fun i hi=>(h.laid i hi).setP (by omega) (by grind)
  generalize s.pr.set a.toNat p=pr at*
  unfold CO at h0⊢;cases dB:qA (fun j=> !decide (jX r.2.1 pr s.ho j>1152921504606846976)) s.B.1.length 0 with
  |false=>simp_all
  |true=>
  simp;have hle:∀i,i<s.B.1.length→jX r.2.1 pr s.ho i≤1152921504606846976:=fun i hi=>by
    have:=wI.1 dB i hi;simp_all
  have eS:=Rs r.2.1 pr s.ho s.B.1;have hg:=fun(j:Nat) (hj:j<s.B.1.length)=>Rt r.2.1 pr s.ho s.B.1 hj
  exact{
    tk:=h.tk
    bk:=hb.setAcct eS fun i hi=>by
      rw[hg i hi];have:=oM.1 (hb.acct i hi);have h1:=BU (hL i hi);rw[oM];exact⟨this.1,⟨h1,by grind⟩,this.2.2⟩
    n:=by rw[eS];exact h.n
    hol:=by rw[eS];exact h.hol
    laid:=by simp_all
    cred:=by
      rw[eS];intro i hi;rw[hg i hi];rfl
    most:=by
      simp_all
    waits:=by rw[eS];exact h.waits
    sum:=by
      rw[eS,ot (h:=fun i=>(s.B.1.getD i ad).1) (by grind)];exact h.sum
    tot:=h.tot
    over:=h.over
    none:=h.none}
abbrev MT:=Int×List mg×Int×Int×Int×Int×List qQ×wH×AC×wH×AC×wH×List zG×AC×Int×Bool×Int×Int
abbrev RB:=Int×List mg×Int×Int×Int×Int×List qQ×wH×AC×wH×AC×wH×List zG×AC×Int×Bool×Int×List yB×Int
def rk (r:qS)(s:qG)(who:Int):MT:=(r.1,r.2.1,r.2.2.1,r.2.2.2.1,r.2.2.2.2,s.t,s.B.1,s.B.2.1,s.B.2.2.1,s.B.2.2.2,s.pr,s.ho,s.m,s.ids,s.to,s.ov,who,0)
def qK (r:qS)(s:qG)(who:Int)(l:List yB)(paid:Int):RB:=(r.1,r.2.1,r.2.2.1,r.2.2.2.1,r.2.2.2.2,s.t,s.B.1,s.B.2.1,s.B.2.2.1,s.B.2.2.2,s.pr,s.ho,s.m,s.ids,s.to,s.ov,who,l,paid)
def CQ (pa n:Int):Int:=bif decide (n<0) then-1 else bif decide (n≥pa) then-1 else n
theorem RD k r s who l p n:qq k (qK r s who l p) n=some (CQ r.1 n):=by
 unfold qq CQ;have e:(qK r s who l p).1=r.1:=rfl;grind
theorem RE {pa n}(h:0≤n∧n<pa):CQ pa n=n:=by
 unfold CQ;grind
theorem RF {pa n}(h:¬(0≤n∧n<pa)):CQ pa n= -1:=by
 unfold CQ;grind
theorem yRx k (r:qS) t c:CR k r t c=some (nn r.2.2.1 r.2.2.2.1 t c):=by
 unfold CR nn;grind
theorem yBn k (r:qS) t (p:zG):xk k r t p=some (kJ r t p):=by
 unfold xk kJ;rw[yRx];simp only[ak];have no:¬(p.2.1≥0∧p.2.1<r.1∧p.2.2.1≥0∧p.2.2.1<r.1∧p.1≥1∧p.2.2.2.1≥1∧p.2.2.2.1≤1099511627776∧p.2.2.2.2.1≥1∧¬p.2.1=p.2.2.1∧p.2.2.2.2.1≤3∧p.2.2.2.2.2.1≥0∧p.2.2.2.2.2.1≤p.2.2.2.2.2.2∧p.2.2.2.2.2.2≥t∧p.2.2.2.2.2.2≤1048576)→iB r.1 t p=false:=by
  intro h;cases e:iB r.1 t p with
  |false=>rfl
  |true=>
   unfold iB at e;grind
 by_cases c1:p.1<1
 ·rw[ag c1,no (fun⟨_,_,_,_,h,_⟩=>by omega)];rfl
 by_cases c2:p.2.1<0
 ·rw[ai c1,ag c2,no (fun⟨h,_⟩=>by omega)];rfl
 by_cases c3:p.2.1≥r.1
 ·rw[ai c1,ai c2,ag c3,no (fun⟨_,h,_⟩=>by omega)];rfl
 by_cases c4:p.2.2.1<0
 ·rw[ai c1,ai c2,ai c3,ag c4,no (fun⟨_,_,h,_⟩=>by omega)];rfl
 by_cases c5:p.2.2.1≥r.1
 ·rw[ai c1,ai c2,ai c3,ai c4,ag c5,no (fun⟨_,_,_,h,_⟩=>by omega)];rfl
 rw[ai c1,ai c2,ai c3,ai c4,ai c5];simp only[ay];by_cases c6:p.2.1=p.2.2.1
 ·rw[ag c6,no (fun⟨_,_,_,_,_,_,_,_,h,_⟩=>h c6)];rfl
 by_cases c7:p.2.2.2.1<1
 ·rw[ai c6,ag c7,no (fun⟨_,_,_,_,_,h,_⟩=>by omega)];rfl
 by_cases c8:p.2.2.2.1>1099511627776
 ·rw[ai c6,ai c7,ag c8,no (fun⟨_,_,_,_,_,_,h,_⟩=>by omega)];rfl
 by_cases c9:p.2.2.2.2.1<1
 ·rw[ai c6,ai c7,ai c8,ag c9,no (fun⟨_,_,_,_,_,_,_,h,_⟩=>by omega)];rfl
 by_cases KC:p.2.2.2.2.1>3
 ·rw[ai c6,ai c7,ai c8,ai c9,ag KC,no (by grind)];rfl
 rw[ai c6,ai c7,ai c8,ai c9,ai KC];simp only[ay];by_cases wo:p.2.2.2.2.2.1<0
 ·rw[ag wo,no (by grind)];rfl
 by_cases Lu:p.2.2.2.2.2.1>p.2.2.2.2.2.2
 ·rw[ai wo,ag Lu,no (by grind)];rfl
 by_cases RG:p.2.2.2.2.2.2<t
 ·rw[ai wo,ai Lu,ag RG,no (by grind)];rfl
 by_cases c14:p.2.2.2.2.2.2>1048576
 ·rw[ai wo,ai Lu,ai RG,ag c14,no (by grind)];rfl
 rw[ai wo,ai Lu,ai RG,ai c14];have e:iB r.1 t p=true:=by
  unfold iB;simp_all
 rw[e];rfl
def xl (k:Nat)(r:qS)(s:qG)(who:Int)(p:zG):Option (Int×RB):=
 (xk k r s.t p).bind fun x1=>
 bif !(decide (x1=0)) then some (x1,qK r s who [] 0)
 else(xh k s.ids p.1).bind fun x2=>
 bif !(decide (x2.2=0)) then some (x2.2,qK r s who [] 0)
 else(xf k s.m p.1 p.2.1 p.2.2.1 p.2.2.2.1 p.2.2.2.2.1 p.2.2.2.2.2.1 p.2.2.2.2.2.2).bind fun x3=>
 bif !(decide (x3.2=0)) then some (x3.2,qK r s who [] 0)
 else some (0,qK r {s with m:=x3.1,ids:=x2.1} who [] p.1)
theorem yXd {k}(hk:1000≤k){r}(hr:wV r){s}(h:gO s.B.1.length s.m s.ids) who f:
  ∃d,Lv k (rk r s who) f.2=some ((gd r s who f).1,d)∧((gd r s who f).1=0→d=qK r {s with m:=(gd r s who f).2.1,ids:=(gd r s who f).2.2} who [] f.2.1):=by
 have hp:=hr.pa;have hi:=h.idl;have hm:=h.len;have eD:Lv k (rk r s who) f.2=(qq k (qK r s who [] 0) f.2.2.1).bind fun x0=>
  bif decide (f.2.2.2.2.1 ≥ 1) then (bif decide (f.2.2.2.2.1≤3) then xl k r s who (f.2.1,who,x0,f.2.2.2)
   else xl k r s who (f.2.1,who,x0,f.2.2.2.1,0,f.2.2.2.2.2))
  else xl k r s who (f.2.1,who,x0,f.2.2.2.1,0,f.2.2.2.2.2):=rfl
 have bad:∀p:zG,iB r.1 s.t p=false→xl k r s who p=some (1,qK r s who [] 0):=by
  intro p hp;unfold xl;rw[yBn];unfold kJ;rw[hp];rfl
 have aaq:∀p:zG,¬(p.2.2.1≥0∧p.2.2.2.2.1≥1)→iB r.1 s.t p=false:=by
  intro p hn;cases e:iB r.1 s.t p with
  |false=>rfl
  |true=>
   unfold iB at e;simp  at e;obtain⟨_,⟨a3,_⟩,_,_,_,a8,_⟩:=e;exact absurd ⟨a3,a8⟩ hn
 rw[eD,RD];simp only[ak];unfold gd;by_cases RH:0≤f.2.2.1∧f.2.2.1<r.1
 ·rw[RE RH,ag (show f.2.2.1≥0 by omega),ag (show f.2.2.1≤r.1-1 by omega)];by_cases hc:f.2.2.2.2.1≥1∧f.2.2.2.2.1≤3
  ·rw[ag hc.1,ag hc.2];simp only[Bool.and_self,bG,ay,av];have ep:((f.2.1,who,f.2.2.1,f.2.2.2):zG)=jM who f:=rfl;rw[ep];unfold xl;rw[yBn];simp only[ak];by_cases hz:kJ r s.t (jM who f)=0
   ·rw[ag hz];have e1:(jM who f).1=f.2.1:=rfl;simp only[bG,ay];rw[e1,vGc (by omega) (by omega)];simp only[ak];by_cases h1:f.2.1∈s.ids
    ·rw[ag h1];exact⟨_,rfl,fun e=>by cases e⟩
    ·rw[ai h1];by_cases h2:200≤s.ids.length
     ·rw[ag h2];exact⟨_,rfl,fun e=>by cases e⟩
     ·rw[ai h2];have e3:=yU8 (k:=k) (l:=s.m) (by omega) (by omega) (jM who f);rw[e1] at e3;simp only[ay,decide_true,bG];rw[e3];simp only[ak];cases(vE s.m f.2.1).isSome with
      |true=>exact⟨_,rfl,fun e=>by cases e⟩
      |false=>
       by_cases h3:40≤s.m.length
       ·rw[ag h3];exact⟨_,rfl,fun e=>by cases e⟩
       ·rw[ai h3];exact⟨_,rfl,fun _=>rfl⟩
   ·rw[ai hz];exact⟨_,rfl,fun e=>absurd e hz⟩
  ·have e0:=bad (f.2.1,who,f.2.2.1,f.2.2.2.1,0,f.2.2.2.2.2) (by grind);rw[e0];have g:(!(decide (f.2.2.2.2.1≥1)&&decide (f.2.2.2.2.1≤3)))=true:=by
    by_cases a:f.2.2.2.2.1≥1
    ·rw[ag a,ai (fun b=>hc ⟨a,b⟩)];rfl
    ·rw[ai a];rfl
   rw[g];refine⟨qK r s who [] 0,?_,fun e=>by cases e⟩;by_cases a:f.2.2.2.2.1≥1
   ·rw[ag a,ai (fun b=>hc ⟨a,b⟩)];rfl
   ·rw[ai a];rfl
 ·have g:(!(decide (f.2.2.1≥0)&&decide (f.2.2.1≤r.1-1)))=true:=by
   by_cases a:f.2.2.1≥0
   ·rw[ag a,ai (show¬f.2.2.1≤r.1-1 by omega)];rfl
   ·rw[ai a];rfl
  have q:∀x:Int×Int×Int×Int,xl k r s who (f.2.1,who,-1,x)=some (1,qK r s who [] 0):=by grind
  rw[g,RF RH,q,q];refine⟨qK r s who [] 0,?_,fun e=>by cases e⟩;cases decide (f.2.2.2.2.1≥1)<;>cases decide (f.2.2.2.2.1≤3)<;>rfl
theorem vE8 {k}(hk:1000≤k){r s}(h:gO s.B.1.length s.m s.ids) who f (hf:f.1=2∨f.1=3∨f.1=4):
    ∃d,xm k (rk r s who) f.1 f.2=some ((iC r s who f).1,d)∧((iC r s who f).1=0→d=qK r {s with m:=(iC r s who f).2.1} who (iC r s who f).2.2 0):=by
  have hm:=h.len;have lT:qN s.m:=by unfold qN;omega
  have eD : xm k (rk r s who) f.1 f.2 = ((j0 k s.m f.2.1).bind fun x0=>
      bif decide (x0<0) then some (((0,0,0,0,0,0,0):zG),false)
      else bif zC x0 s.m.length then (bif !(decide ((s.m.getD x0.toNat (0,0,0,0,0,0,0)).2.1=who)) then some ((0,0,0,0,0,0,0),false)
        else bif zC x0 s.m.length then some ((s.m.getD x0.toNat (0,0,0,0,0,0,0)),true)
        else none)
      else none).bind fun x0=>
    bif !x0.2 then some (4,qK r s who [] 0)
    else bif decide (f.1 = 2) then ((ly k s.m f.2.1).bind fun x1=>
      (wY k 20 [f.2.1]).bind fun x2=>
      some (0,qK r {s with m:=x1.1} who [(who,x2)] 0))
    else bif decide (f.1 = 3) then (bif decide (f.2.2.1 = 0) then ((G6 k s.m f.2.1).bind fun x3=>
       some (0,qK r {s with m:=x3.1} who [] 0))
      else bif decide (f.2.2.1 = 1) then ((G5 k s.m f.2.1).bind fun x4=>
       some (0,qK r {s with m:=x4.1} who [] 0))
      else some (1,qK r s who [] 0))
    else bif decide (f.2.2.1<1) then some (1,qK r s who [] 0)
    else bif decide (f.2.2.1>3) then some (1,qK r s who [] 0)
    else(CR k r s.t f.2.2.1).bind fun x5=>
    bif !(decide (x5=0)) then some (x5,qK r s who [] 0)
    else(G4 k s.m f.2.1 f.2.2.1).bind fun x6=>
    some (0,qK r {s with m:=x6.1} who [] 0):=rfl
  rw[eD,Gj (by omega) (by omega)];unfold iC eN;cases hx:vE s.m f.2.1 with
  |none=>exact by simp
  |some x=>
    have cR:=iy hx;have e1:decide ((x:Int)<0)=false:=ai (by omega);simp only[ak,e1,ay,zV,ag cR.1,av,aC];by_cases hw:(s.m.getD x (0,0,0,0,0,0,0)).2.1=who
    · have sv:(s.m.getD x pd).2.1=who:=hw;rw[ag hw];simp only[bG,ay,ak];by_cases h2:f.1=2
      · rw[ag h2];obtain⟨n,rfl⟩:∃n,k=n+5:=⟨k-5,by omega⟩;have eo:wY (n+5) 20 [f.2.1]=some (20,f.2.1,0,0,0,0,0):=by kernel_rfl
        simp only[av,qn (show s.m.length<n+5 by omega) lT,ak,eo];unfold fJ;rw[hx];exact⟨_,rfl,fun _=>rfl⟩
      · rw[ai h2];simp only[ay];by_cases h3:f.1=3
        · rw[ag h3,ai (show¬f.1=4 by omega)];simp only[av,ay];by_cases h0:f.2.2.1=0
          · rw[ag h0];simp only[av,vJh (show s.m.length<k by omega) lT hx,ak];exact⟨_,rfl,fun _=>rfl⟩
          · rw[ai h0];simp only[ay];by_cases h1:f.2.2.1=1
            · rw[ag h1];simp only[av,yWi (show s.m.length<k by omega) lT hx,ak];exact⟨_,rfl,fun _=>rfl⟩
            · rw[ai h1];exact by simp
        · rw[ai h3,ag (show f.1=4 by omega)];simp only[ay,av,yRx,ak,yTu (show s.m.length<k by omega) lT hx];by_cases c1:f.2.2.1<1
          · rw[ag c1,ai (show¬f.2.2.1≥1 by omega)];exact⟨_,rfl,fun e=>by cases e⟩
          · rw[ai c1,ag (show f.2.2.1≥1 by omega)];by_cases c2:f.2.2.1>3
            · rw[ag c2,ai (show¬f.2.2.1≤3 by omega)];exact⟨_,rfl,fun e=>by cases e⟩
            · rw[ai c2,ag (show f.2.2.1≤3 by omega)];simp only[Bool.and_self,bG,ay];by_cases hc:nn r.2.2.1 r.2.2.2.1 s.t f.2.2.1=0
              · rw[ag hc];exact⟨_,rfl,fun _=>rfl⟩
              · rw[ai hc];exact by simp
    · rw[ai hw];exact⟨_,rfl,fun e=>by cases e⟩
theorem vMu {k}(hk:1000≤k){r}(hr:wV r){s}(hb:qL s.B)(hn:(s.B.1.length:Int)=r.1){who}(hw:0≤who∧who<r.1) f:
    ∃d,xn k (rk r s who) f.1 f.2=some ((iD r s who f).1,d)∧((iD r s who f).1=0→d=qK r (iD r s who f).2 who [] 0):=by
  obtain⟨w,rfl⟩:=Int.eq_ofNat_of_zero_le hw.1;have eP:w<s.B.1.length:=by omega
  have eD:xn k (rk r s w) f.1 f.2=(mb k s.B.1 s.B.2.1 s.B.2.2.1 s.B.2.2.2).bind fun x0=>
    bif decide (f.1 = 5) then ((qq k (qK r s w [] 0) f.2.1).bind fun x1=>
      bif decide (x1<0) then some (1,qK r s w [] 0)
      else bif decide (x1=(w:Int)) then some (1,qK r s w [] 0)
      else bif decide (f.2.2.1<(-1)) then some (1,qK r s w [] 0)
      else bif decide (f.2.2.1>1152921504606846976) then some (1,qK r s w [] 0)
      else bif zC (w : Int) x0.2.1.length then (bif zC x1 (x0.2.1.getD (w:Int).toNat []).length then
        some (0,qK r {s with B:=(x0.1,(x0.2.1.set (w:Int).toNat ((x0.2.1.getD (w:Int).toNat []).set x1.toNat f.2.2.1)),x0.2.2.1,x0.2.2.2)} w [] 0)
       else none)
      else none)
    else bif decide (f.1 = 6) then (bif decide (f.2.1<(-1)) then some (1,qK r s w [] 0)
      else bif decide (f.2.1>1152921504606846976) then some (1,qK r s w [] 0)
      else bif zC (w:Int) x0.2.2.1.length then some (0,qK r {s with B:=(x0.1,x0.2.1,(x0.2.2.1.set (w:Int).toNat f.2.1),x0.2.2.2)} w [] 0)
      else none)
    else bif decide (f.2.1<0) then some (1,qK r s w [] 0)
    else bif decide (f.2.1>1152921504606846976) then some (1,qK r s w [] 0)
    else bif zC (w:Int) x0.1.length then some (0,qK r {s with B:=((x0.1.set (w:Int).toNat ((x0.1.getD (w:Int).toNat (0,0,0)).1,(x0.1.getD (w:Int).toNat (0,0,0)).2.1,f.2.1)),x0.2.1,x0.2.2.1,x0.2.2.2)} w [] 0)
    else none:=rfl
  rw[eD,FI (by omega) hb.toSized,RD];simp only[ak,zV,aC];have two:∀a b:Int,∀x:Int,decide (x<a)= !decide (x≥a)∧decide (x>b)= !decide (x≤b):=by
    intro a b x;constructor
    · by_cases h:x<a
      · rw[ag h,ai (show¬x≥a by omega)];rfl
      · rw[ai h,ag (show x≥a by omega)];rfl
    · by_cases h:x>b
      · rw[ag h,ai (show¬x≤b by omega)];rfl
      · rw[ai h,ag (show x≤b by omega)];rfl
  unfold iD;rw[aC,(two (-1) 1152921504606846976 f.2.2.1).1,(two (-1) 1152921504606846976 f.2.2.1).2,(two (-1) 1152921504606846976 f.2.1).1,(two (-1) 1152921504606846976 f.2.1).2,(two 0 0 f.2.1).1];by_cases h5:f.1=5
  · rw[ag h5];simp only[av];by_cases hc:0≤f.2.1∧f.2.1<r.1
    · rw[RE hc,ag (show f.2.1≥0 by omega),ag (show f.2.1≤r.1-1 by omega),ai (show¬f.2.1<0 by omega)];have b1:decide (w<s.B.2.1.length)=true:=ag (by rw[hb.bl];exact eP);have b2:zC f.2.1 (s.B.2.1.getD w []).length=true:=vw hc.1 (by rw[hb.br w eP];omega);rw[b1,b2];cases decide (f.2.1=(w:Int)) with
      |true=>exact⟨_,rfl,fun e=>by cases e⟩
      |false=>
        cases decide (f.2.2.1≥-1) with
        |false=>exact⟨_,rfl,fun e=>by cases e⟩
        |true=>
          cases decide (f.2.2.1≤1152921504606846976) with
          |false=>exact⟨_,rfl,fun e=>by cases e⟩
          |true=>exact⟨_,rfl,fun _=>rfl⟩
    · rw[RF hc];have g:(decide (f.2.1≥0)&&decide (f.2.1≤r.1-1))=false:=by
        by_cases a:f.2.1≥0
        · rw[ag a,ai (show¬f.2.1≤r.1-1 by omega)];rfl
        · rw[ai a];rfl
      rw[g];exact⟨_,rfl,fun e=>by cases e⟩
  · rw[ai h5];by_cases h6:f.1=6
    · rw[ag h6];have b1:decide (w<s.B.2.2.1.length)=true:=ag (by rw[hb.ml];exact eP);rw[b1];cases decide (f.2.1≥-1) with
      |false=>exact⟨_,rfl,fun e=>by cases e⟩
      |true=>
        cases decide (f.2.1≤1152921504606846976) with
        |false=>exact⟨_,rfl,fun e=>by cases e⟩
        |true=>exact⟨_,rfl,fun _=>rfl⟩
    · rw[ai h6];have b1:decide (w<s.B.1.length)=true:=ag eP;rw[b1];cases decide (f.2.1≥0) with
      |false=>exact⟨_,rfl,fun e=>by cases e⟩
      |true=>
        cases decide (f.2.1≤1152921504606846976) with
        |false=>exact⟨_,rfl,fun e=>by cases e⟩
        |true=>exact⟨_,rfl,fun _=>rfl⟩
theorem yBu {k l}(hl:l.length≤1000){i:Nat}(h1:i<l.length) v:qs k l i v=some (l.set i v):=by
 unfold qs;rw[qT (n:=0+l.length) (by omega) (by omega),ag (by simp),ag (by grind),zV,ag h1,aC];rfl
theorem yTe {r}(hr:wV r){s}(h:yO r s){who}(hw:0≤who∧who<r.1) a many:
    ∃d,Lw 1000 (rk r s who) a many=some ((iE r s who a many).1,d)∧((iE r s who a many).1=0→d=qK r (iE r s who a many).2 who [] 0):=by
  have h3:=hr.n3;have hn:=h.n;have eO:=h.bk.n6;have hol:=h.hol;obtain⟨w,rfl⟩:=Int.eq_ofNat_of_zero_le hw.1;have eP:w<s.B.1.length:=by omega
  have eD:Lw 1000 (rk r s w) a many=
    bif decide (a<0) then some (1,qK r s w [] 0)
    else bif decide (a≥(r.2.1.length:Int)) then some (1,qK r s w [] 0)
    else bif decide (many<0) then some (1,qK r s w [] 0)
    else bif decide (many>1099511627776) then some (1,qK r s w [] 0)
    else bif zC (w : Int) s.ho.length then ((qs 1000 (s.ho.getD (w:Int).toNat []) a many).bind fun x0=>
      (tE 1000 r.2.1 s.pr x0).bind fun x1=>
      bif !x1.2 then some (8,qK r s w [] 0)
      else bif decide (x1.1>1152921504606846976) then some (8,qK r s w [] 0)
      else(mb 1000 s.B.1 s.B.2.1 s.B.2.2.1 s.B.2.2.2).bind fun x2=>
      bif zC (w : Int) x2.1.length then (bif decide (x1.1 < (x2.1.getD (w : Int).toNat (0, 0, 0)).2.1) then (bif decide ((zA ((x2.1.getD (w:Int).toNat (0,0,0)).1+x1.1))<0) then some (9,qK r s w [] 0)
         else bif zC (w:Int) x2.1.length then(
          bif zR (0 + s.ho.length) 24 then (bif zC (w:Int) s.ho.length then
           some (0,qK r {s with B:=((x2.1.set (w:Int).toNat ((x2.1.getD (w:Int).toNat (0,0,0)).1,x1.1,(x2.1.getD (w:Int).toNat (0,0,0)).2.2)),x2.2.1,x2.2.2.1,x2.2.2.2),ho:=s.ho.set (w:Int).toNat x0} w [] 0)
           else none)
          else none)
         else none)
        else bif zC (w:Int) x2.1.length then(
         bif zR (0 + s.ho.length) 24 then (bif zC (w:Int) s.ho.length then
           some (0,qK r {s with B:=((x2.1.set (w:Int).toNat ((x2.1.getD (w:Int).toNat (0,0,0)).1,x1.1,(x2.1.getD (w:Int).toNat (0,0,0)).2.2)),x2.2.1,x2.2.2.1,x2.2.2.2),ho:=s.ho.set (w:Int).toNat x0} w [] 0)
          else none)
         else none)
        else none)
      else none)
    else none:=rfl
  rw[eD,FI (by omega) h.bk.toSized];simp only[ak,zV,aC];unfold iE;simp only[aC];by_cases c1:a<0
  · rw[ag c1,ai (show¬a≥0 by omega)];exact⟨_,rfl,fun e=>by cases e⟩
  rw[ai c1,ag (show a≥0 by omega)];by_cases c2:a≥(r.2.1.length:Int)
  · rw[ag c2,ai (show¬a≤(r.2.1.length:Int)-1 by omega)];exact⟨_,rfl,fun e=>by cases e⟩
  rw[ai c2,ag (show a≤(r.2.1.length:Int)-1 by omega)];by_cases c3:many<0
  · rw[ag c3,ai (show¬many≥0 by omega)];exact⟨_,rfl,fun e=>by cases e⟩
  rw[ai c3,ag (show many≥0 by omega)];by_cases c4:many>1099511627776
  · rw[ag c4,ai (show¬many≤1099511627776 by omega)];exact⟨_,rfl,fun e=>by cases e⟩
  rw[ai c4,ag (show many≤1099511627776 by omega)];obtain⟨i,rfl⟩:=Int.eq_ofNat_of_zero_le (show 0≤a by omega);have hi:i<r.2.1.length:=by omega
  have L:=h.laid w eP;have L2:=L.set hi (v:=many) ⟨by omega,by omega⟩;have b1:decide (w<s.ho.length)=true:=ag (by omega);have b2:decide (w<s.B.1.length)=true:=ag eP;have j5:qs 1000 (s.ho.getD w []) (i:Int) many=some ((s.ho.getD w []).set i many):=yBu (by rw[L.hl];omega) (by rw[L.hl];omega) many;have hv:=Rp L2;have hb:=h.bk.nums.bal w eP;have uI:=BU L2;have e24:zR (0+s.ho.length) 24=true:=qT (by omega) (by omega);simp only[Bool.and_self,bG,ay,b1,av,j5,ak,hv,b2,aC,e24];clear hv L2 eD;generalize gL r.2.1 s.pr ((s.ho.getD w []).set i many)=n at uI⊢;unfold Cx;cases Rb:decide (n>1152921504606846976) with
  |true=>exact⟨_,rfl,fun e=>by cases e⟩
  |false=>
    have h8:¬n>1152921504606846976:=om Rb;have w2:zA ((s.B.1.getD w (0,0,0)).1+n)=(s.B.1.getD w (0,0,0)).1+n:=zN (by have:=hb.1;simp only[ad] at this;omega) (by have:=hb.2;simp only[ad] at this;omega);simp only[w2,ay];cases decide (n<(s.B.1.getD w (0,0,0)).2.1) with
    |false=>exact⟨_,rfl,fun _=>rfl⟩
    |true=>
      cases decide ((s.B.1.getD w (0,0,0)).1+n<0) with
      |true=>exact⟨_,rfl,fun e=>by cases e⟩
      |false=>exact⟨_,rfl,fun _=>rfl⟩
theorem In9 {k}{a:qQ}(ha:-4611686018427387904<a.1∧a.1<4611686018427387904){n}(hn:1≤n∧n≤1099511627776):CT k a n=some (wR a n):=by
 unfold CT wR CD;rw[ag (by grind),zN (x:=9223372036854775807-n) (by omega) (by omega),ai (by grind),ai (by grind),zN (x:=a.1+n) (by omega) (by omega)];simp[P0];grind
theorem yYr {r}(hr:wV r){s}(h:yO r s) who kd to n (JJ:kd=10∨kd=11):
    ∃d,CU 1000 (rk r s who) (decide (kd=10)) to n=some ((iF r s kd to n).1,d)∧((iF r s kd to n).1=0→d=qK r (iF r s kd to n).2 who [] 0):=by
  have hn:=h.n;have ht:=h.tot;have eD:CU 1000 (rk r s who) (decide (kd=10)) to n=(qq 1000 (qK r s who [] 0) to).bind fun x0=>
    bif decide (x0<0) then some (1,qK r s who [] 0)
    else bif decide (n<1) then some (1,qK r s who [] 0)
    else bif decide (n>1099511627776) then some (1,qK r s who [] 0)
    else(mb 1000 s.B.1 s.B.2.1 s.B.2.2.1 s.B.2.2.2).bind fun x1=>
    bif decide (kd = 10) then (bif zC x0 x1.1.length then ((CT 1000 (x1.1.getD x0.toNat (0,0,0)) n).bind fun x2=>
      bif decide ((zA (s.to+n))>1152921504606846976) then some (8,qK r s who [] 0)
      else bif !(decide (x2.2=0)) then some (8,qK r s who [] 0)
      else bif zC x0 x1.1.length then some (0,qK r {s with B:=((x1.1.set x0.toNat x2.1),x1.2.1,x1.2.2.1,x1.2.2.2),to:=zA (s.to+n)} who [] 0)
      else none)
     else none)
    else bif zC x0 x1.1.length then (bif decide ((zA ((zA ((x1.1.getD x0.toNat (0,0,0)).1+(x1.1.getD x0.toNat (0,0,0)).2.1))-(x1.1.getD x0.toNat (0,0,0)).2.2))<n) then some (9,qK r s who [] 0)
     else bif decide (s.to<n) then some (9,qK r s who [] 0)
     else bif zC x0 x1.1.length then
      some (0,qK r {s with B:=((x1.1.set x0.toNat ((zA ((x1.1.getD x0.toNat (0,0,0)).1-n)),(x1.1.getD x0.toNat (0,0,0)).2)),x1.2.1,x1.2.2.1,x1.2.2.2),to:=zA (s.to-n)} who [] 0)
     else none)
    else none:=rfl
  rw[eD,RD,FI (by omega) h.bk.toSized];simp only[ak];unfold iF;by_cases hc:0≤to∧to<r.1
  · rw[RE hc,ai (show¬to<0 by omega),ag (show to≥0 by omega),ag (show to≤r.1-1 by omega)];by_cases c1:n<1
    · rw[ag c1,ai (show¬n≥1 by omega)];exact⟨_,rfl,fun e=>by cases e⟩
    rw[ai c1,ag (show n≥1 by omega)];by_cases c2:n>1099511627776
    · rw[ag c2,ai (show¬n≤1099511627776 by omega)];exact⟨_,rfl,fun e=>by cases e⟩
    rw[ai c2,ag (show n≤1099511627776 by omega)];obtain⟨i,rfl⟩:=Int.eq_ofNat_of_zero_le hc.1;have hi:i<s.B.1.length:=by omega
    have hb:=h.bk.nums.bal i hi;have iq:=h.bk.nums.res i hi;have hcr:=h.most i hi;have Rr:0≤(s.B.1.getD i ad).2.1:=by rw[h.cred i hi];exact BU (h.laid i hi)
    have RI:=oM.1 (h.bk.acct i hi);have b0:zC (i:Int) s.B.1.length=true:=by rw[zV,ag hi]
    have q2:zA (s.to-n)=s.to-n:=zN (by omega) (by omega);have q3:zA (s.to+n)=s.to+n:=zN (by omega) (by omega);have Hc:CT 1000 (s.B.1.getD i (0,0,0)) n=some (wR (s.B.1.getD i ad) n):=In9 hb ⟨by omega,by omega⟩;simp only[Bool.and_self,bG,ay,b0,av,aC,Hc,ak,q2,q3];clear Hc eD;rcases JJ with e|e
    · rw[ag e,ai (show¬kd=11 by omega)];simp only[av,ay];unfold Hb;cases hz:decide ((wR (s.B.1.getD i ad) n).2=0) with
      |false=>
        have e8:(wR (s.B.1.getD i ad) n).2=8:=by
          have:=om hz;unfold wR at this⊢;cases hx:jF ((s.B.1.getD i ad).1+n,(s.B.1.getD i ad).2.1,(s.B.1.getD i ad).2.2) with
          |true=>rw[hx] at this;exact absurd rfl this
          |false=>rfl
        rw[e8];cases decide (s.to+n>1152921504606846976)<;>exact⟨_,rfl,fun e=>by cases e⟩
      |true=>
        cases decide (s.to+n>1152921504606846976) with
        |true=>exact⟨_,rfl,fun e=>by cases e⟩
        |false=>exact⟨_,rfl,fun _=>rfl⟩
    · rw[ai (show¬kd=10 by omega),ag e];simp only[av,ay];unfold Ha;have q1:zA ((s.B.1.getD i (0,0,0)).1+(s.B.1.getD i (0,0,0)).2.1)=(s.B.1.getD i ad).1+(s.B.1.getD i ad).2.1:=zN (by simp only[ad] at*;omega) (by simp only[ad] at*;omega);have q4:zA ((s.B.1.getD i ad).1+(s.B.1.getD i ad).2.1-(s.B.1.getD i (0,0,0)).2.2)=(s.B.1.getD i ad).1+(s.B.1.getD i ad).2.1-(s.B.1.getD i ad).2.2:=zN (by simp only[ad] at*;omega) (by simp only[ad] at*;omega);have q5:zA ((s.B.1.getD i (0,0,0)).1-n)=(s.B.1.getD i ad).1+-n:=by rw[zN (by simp only[ad] at*;omega) (by simp only[ad] at*;omega)];rfl
      simp only[q1,q4,q5];by_cases c5:(s.B.1.getD i ad).1+(s.B.1.getD i ad).2.1-(s.B.1.getD i ad).2.2<n
      · rw[ag c5];exact⟨_,rfl,fun e=>by cases e⟩
      rw[ai c5];by_cases c6:s.to<n
      · rw[ag c6,ag (show s.to-n<0 by omega)];exact⟨_,rfl,fun e=>by cases e⟩
      rw[ai c6,ai (show¬s.to-n<0 by omega),ai (show¬s.to-n>1152921504606846976 by omega)];have em:wR (s.B.1.getD i ad) (-n)=(((s.B.1.getD i ad).1+-n,(s.B.1.getD i ad).2.1,(s.B.1.getD i ad).2.2),0):=by
        unfold wR;have:jF ((s.B.1.getD i ad).1+-n,(s.B.1.getD i ad).2.1,(s.B.1.getD i ad).2.2)=true:=oM.2 ⟨by simp only;omega,RI.2⟩;rw[this];rfl
      rw[em];exact⟨_,rfl,fun _=>rfl⟩
  · rw[RF hc];have g:(decide (to≥0)&&decide (to≤r.1-1))=false:=by
      by_cases a:to≥0
      · rw[ag a,ai (show¬to≤r.1-1 by omega)];rfl
      · rw[ai a];rfl
    rw[g];exact⟨_,rfl,fun e=>by cases e⟩
theorem vJz {r s} who {pr}(hL:∀i,i<s.B.1.length→gM r.2.1 pr (s.ho.getD i []))(hol:s.ho.length=s.B.1.length)(eO:s.B.1.length≤6):
  (qA (fun j=> !decide (jX r.2.1 pr s.ho j>1152921504606846976)) s.B.1.length 0=true∧qt 1000 1000 0 (rk r s who) pr s.B.1 s.B.2.1 s.B.2.2.1 s.B.2.2.2=some (.inl (rk r s who,pr,qo r.2.1 pr s.ho s.B.1,s.B.2.1,s.B.2.2.1,s.B.2.2.2)))∨
  (qA (fun j=> !decide (jX r.2.1 pr s.ho j>1152921504606846976)) s.B.1.length 0=false∧qt 1000 1000 0 (rk r s who) pr s.B.1 s.B.2.1 s.B.2.2.1 s.B.2.2.2=some (.inr (8,rk r s who))):=by
 have:=Kk (L:=fun n i (a:List qQ)=>qt 1000 n i (rk r s who) pr a s.B.2.1 s.B.2.2.1 s.B.2.2.2) (N:=s.B.1.length) (fun j=> !decide (jX r.2.1 pr s.ho j>1152921504606846976))
  (fun a=>.inl (rk r s who,pr,a,s.B.2.1,s.B.2.2.1,s.B.2.2.2)) (.inr (8,rk r s who))
  (fun i a => a.length = s.B.1.length ∧ ∀ j, j < s.B.1.length → a.getD j ad = if j < i then ((s.B.1.getD j ad).1, jX r.2.1 pr s.ho j, (s.B.1.getD j ad).2.2) else s.B.1.getD j ad) (fun n a ha=>by
   show CV 1000 _ s.B.1.length (rk r s who) pr a s.B.2.1 s.B.2.2.1 s.B.2.2.2=_;unfold CV;simp_all) (fun n i a hi ha=>by
   have hv:=Rp (hL i hi);have aH:qt 1000 (n+1) i (rk r s who) pr a s.B.2.1 s.B.2.2.1 s.B.2.2.2=bif decide (jX r.2.1 pr s.ho i>1152921504606846976) then some (.inr (8,rk r s who)) else qt 1000 n ((i+1:Nat):Int) (rk r s who) pr (a.set i ((a.getD i ad).1,jX r.2.1 pr s.ho i,(a.getD i ad).2.2)) s.B.2.1 s.B.2.2.1 s.B.2.2.2:=by
    show CV 1000 _ i (rk r s who) pr a s.B.2.1 s.B.2.2.1 s.B.2.2.2=_;unfold CV;have fS:tE 1000 (rk r s who).2.1 pr (s.ho.getD i [])=some (jX r.2.1 pr s.ho i,true):=hv;have eh:(rk r s who).2.2.2.2.2.2.2.2.2.2.2.1=s.ho:=rfl;simp only[eh,qM,zV,aC,ag (show i<s.ho.length by omega),ag (show i<a.length by omega),av,fS,bG,ay,qD hi (by grind)];rfl
   grind) s.B.1.length 0 1000 s.B.1 (by omega) (by omega) (by simp)
 rcases this with⟨h1,a,h2,h3,h4⟩|⟨h1,h2⟩
 ·have e:a=qo r.2.1 pr s.ho s.B.1:=Au ad (by rw[h3,Rs]) fun j hj=>by
   rw[h3] at hj;rw[h4 j hj,if_pos hj,Rt _ _ _ _ hj]
  simp_all
 simp_all
theorem vAj {r}(hr:wV r){s}(h:yO r s) who a p:
  ∃d,Lx 1000 (rk r s who) a p=some ((iG r s a p).1,d)∧((iG r s a p).1=0→d=qK r (iG r s a p).2 who [] 0):=by
 have h3:=hr.n3;have eO:=h.bk.n6;have kA:=h.bk.n1;have eD:Lx 1000 (rk r s who) a p=
  bif decide (a<0) then some (1,qK r s who [] 0)
  else bif decide (a≥(r.2.1.length:Int)) then some (1,qK r s who [] 0)
  else bif decide (p<0) then some (1,qK r s who [] 0)
  else bif decide (p>1048576) then some (1,qK r s who [] 0)
  else(qs 1000 s.pr a p).bind fun x0=>
  (mb 1000 s.B.1 s.B.2.1 s.B.2.2.1 s.B.2.2.2).bind fun x1=>
  (qt 1000 1000 0 (rk r s who) x0 x1.1 x1.2.1 x1.2.2.1 x1.2.2.2).bind fun z=>
  match z with
  |.inl z1=>some (0,(wJ z1.1 (xi z1 (z1.2.1,(yRj z1.1 ([],z1.1.2.2.2.2.2.2.2.2.2.2.2.2.2.2.2.2.2))))))
  |.inr z2=>some (qU1 z2 ([],z2.2.2.2.2.2.2.2.2.2.2.2.2.2.2.2.2.2.2)):=rfl
 rw[eD,FI (by omega) h.bk.toSized];simp only[ak];unfold iG;by_cases c1:a<0
 ·rw[ag c1,ai (show¬a≥0 by omega)];exact by simp
 rw[ai c1,ag (show a≥0 by omega)];by_cases c2:a≥(r.2.1.length:Int)
 ·grind
 rw[ai c2,ag (show a≤(r.2.1.length:Int)-1 by omega)];by_cases c3:p<0
 ·rw[ag c3,ai (show¬p≥0 by omega)];exact by simp
 rw[ai c3,ag (show p≥0 by omega)];by_cases c4:p>1048576
 ·rw[ag c4,ai (show¬p≤1048576 by omega)];exact by simp
 rw[ai c4,ag (show p≤1048576 by omega)];obtain⟨i,rfl⟩:=Int.eq_ofNat_of_zero_le (show 0≤a by omega);have hi:i<r.2.1.length:=by omega
 have L0:=h.laid 0 (by omega);have j5:qs 1000 s.pr (i:Int) p=some (s.pr.set i p):=yBu (by rw[L0.pl];omega) (by rw[L0.pl];omega) p;simp only[Bool.and_self,bG,ay,j5,ak,aC];unfold CO;rcases vJz (r:=r) (s:=s) who (pr:=s.pr.set i p) (fun j hj=>(h.laid j hj).setP hi ⟨by omega,by omega⟩) h.hol eO with⟨g1,g2⟩|⟨g1,g2⟩
 ·rw[g2,g1];exact⟨_,rfl,fun _=>rfl⟩
 ·rw[g2,g1];exact⟨_,rfl,fun e=>by cases e⟩
theorem yLk {m}(hd:qI m){i}(hi:i<m.length):eN m (m.getD i pd).1=(i:Int):=by
 obtain⟨x,hx⟩:=KB (jU (d:=pd) hi);have h:=iy hx;unfold eN;have:x=i:=by
  rcases Nat.lt_trichotomy x i with g|g|g
  ·have:=List.pairwise_iff_getElem.1 hd x i h.1 hi g;grind
  ·exact g
  ·have:=List.pairwise_iff_getElem.1 hd i x hi h.1 g;grind
 simp_all
theorem yZ7 {k}(hk:100<k){B}(h:qL B){l:List zG}(hl:l.length≤80):FY k B.1 B.2.1 B.2.2.1 B.2.2.2 l=some (sZ B l):=vQa hk h hl
theorem Ly {k}(hk:100<k){B}(h:qL B){l:List zG}(hl:l.length≤80):
  ∃C:BT,qu k B.1 B.2.1 B.2.2.1 B.2.2.2 l=some (C.1,C.2.1,C.2.2.1,C.2.2.2,(fL k B l).isSome)∧(∀D,fL k B l=some D→D=C):=by
 obtain⟨r,h1,h2,h3⟩:=BV hk h hl;unfold qu fL;rw[h2,h1,yZ7 hk h hl];refine⟨(r.1,r.2.1,r.2.2.1,r.2.2.2.1),?_,?_⟩;all_goals grind
theorem yMd {k}(hk:100<k){B}(h:qL B)(m:List zG)(hm:m.length≤1000):∀c i n,i+c=m.length→c<n→
  Hg k n i B.1 B.2.1 B.2.2.1 B.2.2.2 0 0 0 0 0 0 0 m = some (match jR k B (m.drop i) with
   |some (p,C)=>.inr (true,p.1,p.2.1,p.2.2.1,p.2.2.2.1,p.2.2.2.2.1,p.2.2.2.2.2.1,p.2.2.2.2.2.2)
   |none=>.inl (0,0,0,0,0,0,0))
 |0,i,n,e,hn=>by
  obtain⟨n,rfl⟩:∃x,n=x+1:=⟨n-1,by omega⟩;have:i=m.length:=by omega
  subst this;show CW k _ m.length B.1 B.2.1 B.2.2.1 B.2.2.2 0 0 0 0 0 0 0 m=_;unfold CW;simp;rfl
 |c+1,i,n,e,hn=>by
  obtain⟨n,rfl⟩:∃x,n=x+1:=⟨n-1,by omega⟩;have hi:i<m.length:=by omega
  have ih:=yMd hk h m hm c (i+1) n (by omega) (by omega);show CW k _ i B.1 B.2.1 B.2.2.1 B.2.2.2 0 0 0 0 0 0 0 m=_;unfold CW;obtain⟨C,h1,h2⟩:=Ly hk h (l:=[m.getD i pd]) (by simp);have c1:decide ((0:Int)≤(i:Int))=true:=by simp
  have c2:decide ((i:Int)≤((i+1:Nat):Int))=true:=by grind
  have c3:decide (((i+1:Nat):Int)≤(m.length:Int))=true:=by grind
  simp only[zV,qD hi (by grind),aC,vDd m i hi];rw[yAf k B hi];grind
theorem qVr {k} (hk : 100 < k) {B} (h : qL B) {l} (bI : l.length < k) (hl : qN l) t : LA k B.1 B.2.1 B.2.2.1 B.2.2.2 l t = some (match jR k B (vO l t) with
   |some (p,C)=>(p.1,p.2.1,p.2.2.1,p.2.2.2.1,p.2.2.2.2.1,p.2.2.2.2.2.1,p.2.2.2.2.2.2,true)
   |none=>(0,0,0,0,0,0,0,false)):=by
 unfold LA;rw[qU0 bI hl];have BY:=KQ l t;unfold qN at hl;have:=yMd hk h (vO l t) (by omega) (vO l t).length 0 k (by omega) (by omega);grind
theorem yY3 {k}(hk:100<k) t {B C l m done}(h:fj k t B l done C m):∀n (r:List zG),qL B→l.length≤100→l.length<n→r.length+l.length≤1000→
  Hh k n l t B.1 B.2.1 B.2.2.1 B.2.2.2 r=some (m,C.1,C.2.1,C.2.2.1,C.2.2.2,r++done):=by
 induction h with
 |@stop B l hx=>
  intro n r hb hl hn hr;obtain⟨n,rfl⟩:∃x,n=x+1:=⟨n-1,by omega⟩;have h2:=qVr hk hb (l:=l) (by omega) (by show l.length≤1000;omega) t;rw[hx] at h2;show CX k _ l t B.1 B.2.1 B.2.2.1 B.2.2.2 r=_;unfold CX;simp_all
 |@step B C D l m done p hx _ ih=>
  intro n r hb hl hn hr;obtain⟨n,rfl⟩:∃x,n=x+1:=⟨n-1,by omega⟩;have h2:=qVr hk hb (l:=l) (by omega) (by show l.length≤1000;omega) t;rw[hx] at h2;obtain⟨hp,hg⟩:=wy hx;have zk:=BW hp;obtain⟨pq,kX⟩:=qb zk;obtain⟨mO,cT⟩:=oE hk hb (by simp) hg;have g2:=ih n (r++[p]) mO (by omega) (by omega) (by grind);show CX k _ l t B.1 B.2.1 B.2.2.1 B.2.2.2 r=_;unfold CX;rw[h2];obtain⟨C',e1,e2⟩:=Ly hk hb (l:=[p]) (by simp);have:=e2 C hg;subst this;simp[qn (show l.length<k by omega) (show qN l by show l.length≤1000;omega),lr (show r.length≤1000 by omega)];rw[List.append_cons r p done,←g2];have Hi:qu k B.1 B.2.1 B.2.2.1 B.2.2.2 [(p.1,p.2.1,p.2.2.1,p.2.2.2.1,p.2.2.2.2.1,p.2.2.2.2.2.1,p.2.2.2.2.2.2)]=_:=e1;rw[Hi];rfl
theorem yRo {k}(hk:200≤k){B C}(hb:qL B){l m done}(hl:l.length≤100){t}(h:fj k t B l done C m):LB k B.1 B.2.1 B.2.2.1 B.2.2.2 l t=some (C.1,C.2.1,C.2.2.1,C.2.2.2,m,done):=by
 unfold LB;rw[yY3 (by omega) t h k [] hb hl (by omega) (by grind)];rfl
def RJ (x:Option (zG×zG×BT)):Int×Int×Int×Int×Int×Int×Int×Int×Int×Int×Int×Int×Int×Int×Bool:=match x with
 |some (p,q,C)=>(p.1,p.2.1,p.2.2.1,p.2.2.2.1,p.2.2.2.2.1,p.2.2.2.2.2.1,p.2.2.2.2.2.2,q.1,q.2.1,q.2.2.1,q.2.2.2.1,q.2.2.2.2.1,q.2.2.2.2.2.1,q.2.2.2.2.2.2,true)
 |none=>(0,0,0,0,0,0,0,0,0,0,0,0,0,0,false)
theorem qVh {k}(hk:100<k){B}(h:qL B)(m:List zG)(hm:m.length≤1000){j}(hj:j<m.length):∀c i n,i+c=m.length→c<n→
  Hj k n j i B.1 B.2.1 B.2.2.1 B.2.2.2 0 0 0 0 0 0 0 0 0 0 0 0 0 0 m = some (match mh k B (m.getD j pd) (m.drop i) with
   |some (q,C)=>.inr (true,(m.getD j pd).1,(m.getD j pd).2.1,(m.getD j pd).2.2.1,(m.getD j pd).2.2.2.1,(m.getD j pd).2.2.2.2.1,(m.getD j pd).2.2.2.2.2.1,(m.getD j pd).2.2.2.2.2.2,q.1,q.2.1,q.2.2.1,q.2.2.2.1,q.2.2.2.2.1,q.2.2.2.2.2.1,q.2.2.2.2.2.2)
   |none=>.inl ((j:Int),B.1,B.2.1,B.2.2.1,B.2.2.2,0,0,0,0,0,0,0,0,0,0,0,0,0,0,m))
 |0,i,n,e,hn=>by
  obtain⟨n,rfl⟩:∃x,n=x+1:=⟨n-1,by omega⟩;have:i=m.length:=by omega
  subst this;show CY k _ j m.length B.1 B.2.1 B.2.2.1 B.2.2.2 0 0 0 0 0 0 0 0 0 0 0 0 0 0 m=_;unfold CY;simp;rfl
 |c+1,i,n,e,hn=>by
  obtain⟨n,rfl⟩:∃x,n=x+1:=⟨n-1,by omega⟩;have hi:i<m.length:=by omega
  have ih:=qVh hk h m hm hj c (i+1) n (by omega) (by omega);show CY k _ j i B.1 B.2.1 B.2.2.1 B.2.2.2 0 0 0 0 0 0 0 0 0 0 0 0 0 0 m=_;unfold CY;obtain⟨C,h1,h2⟩:=Ly hk h (l:=[m.getD j pd,m.getD i pd]) (by simp);simp[zV,qD hi (by grind),h1];rw[yJa k B _ hi];unfold nj;grind
theorem qUe {k}(hk:100<k){B}(h:qL B)(m:List zG)(hm:m.length≤1000)(GB:m.length<k):∀c i n,i+c=m.length→c<n→
  Hk k n i B.1 B.2.1 B.2.2.1 B.2.2.2 0 0 0 0 0 0 0 0 0 0 0 0 0 0 m = some (match oF k B m (m.drop i) with
   |some (p,q,C)=>.inr (true,p.1,p.2.1,p.2.2.1,p.2.2.2.1,p.2.2.2.2.1,p.2.2.2.2.2.1,p.2.2.2.2.2.2,q.1,q.2.1,q.2.2.1,q.2.2.2.1,q.2.2.2.2.1,q.2.2.2.2.2.1,q.2.2.2.2.2.2)
   |none=>.inl (0,0,0,0,0,0,0,0,0,0,0,0,0,0))
 |0,i,n,e,hn=>by
  obtain⟨n,rfl⟩:∃x,n=x+1:=⟨n-1,by omega⟩;have:i=m.length:=by omega
  subst this;show CZ k _ m.length B.1 B.2.1 B.2.2.1 B.2.2.2 0 0 0 0 0 0 0 0 0 0 0 0 0 0 m=_;unfold CZ;simp;rfl
 |c+1,i,n,e,hn=>by
  obtain⟨n,rfl⟩:∃x,n=x+1:=⟨n-1,by omega⟩;have hi:i<m.length:=by omega
  have ih:=qUe hk h m hm GB c (i+1) n (by omega) (by omega);show CZ k _ i B.1 B.2.1 B.2.2.1 B.2.2.2 0 0 0 0 0 0 0 0 0 0 0 0 0 0 m=_;unfold CZ;have dZ:=qVh hk h m hm hi m.length 0 k (by omega) GB;have e0:((0:Nat):Int)=0:=rfl;rw[e0,List.drop_zero] at dZ;simp[ag hi];rw[dZ];rw[yLo k B m hi];cases mh k B (m.getD i pd) m with
  |none=>
   simp[qD hi (by grind)];exact ih
  |some x=>rfl
theorem yGn {k}(hk:100<k){B}(h:qL B){l}(bI:l.length<k)(hl:qN l) t:LC k B.1 B.2.1 B.2.2.1 B.2.2.2 l t=some (RJ (jJ k B l t)):=by
 unfold LC jJ;rw[qU0 bI hl];have BY:=KQ l t;unfold qN at hl;have:=qUe hk h (vO l t) (by omega) (by omega) (vO l t).length 0 k (by omega) (by omega);have e:((0:Nat):Int)=0:=rfl;rw[e,List.drop_zero] at this;simp;rw[this];cases oF k B (vO l t) (vO l t) with
 |none=>rfl
 |some x=>rfl
theorem yXm {k}(hk:100<k) t {B C l m done}(h:wO k t B l done C m):∀n (r:List zG),qL B→qI l→l.length≤100→l.length<n→r.length+l.length≤900→
  Hl k n l t B.1 B.2.1 B.2.2.1 B.2.2.2 r=some (m,C.1,C.2.1,C.2.2.1,C.2.2.2,r++done):=by
 induction h with
 |@stop B l hx=>
  intro n r hb hd hl hn hr;obtain⟨n,rfl⟩:∃x,n=x+1:=⟨n-1,by omega⟩;have h2:=yGn hk hb (l:=l) (by omega) (by show l.length≤1000;omega) t;rw[hx] at h2;show C3 k _ l t B.1 B.2.1 B.2.2.1 B.2.2.2 r=_;unfold C3;rw[h2];simp only[ak,RJ,fY,av,List.append_nil]
 |@step B C D l m done p q hx _ ih=>
  intro n r hb hd hl hn hr;obtain⟨n,rfl⟩:∃x,n=x+1:=⟨n-1,by omega⟩;have h2:=yGn hk hb (l:=l) (by omega) (by show l.length≤1000;omega) t;rw[hx] at h2;obtain⟨hp,hq,mi,hg⟩:=B1 hx;obtain⟨pq,kX⟩:=B2 hd hp hq mi;obtain⟨mO,cT⟩:=oE hk hb (by simp) hg;have oI:(wX l p.1).length≤l.length:=(qb hp).2.length_le;have g2:=ih n (r++[p,q]) mO (List.Pairwise.sublist kX hd) (by omega) (by omega) (by grind);have e2:r++[p,q]++done=r++p::q::done:=by rw[List.append_assoc];rfl
  show C3 k _ l t B.1 B.2.1 B.2.2.1 B.2.2.2 r=_;unfold C3;rw[h2];obtain⟨C',e1,e2'⟩:=Ly hk hb (l:=[p,q]) (by simp);have:=e2' C hg;subst this;have Hi:qu k B.1 B.2.1 B.2.2.1 B.2.2.2 [(p.1,p.2.1,p.2.2.1,p.2.2.2.1,p.2.2.2.2.1,p.2.2.2.2.2.1,p.2.2.2.2.2.2),(q.1,q.2.1,q.2.2.1,q.2.2.2.1,q.2.2.2.2.1,q.2.2.2.2.2.1,q.2.2.2.2.2.2)]=_:=e1;have d1:=qn (show l.length<k by omega) (show qN l by show l.length≤1000;omega) p.1;have d2:=qn (k:=k) (l:=(fJ l p.1).1) (Nat.lt_of_le_of_lt oI (by omega)) (Nat.le_trans oI (by omega)) q.1;have e3:zR (r.length+2) 56=true:=qT (by omega) (by omega);simp only[ak,RJ,Hi,d1,d2,e3];rw[←e2,←g2];rfl
theorem yK1 {k}(hk:200≤k){B C}(hb:qL B){l m done}(hd:qI l)(hl:l.length≤100){t}(h:wO k t B l done C m):LD k B.1 B.2.1 B.2.2.1 B.2.2.2 l t=some (C.1,C.2.1,C.2.2.1,C.2.2.2,m,done):=by
 unfold LD;rw[yXm (by omega) t h k [] hb hd hl (by omega) (by grind)];rfl
theorem RK {k l}(hk:l.length<k)(hl:qN l) many:C4 k l many=some (yX l many):=by
 unfold qN at hl;unfold C4;obtain ⟨s', h1, h2⟩ := yZ (L := fun n i s => C5 k n l many i s) (N := l.length) (fun s => s) (fun i s => s = kE l many i) (fun n s _=>by
  show C6 k _ l many l.length s=_;unfold C6;simp) (fun n i s hi hs=>by
  have dP:s.length≤i:=by rw[hs];exact QX l many i
  refine⟨bif oG l many i then s++[l.getD i pd] else s,?_,?_⟩
  ·show C6 k _ l many i s=_;unfold C6;have c1:decide ((0:Int)≤(i:Int))=true:=by simp
   have c2:decide ((i:Int)≤(l.length:Int))=true:=by grind
   have Qz:=Kw (k:=k) (l:=l.take i) (by grind) (by show(l.take i).length≤1000;grind) (l.getD i pd).2.1;simp only[zV,qD hi (by grind),qM,aC,ag hi,lr (show s.length≤1000 by omega),c2,Qz];unfold oG wQ;cases e1:decide ((l.getD i (0,(0,(0,(0,(0,(0,0))))))).2.1≥0) with
   |false=>rfl
   |true=>
    cases e2:decide ((l.getD i (0,(0,(0,(0,(0,(0,0))))))).2.1<(many.length:Int)) with
    |false=>rfl
    |true=>
     rw[bO] at e1 e2;have hb:zC (l.getD i (0,(0,(0,(0,(0,(0,0))))))).2.1 many.length=true:=vw e1 (by omega);grind
  ·show _=kE l many i++_;grind) (s:=[]) hk rfl
 have eM:C5 k k l many 0 []=some s':=h1;rw[eM,h2];rfl
theorem yYy {k}{B:BT}{l}(hk:l.length<k)(hl:qN l)(hn:B.1.length<k)(hn':B.1.length≤1000):
  xo k k 0 B.1 B.2.1 B.2.2.1 B.2.2.2 l []=some (B.1,B.2.1,B.2.2.1,B.2.2.2,l,fk l B.1.length):=by
 obtain ⟨s', h1, h2⟩ := yZ (L := fun n i (s : AC) => xo k n i B.1 B.2.1 B.2.2.1 B.2.2.2 l s) (N := B.1.length) (fun s => (B.1, B.2.1, B.2.2.1, B.2.2.2, l, s)) (fun i s => s = fk l i) (fun n s _=>by
  show C7 k _ B.1.length B.1 B.2.1 B.2.2.1 B.2.2.2 l s=_;unfold C7;simp) (fun n i s hi hs=>by
  refine⟨_,?_,(yEc l i).symm⟩;show C7 k _ i B.1 B.2.1 B.2.2.1 B.2.2.2 l s=_;unfold C7;have hr:zR (s.length+1) 8=true:=by rw[hs,tf];exact qT (by omega) (by omega)
  simp[ag hi,Kw hk hl,hr,qD hi (by grind)];rw[hs];rfl) (s:=[]) hn rfl
 simp_all
theorem vIk {k}{B:BT}{l:List zG}{s m}(hk:s.length<k)(hs:s.length≤1000)(dZ:∀x∈s,0≤x∧x<(m.length:Int))(h0:mj m)(hm:∀i,m.getD i 0≤1000) bc:
  C8 k k bc 0 B.1 B.2.1 B.2.2.1 B.2.2.2 l m s=some (bc,B.1,B.2.1,B.2.2.1,B.2.2.2,l,wZ s m):=by
 obtain ⟨s', h1, h2⟩ := yZ (L := fun n i (r : AC) => C8 k n bc i B.1 B.2.1 B.2.2.1 B.2.2.2 l r s) (N := s.length) (fun r => (bc, B.1, B.2.1, B.2.2.1, B.2.2.2, l, r)) (fun i r => r = wZ (s.take i) m) (fun n r _=>by
  show C9 k _ bc s.length B.1 B.2.1 B.2.2.1 B.2.2.2 l r s=_;unfold C9;simp) (fun n i r hi hr=>by
  refine⟨_,?_,(yRl s m i hi).symm⟩;show C9 k _ bc i B.1 B.2.1 B.2.2.1 B.2.2.2 l r s=_;unfold C9;obtain⟨b1,b2⟩:=dZ _ (jU (d:=0) hi);have rY:r.length=m.length:=by rw[hr,qd]
  have hb:zC (s.getD i 0) r.length=true:=vw b1 (by omega);have PV:=GG (s.take i) m (s.getD i 0).toNat;have ES:=h0 (s.getD i 0).toNat;have sC:=hm (s.getD i 0).toNat;have bn:(s.take i).length≤s.length:=by grind
  have hw:zA (r.getD (s.getD i 0).toNat 0-1)=r.getD (s.getD i 0).toNat 0-1:=by
   rw[hr];exact zN (by omega) (by omega)
  simp only[qM,zV,aC,ag hi,av,hb,hw,qD hi (by grind)];rw[hr]) (s:=m) hk rfl
 simp_all
theorem vRu {k}(hk:100<k){B}(hb:qL B){l}(hl:∀q∈l,qY B.1.length q)(bT:l.length≤64){m f n}(h:iz B l m f n):
  ∀N (s7:Int),m.length=B.1.length→mj m→(∀i,m.getD i 0≤1000)→n<N→0≤s7→s7+n<1000000→
  Hm k N s7 B.1 B.2.1 B.2.2.1 B.2.2.2 l m=some (s7+n,f):=by
 induction h with
 |@stop m h=>
  intro N s7 hm h0 h1 hn hs uQ;obtain⟨N,rfl⟩:∃x,N=x+1:=⟨N-1,by omega⟩;show Da k _ s7 B.1 B.2.1 B.2.2.1 B.2.2.2 l m=_;unfold Da;have hS:=yHj hk hb (GH hl bT m);have lQ:pV k B.1 B.2.1 B.2.2.1 B.2.2.2 (yX l m)=some (wT B (yX l m)):=hS;rw[RK (by omega) (show qN l by show l.length≤1000;omega)];simp_all
 |@step m f n h h' ih=>
  intro N s7 hm h0 h1 hn hs uQ;obtain⟨N,rfl⟩:∃x,N=x+1:=⟨N-1,by omega⟩;have eO:=hb.n6;show Da k _ s7 B.1 B.2.1 B.2.2.1 B.2.2.2 l m=_;unfold Da;have hS:=yHj hk hb (GH hl bT m);have lQ:pV k B.1 B.2.1 B.2.2.1 B.2.2.2 (yX l m)=some (wT B (yX l m)):=hS;rw[RK (by omega) (show qN l by show l.length≤1000;omega)];simp only[ak];rw[lQ];simp only[ak];have w:zA (s7+1)=s7+1:=zN (by omega) (by omega);have bh : decide ((((wT B (yX l m)).length : Nat) : Int) = 0) = false := ai (by
   have:=List.length_pos_iff.2 h;omega)
  have dP:(wT B (yX l m)).length≤B.1.length:=by
   unfold wT pX;grind
  rw[bh];simp;rw[vIk (by omega) (by omega) (by rw[hm];exact QW) h0 h1];simp[w];have Q5:=KW hl hm h0;have:=ih N (s7+1) ((qd _ _).trans hm) Q5 (fun i=>by have:=(GG (wT B (yX l m)) m i).2;have:=h1 i;omega) (by omega) (by omega) (by omega);rw[this]
  congr 2
  omega
theorem vC2 {k}(hk:100<k){B}(hb:qL B){l}(hl:∀q∈l,qY B.1.length q)(bT:l.length≤64) t {f n}(hn:n≤l.length)(h:iz B (yQ l t) (fk (yQ l t) B.1.length) f n):
  LF k B.1 B.2.1 B.2.2.1 B.2.2.2 l t=some (f,((n+1:Nat):Int)):=by
 have eO:=hb.n6;have hr:=tg l t;have h1:=KX (l:=yQ l t) (by omega) B.1.length;unfold LF;rw[Qx (by omega) (by show l.length≤1000;omega)];simp;have e:xo k k 0 B.1 B.2.1 B.2.2.1 B.2.2.2 (l.filter (gJ t)) []=_:=yYy (k:=k) (B:=B) (l:=yQ l t) (by omega) (by show(yQ l t).length≤1000;omega) (by omega) (by omega);rw[e];simp;rw[vRu hk hb (GI hl) (by omega) h k 1 (tf _ _) h1.1 h1.2 (by omega) (by omega) (by omega)];grind
theorem yWh {k}{C:BT}{l hs:List zG}(hl:l.length<k)(dr:l.length≤1000)(hk:hs.length<k)(hh:hs.length≤1000):
  xp k k l 0 hs C.1 C.2.1 C.2.2.1 C.2.2.2=some (mm l hs,hs,C.1,C.2.1,C.2.2.1,C.2.2.2):=by
 obtain ⟨s', h1, h2⟩ := yZ (L := fun n i (s : List zG) => xp k n s i hs C.1 C.2.1 C.2.2.1 C.2.2.2) (N := hs.length) (fun s => (s, hs, C.1, C.2.1, C.2.2.1, C.2.2.2)) (fun i s => s = mm l (hs.take i)) (fun n s _=>by
  show Db k _ s hs.length hs C.1 C.2.1 C.2.2.1 C.2.2.2=_;unfold Db;simp) (fun n i s hi hr=>by
  refine⟨_,?_,(qW3 l hs i hi).symm⟩;show Db k _ s i hs C.1 C.2.1 C.2.2.1 C.2.2.2=_;unfold Db;have dP:=(KY (hs.take i) l).1;rw[←hr] at dP⊢;simp[zV,ag hi,qn (show s.length<k by omega) (show qN s by show s.length≤1000;omega),qD hi (by grind)];rfl) (s:=l) hk rfl
 simp_all
theorem yVn {k}(hk:100<k){B}(hb:qL B){l}(hl:∀q∈l,qY B.1.length q)(bT:l.length≤64) t {f n}(hn:n≤l.length)(h:iz B (yQ l t) (fk (yQ l t) B.1.length) f n)
  {r:List qQ×EQ×AC×EQ×Int} (hr:wc k B.1 B.2.1 B.2.2.1 B.2.2.2 (yX (yQ l t) f)=some r):Hn k B.1 B.2.1 B.2.2.1 B.2.2.2 l t=some (B6 B l (yX (yQ l t) f) r):=by
 have rY:=tg l t;have K0:=(td (yQ l t) f).length_le;unfold Hn;rw[vC2 hk hb hl bT t hn h,Qx (by omega) (by show l.length≤1000;omega)];simp;have e:C4 k (l.filter (gJ t)) f=_:=RK (k:=k) (l:=yQ l t) (by omega) (by show(yQ l t).length≤1000;omega) f;rw[e];simp;rw[hr];simp;unfold B6;cases decide (r.2.2.2.2=0) with
 |false=>rfl
 |true=>
  have e2:xp k k l 0 (yX (yQ l t) f) r.1 r.2.1 r.2.2.1 r.2.2.2.1=_:=yWh (C:=(r.1,r.2.1,r.2.2.1,r.2.2.2.1)) (by omega) (by omega) (by omega) (by omega);simp_all
theorem fj.books {k}(hk:100<k){t B C l done m}(h:fj k t B l done C m)(hb:qL B)(hd:qI l):qL C∧C.1.length=B.1.length∧List.Sublist m l:=by
 induction h with
 |stop _=>simp_all
 |step h _ ih=>
  obtain⟨hp,hg⟩:=wy h;obtain⟨h1,h2⟩:=qb (BW hp);obtain⟨h3,h4⟩:=oE hk hb (by simp) hg;obtain⟨g1,g2,g3⟩:=ih h3 (List.Pairwise.sublist h2 hd);exact⟨g1,g2.trans h4,g3.trans h2⟩
theorem wO.books {k}(hk:100<k){t B C l done m}(h:wO k t B l done C m)(hb:qL B)(hd:qI l):qL C∧C.1.length=B.1.length∧List.Sublist m l:=by
 induction h with
 |stop _=>simp_all
 |step h _ ih=>
  obtain⟨hp,hq,mi,hg⟩:=B1 h;obtain⟨h1,h2⟩:=B2 hd hp hq mi;obtain⟨h3,h4⟩:=oE hk hb (by simp) hg;obtain⟨g1,g2,g3⟩:=ih h3 (List.Pairwise.sublist h2 hd);exact⟨g1,g2.trans h4,g3.trans h2⟩
theorem vAa {k}(hk:200≤k){t B C l m done}(h:j4 k t B l done C m):∀n (r:List zG),qL B→qI l→l.length≤100→l.length<n→r.length+l.length≤900→
  Ho k n l t B.1 B.2.1 B.2.2.1 B.2.2.2 r=some (m,C.1,C.2.1,C.2.2.1,C.2.2.2,r++done):=by
 induction h with
 |@stop B C l m d h1 h2=>
  intro n r hb hd hl hn hr;obtain⟨n,rfl⟩:∃x,n=x+1:=⟨n-1,by omega⟩;have p1:=h1.perm hd;have l1:=p1.length_eq;rw[List.length_append] at l1;obtain⟨g1,g2,g3⟩:=h1.books (by omega) hb hd;have f1:=yRo hk hb hl h1;have f2:=yK1 hk g1 (List.Pairwise.sublist g3 hd) (by omega) (wO.stop (t:=t) h2);have r1:zR (r.length+d.length) 56=true:=qT (by omega) (by omega);show Dc k _ l t B.1 B.2.1 B.2.2.1 B.2.2.2 r=_;unfold Dc;grind
 |@step B C D E l m n' o d e f h1 h2 ne h' ih=>
  intro n r hb hd hl hn hr;obtain⟨n,rfl⟩:∃x,n=x+1:=⟨n-1,by omega⟩;have p1:=h1.perm hd;have l1:=p1.length_eq;rw[List.length_append] at l1;obtain⟨g1,g2,g3⟩:=h1.books (by omega) hb hd;have hm:qI m:=List.Pairwise.sublist g3 hd;have p2:=h2.perm hm;have l2:=p2.length_eq;rw[List.length_append] at l2;obtain⟨k1,k2,k3⟩:=h2.books (by omega) g1 hm;have f1:=yRo hk hb hl h1;have f2:=yK1 hk g1 hm (by omega) h2;have jh:=List.length_pos_iff.2 ne;have r1:zR (r.length+d.length) 56=true:=qT (by omega) (by omega);have r2:zR ((r++d).length+e.length) 56=true:=qT (by rw[List.length_append];omega) (by rw[List.length_append];omega);have:=ih n (r++d++e) k1 (List.Pairwise.sublist k3 hm) (by omega) (by omega) (by simp;omega);show Dc k _ l t B.1 B.2.1 B.2.2.1 B.2.2.2 r=_;unfold Dc;grind
theorem qUk {k}(hk:200≤k){t B C l m done}(hb:qL B)(hd:qI l)(hl:l.length≤100)(h:j4 k t B l done C m):
  Hq k B.1 B.2.1 B.2.2.1 B.2.2.2 l t=some (C.1,C.2.1,C.2.2.1,C.2.2.2,m,done):=by
 unfold Hq;rw[vAa hk h k [] hb hd hl (by omega) (by grind)];rfl
theorem yX1 {k}(hk:200≤k){B}(hb:qL B){l:List zG}(hl:∀q∈l,qY B.1.length q)(bT:l.length≤64) t:
  ∃r,w6 k B.1 B.2.1 B.2.2.1 B.2.2.2 l t=some r∧Hn k B.1 B.2.1 B.2.2.1 B.2.2.2 l t=some r:=by
 obtain⟨f,n,h,hn⟩:=QY hb hl bT t;have rY:=tg l t;have K0:=(td (yQ l t) f).length_le;obtain⟨r,h1,h2,h3⟩:=BV (k:=k) (by omega) hb (l:=yX (yQ l t) f) (by omega);exact⟨_,Q6 (k:=k) (by omega) hb hl bT t (by omega) h h1,yVn (k:=k) (by omega) hb hl bT t (by omega) h h2⟩
theorem yUt {k}(hk:200≤k){B}(hb:qL B){l}(hd:qI l)(hl:∀q∈l,qY B.1.length q)(bT:l.length≤64) t all:
  ∃(C:BT) (m done:List zG),th k B.1 B.2.1 B.2.2.1 B.2.2.2 l t all=some (C.1,C.2.1,C.2.2.1,C.2.2.2,m,done)∧LG k B.1 B.2.1 B.2.2.1 B.2.2.2 l t all=some (C.1,C.2.1,C.2.2.1,C.2.2.2,m,done)∧
   qL C∧C.1.length=B.1.length∧List.Sublist m l∧List.Perm (done++m) l∧jR k C (vO m t)=none∧jJ k C m t=none:=by
 obtain⟨C,m,d,f1,f2,f3,f4,f5⟩:=Cg hk hb hd (by omega) t;have fr:=qUk hk hb hd (by omega) f2;have p1:=f2.perm hd;have l1:=p1.length_eq;rw[List.length_append] at l1;unfold th LG;rw[f1,fr];simp only[ak];cases all with
 |false=>exact⟨C,m,d,rfl,rfl,f3,f4,f5,p1,f2.final⟩
 |true=>
  have hm:qI m:=List.Pairwise.sublist f5 hd;have hmm:∀q∈m,qY C.1.length q:=by grind
  obtain⟨D,n,x,g1,g2,g3,g4,g5,g6⟩:=Q7 hk f3 hm hmm (by omega) t;obtain⟨R,r1,r2⟩:=yX1 hk f3 hmm (by omega) t;have hR:R=(D.1,D.2.1,D.2.2.1,D.2.2.2,n,x):=by rw[g1] at r1;exact(Option.some.inj r1).symm
  subst hR;have l2:=g5.length_eq;rw[List.length_append] at l2;rw[g1,r2];simp only[ak];cases x with
  |nil=>
   obtain⟨rfl,rfl⟩:=g6 rfl;exact⟨D,n,d,rfl,rfl,f3,f4,f5,p1,f2.final⟩
  |cons p x=>
   have e1:decide ((((p::x).length:Nat):Int)=0)=false:=ai (by simp;omega);rw[e1];have hn:qI n:=List.Pairwise.sublist g4 hm;obtain⟨E,o,y,k1,k2,k3,k4,k5⟩:=Cg hk g2 hn (by omega) t;have kr:=qUk hk g2 hn (by omega) k2;have p3:=k2.perm hn;have l3:=p3.length_eq;rw[List.length_append] at l3;have e2:zR (d.length+(p::x).length) 56=true:=qT (by simp at l2⊢;omega) (by simp at l2⊢;omega);have e3:zR ((d++(p::x)).length+y.length) 56=true:=qT (by simp at l2⊢;omega) (by simp at l2⊢;omega);rw[k1,kr];simp only[ak,e2,e3,av];refine⟨E,o,d++(p::x)++y,rfl,rfl,k3,k4.trans (g3.trans f4),k5.trans (g4.trans f5),?_,k2.final⟩;have e4:d++(p::x)++y++o=d++((p::x)++(y++o)):=by simp
   rw[e4];exact by grind
theorem qVv {B:BT}(hb:qL B){m:List zG}(hd:qI m)(hm:∀q∈m,qY B.1.length q)(bT:m.length≤64)(t:Int)(pr:AC)(ho:EQ)(ids:AC)(to:Int)(ov all:Bool):
  ∃(C:BT) (m' d:List zG),qf 1000 t B.1 B.2.1 B.2.2.1 B.2.2.2 pr ho m ids to ov all=some (t,C.1,C.2.1,C.2.2.1,C.2.2.2,pr,ho,m',ids,to,ov,vB d)∧
   lz 1000 t B.1 B.2.1 B.2.2.1 B.2.2.2 pr ho m ids to ov all=some (t,C.1,C.2.1,C.2.2.1,C.2.2.2,pr,ho,m',ids,to,ov,vB d)∧qL C∧jN B C∧List.Sublist m' m∧List.Perm (d++m') m∧jR 1000 C (vO m' t)=none:=by
 obtain⟨C,m',d,f1,fr,f2,f3,f4,f5,f6,f7⟩:=yUt (k:=1000) (by decide) hb hd hm bT t all;have hlen:=f5.length_eq;rw[List.length_append] at hlen;refine⟨C,m',d,?_,?_,f2,yJq (by decide) hb hd hm bT t all f1,f4,f5,f6⟩
 ·unfold qf;rw[f1];simp only[ak];rw[qTy (by omega) (by omega)];rfl
 ·unfold lz;rw[fr];simp only[ak];rw[vIu (by omega) (by omega)];rfl
theorem LH kd a:wY 1000 kd [a]=some (kd,a,0,0,0,0,0):=by rfl
theorem Of0 kd:wY 1000 kd []=some (kd,0,0,0,0,0,0):=by rfl
theorem Of5 kd a b c d e:wY 1000 kd [a,b,c,d,e]=some (kd,a,b,c,d,e,0):=by rfl
theorem yY7 (s:qG)(hm:s.m.length≤100)(b:Int×Int×Bool):tG 1000 1000 s.m 0 s.st b []=some (s.st,b,s.m.map (vT 22)):=by
 obtain ⟨s', h1, h2⟩ := yZ (L := fun n i (o : List yB) => tG 1000 n s.m i s.st b o) (N := s.m.length) (fun o => (s.st, b, o)) (fun i o => o = (s.m.take i).map (vT 22)) (fun n o _=>by
  show Dd 1000 (tG 1000 n) s.m s.m.length s.st b o=_;unfold Dd;simp) (fun n i o hi ho=>by
  refine⟨_,?_,(yQm (vT 22) s.m i pd hi).symm⟩;show Dd 1000 (tG 1000 n) s.m i s.st b o=_;unfold Dd;have dP:o.length≤900:=by grind
  rw[ag (by grind),zV,ag hi,aC,LH,qD hi (by omega)];simp only[tj (show o.length≤1000 by omega)];rw[ho];rfl) (s:=[]) (show s.m.length<1000 by omega) rfl
 simp_all
theorem vC0 (s:qG)(hB:s.B.1.length≤6)(b:Int×Int×Bool)(l:List yB)(hl:l.length≤100):tH 1000 1000 0 s.st b l=some (s.st,b,l++gb s.B s.B.1.length):=by
 have ea:s.st.2.1=s.B.1:=rfl;obtain ⟨s', h1, h2⟩ := yZ (L := fun n i (o : List yB) => tH 1000 n i s.st b o) (N := s.B.1.length) (fun o => (s.st, b, o)) (fun i o => o = l ++ gb s.B i) (fun n o _=>by
  show De 1000 (tH 1000 n) s.B.1.length s.st b o=_;unfold De;simp_all) (fun n i o hi ho=>by
  refine⟨_,?_,(show l++gb s.B i++[tn s.B i]=l++gb s.B (i+1) by rw[yLf,List.append_assoc])⟩;show De 1000 (tH 1000 n) i s.st b o=_;unfold De;have dP:o.length≤900:=by
   rw[ho,List.length_append];unfold gb;grind
  rw[ea,ag (by grind),zV,ag hi,aC,LH,qD hi (by omega)];simp only[tj (show o.length≤1000 by omega)];rw[ho];rfl) (s:=l) (show s.B.1.length<1000 by omega) (by show _=_++[];simp)
 simp_all
theorem vLm {a b p}(hd:qI (a++p::b)):fJ (a++p::b) p.1=(a++b,p.1,p.2.1,p.2.2.1,p.2.2.2.1,p.2.2.2.2.1,p.2.2.2.2.2.1,p.2.2.2.2.2.2,0):=by
 have hl:a.length<(a++p::b).length:=by simp
 have hg:(a++p::b).getD a.length pd=p:=by simp
 have hp:=yLk hd hl;rw[hg] at hp;unfold eN at hp;unfold fJ;cases hx:vE (a++p::b) p.1 with
 |none=>simp_all
 |some x=>
  rw[hx] at hp;simp only at hp;obtain rfl:x=a.length:=by omega
  unfold qV;simp
theorem vA0 (r:qS)(s:qG)(hd:qI s.m)(hm:s.m.length≤100)(b:Int×Int×Bool):
  qw 1000 1000 s.m 0 r s.st b []=some (r,qG.st {s with m:=s.m.filter (fun p=> !yT s.t p)},b,(s.m.filter (yT s.t)).map (vT 21)):=by
 obtain ⟨s', h1, h2, h3⟩ := yZ (L := fun n i (x : List zG × List yB) => qw 1000 n s.m i r (qG.st { s with m := x.1 }) b x.2) (N := s.m.length) (fun x => (r, qG.st { s with m := x.1 }, b, x.2)) (fun i x => x.1 = (s.m.take i).filter (fun p => !yT s.t p) ++ s.m.drop i ∧ x.2 = ((s.m.take i).filter (yT s.t)).map (vT 21)) (fun n x _=>by
  show Df 1000 (qw 1000 n) s.m s.m.length r _ b _=_;unfold Df;rw [ai (Int.lt_irrefl _)]; rfl) (fun n i x hi hx=>by
  have f1:=wk (yT s.t) s.m i pd hi;have f2:=wk (fun p=> !yT s.t p) s.m i pd hi;have hdr:s.m.drop i=s.m.getD i pd::s.m.drop (i+1):=by rw[List.drop_eq_getElem_cons hi,j6 _ hi]
  have kX:x.2.length≤900:=by
   rw[hx.2,List.length_map];have:=List.length_filter_le (yT s.t) (s.m.take i);rw[List.length_take] at this;omega
  have pq:x.1.length≤s.m.length:=by
   rw[hx.1,List.length_append,List.length_drop];have:=List.length_filter_le (fun p=> !yT s.t p) (s.m.take i);rw[List.length_take] at this;omega
  have cB:List.Sublist x.1 s.m:=by
   have h:=List.Sublist.append (List.filter_sublist (p:=fun p=> !yT s.t p) (l:=s.m.take i)) (List.Sublist.refl (s.m.drop i));rw[List.take_append_drop] at h;rw[hx.1];exact h
  have hdx:qI x.1:=List.Pairwise.sublist cB hd;have e0:∀p:zG,RM 1000 p.1 p.2.1 p.2.2.1 p.2.2.2.1 p.2.2.2.2.1 p.2.2.2.2.2.1 p.2.2.2.2.2.2 s.t=some (yT s.t p):=fun p=>rfl
  have ed:s.m.getD i (0,0,0,0,0,0,0)=s.m.getD i pd:=rfl;have et:(qG.st {s with m:=x.1}).1=s.t:=rfl;have em:(qG.st {s with m:=x.1}).2.2.2.2.2.2.2.1=x.1:=rfl;show∃s',Df 1000 (qw 1000 n) s.m i r (qG.st {s with m:=x.1}) b x.2=_∧_;unfold Df;rw[ag (show(i:Int)<s.m.length by omega),zV,ag hi,aC,ed,et,em,e0,LH,qD hi (by omega),qn (by omega) (by unfold qN;omega)];simp only[av,ak,tj (show x.2.length≤1000 by omega)];cases hb:yT s.t (s.m.getD i pd) with
  |true=>
   have cR:=hx.1;rw[hdr] at cR;have e1:=vLm (a:=(s.m.take i).filter (fun p=> !yT s.t p)) (b:=s.m.drop (i+1)) (p:=s.m.getD i pd) (by rw[←cR];exact hdx);rw[←cR] at e1;rw[e1];refine⟨((s.m.take i).filter (fun p=> !yT s.t p)++s.m.drop (i+1),x.2++[vT 21 (s.m.getD i pd)]),rfl,?_,?_⟩
   ·show _=_;rw[f2,hb];simp
   ·show x.2++_=_;rw[f1,hb,hx.2];simp
  |false=>
   refine⟨x,rfl,?_,?_⟩
   ·rw[f2,hb,hx.1,hdr];simp
   ·rw[f1,hb,hx.2];simp) (s:=(s.m,[])) (show s.m.length<1000 by omega) ⟨by simp,rfl⟩
 rw[List.take_length,List.drop_length,List.append_nil] at h2;rw[List.take_length] at h3;have eM:qw 1000 1000 s.m 0 r s.st b []=_:=h1;rw[eM,h2,h3]
theorem vKi (r:qS){s:qG}(hb:qL s.B)(hd:qI s.m)(hm:∀q∈s.m,qY s.B.1.length q)(bT:s.m.length≤64)(ht:0≤s.t∧s.t<1099511627776)(GS:r.2.2.2.2≠0)(ho:s.ov=false):
  ∃x:Int×List qQ×wH×AC×wH×AC×wH×List zG×AC×Int×Bool×List yB,tp 1000 r.1 r.2.1 r.2.2.1 r.2.2.2.1 r.2.2.2.2 s.t s.B.1 s.B.2.1 s.B.2.2.1 s.B.2.2.2 s.pr s.ho s.m s.ids s.to s.ov=some x∧Dg 1000 r s.st=some (qR x,x.2.2.2.2.2.2.2.2.2.2.2):=by
 have eO:=hb.n6;have w:zA (s.t+1)=s.t+1:=zN (by omega) (by omega);have eR:Dg 1000 r s.st=bif s.ov then some (s.st,[])
  else(LI 1000 r (zA (s.t+1))).bind fun x0=>
  bif x0 then ((tG 1000 1000 s.m 0 ((zA (s.t+1)),s.st.2) (0,0,false) []).bind fun z=>
   (tH 1000 1000 0 z.1 z.2.1 z.2.2).bind fun z1=>
   some ((gP z1.1 ([],z1.1.2.2.2.2.2.2.2.2.1,z1.1.2.2.2.2.2.2.2.2.2.1,true)),z1.2.2))
  else(qw 1000 1000 s.m 0 r ((zA (s.t+1)),s.st.2) (0,0,false) []).bind fun z2=>
  (Hr 1000 z2.1 z2.2.1.1).bind fun x6=>
  (lz 1000 z2.2.1.1 z2.2.1.2.1 z2.2.1.2.2.1 z2.2.1.2.2.2.1 z2.2.1.2.2.2.2.1 z2.2.1.2.2.2.2.2.1 z2.2.1.2.2.2.2.2.2.1 z2.2.1.2.2.2.2.2.2.2.1 z2.2.1.2.2.2.2.2.2.2.2.1 z2.2.1.2.2.2.2.2.2.2.2.2.1 z2.2.1.2.2.2.2.2.2.2.2.2.2 x6).bind fun x7=>
  bif zR (z2.2.2.2.length+x7.2.2.2.2.2.2.2.2.2.2.2.length) 64 then some ((qR x7),(z2.2.2.2++x7.2.2.2.2.2.2.2.2.2.2.2))
  else none:=rfl
 have eT:((s.t+1,s.st.2):qi)=qG.st {s with t:=s.t+1}:=rfl;rw[eR,w,eT,ho];unfold tp w9 LI;simp only[w,ay,ak];cases hc:decide (s.t+1=r.2.2.2.1) with
 |true=>
  simp only[av];rw[qZr eO (by decide) (by omega)];have c0:=yY7 {s with t:=s.t+1,ov:=false} (by show s.m.length≤100;omega) (0,0,false);have c1:=vC0 {s with t:=s.t+1,ov:=false} (by show s.B.1.length≤6;exact eO) (0,0,false) (s.m.map (vT 22)) (by rw[List.length_map];omega);refine⟨_,rfl,?_⟩;refine(congrArg (fun z=>Option.bind z _) c0).trans ?_;refine(congrArg (fun z=>Option.bind z _) c1).trans ?_;rfl
 |false=>
  simp only[ay];rw[qWt (by decide) (by omega)];have c2:=vA0 r {s with t:=s.t+1,ov:=false} hd (by show s.m.length≤100;omega) (0,0,false);have hs:∃x,Cv 1000 r.1 r.2.1 r.2.2.1 r.2.2.2.1 r.2.2.2.2 (s.t+1)=some x∧Hr 1000 r (s.t+1)=some x:=by
   unfold Cv Hr;cases decide (s.t+1>0) with
   |false=>exact⟨_,rfl,rfl⟩
   |true=>
    cases decide (s.t+1<r.2.2.2.1) with
    |false=>exact⟨_,rfl,rfl⟩
    |true=>
     have:decide (r.2.2.2.2=0)=false:=ai GS;rw[this];exact⟨_,rfl,rfl⟩
  obtain⟨x,hx,mD⟩:=hs;simp only[ak];rw[hx];have cB:List.Sublist (s.m.filter (fun p=> !yT (s.t+1) p)) s.m:=List.filter_sublist;have dP:=cB.length_le;have oI:qI (s.m.filter (fun p=> !yT (s.t+1) p)):=List.Pairwise.sublist cB hd;obtain⟨C,m',d,f1,f1',f2,f3,f4,f5,f6⟩:=qVv hb oI (by grind) (by omega) (s.t+1) s.pr s.ho s.ids s.to false x;have hlen:=f5.length_eq;rw[List.length_append] at hlen;have hla:(s.m.filter (yT (s.t+1))).length≤s.m.length:=by grind
  have zq:=Ch d;have hr:zR (((s.m.filter (yT (s.t+1))).map (vT 21)).length+(vB d).length) 64=true:=qT (by rw[List.length_map];omega) (by rw[List.length_map];omega);simp only[ak];rw[f1];simp only[ak,hr,av];refine⟨_,rfl,?_⟩;refine(congrArg (fun z=>Option.bind z _) c2).trans ?_;simp only[ak];refine(congrArg (fun z=>Option.bind z _) mD).trans ?_;have RN:lz 1000 (s.t+1) s.B.1 s.B.2.1 s.B.2.2.1 s.B.2.2.2 s.pr s.ho (s.m.filter (fun p=> !yT (s.t+1) p)) s.ids s.to false x=_:=f1';refine(congrArg (fun z=>Option.bind z _) RN).trans ?_;grind
theorem yO.settled {r s}(h:yO r s)(ho:s.ov=false){C}(hc:qL C)(kc:jN s.B C){m}(hm:List.Sublist m s.m):yO r {s with B:=C,m:=m}:=by
  have hl:=kc.len;exact{
    tk:=h.tk
    bk:=hc
    n:=by rw[hl];exact h.n
    hol:=by rw[hl];exact h.hol
    laid:=by rw[hl];exact h.laid
    cred:=by rw[hl];intro i hi;rw[kc.cred i hi];exact h.cred i hi
    most:=by rw[hl];intro i hi;rw[kc.cred i hi];exact h.most i hi
    waits:=by rw[hl];exact h.waits.sub hm
    sum:=by rw[hl,kc.sum];exact h.sum
    tot:=h.tot
    over:=h.over
    none:=by grind}
theorem vB2 {k}(hk:1000≤k){r}(hr:wV r){s}(h:yO r s)(ho:s.ov=false):
    ∃(C:BT) (m':List zG) (ov:Bool) (o:List yB),tp k r.1 r.2.1 r.2.2.1 r.2.2.2.1 r.2.2.2.2 s.t s.B.1 s.B.2.1 s.B.2.2.1 s.B.2.2.2 s.pr s.ho s.m s.ids s.to s.ov=some (s.t+1,C.1,C.2.1,C.2.2.1,C.2.2.2,s.pr,s.ho,m',s.ids,s.to,ov,o)∧
      yO r {s with t:=s.t+1,B:=C,m:=m',ov:=ov}∧jN s.B C∧(ov=false→jR k C (vO m' (s.t+1))=none)∧o.length≤100∧
      ((ov=true∧m'=[]∧o=s.m.map (vT 22)++gb s.B s.B.1.length∧C=s.B)∨∃l d n,o=l.map (vT 21)++vB d∧List.Perm (l++n) s.m∧List.Perm (d++m') n∧ov=false):=by
  have Et:=hr.cl;have GS:=hr.pe;have htk:=h.tk;have hn:=h.n;have bn:s.t≠r.2.2.2.1:=by
    have:=h.over;simp_all
  have Dh:=h.bk;have hm:=h.waits.len;rw[ho];obtain⟨C,m',ov,o,e1,e2,e3,e4,e5⟩:=vBf (k:=k) (by omega) Dh h.waits.dist h.waits.may (by omega) r.1 r.2.1 r.2.2.1 r.2.2.2.1 r.2.2.2.2 s.t (by omega) (by omega) s.pr s.ho s.ids s.to;have hl:=e3.len;refine⟨C,m',ov,o,e1,?_,e3,e4,?_,e5⟩
  · exact{
      tk:=by grind
      bk:=e2.bk
      n:=by simp_all
      hol:=by rw[hl];exact h.hol
      laid:=by rw[hl];exact h.laid
      cred:=by rw[hl];intro i hi;rw[e3.cred i hi];exact h.cred i hi
      most:=by rw[hl];intro i hi;rw[e3.cred i hi];exact h.most i hi
      waits:=by rw[hl];exact h.waits.sub e2.sub
      sum:=by rw[hl,e3.sum];exact h.sum
      tot:=h.tot
      over:=e2.over
      none:=e2.none}
  · have:=e2.room;split at this<;>omega
abbrev qx:=Int×jH
theorem vIv k kd:∃n,LJ k kd=some n∧-1≤n∧n≤6:=by
 have c:∀(b:Bool) (x y:Option Int),(∃n,x=some n∧-1≤n∧n≤6)→(∃n,y=some n∧-1≤n∧n≤6)→∃n,(bif b then x else y)=some n∧-1≤n∧n≤6:=by
  simp_all
 iterate 23 (refine c _ _ _ (by simp) ?_)
 simp
theorem yO2 {k}{s:AC}(hs:s.length≤6):∀n i,s.length<i+n→i≤s.length→∃x,qy k n s (s.length:Int) (i:Int)=some x
 |0,i,h,g=>by omega
 |n+1,i,h,g=>by
  show∃x,tI k (qy k n) s (s.length:Int) (i:Int)=some x;unfold tI;by_cases hi:i<s.length
  ·simp only[qM,ag hi,zV,aC];cases decide (s.getD i 0=0) with
   |false=>simp
   |true=>
    rw[qD hi (by omega)];exact yO2 hs n (i+1) (by omega) hi
  ·simp only[qM,ai hi];simp
theorem yPm {k}(hk:10≤k)(f:jH):∃b,tJ k f=some b:=by
 unfold tJ;obtain⟨n,h1,h2,h3⟩:=vIv k f.1;rw[h1];simp;by_cases h0:n<0
 ·simp_all
 ·rw[ai h0,ag (by grind),ag h3];have hl:(qZ [f.2.1,f.2.2.1,f.2.2.2.1,f.2.2.2.2.1,f.2.2.2.2.2.1,f.2.2.2.2.2.2] n.toNat (6-n.toNat)).length≤6:=by
   unfold qZ;simp
  obtain⟨x,hx⟩:=yO2 (k:=k) hl k 0 (by omega) (by simp);rw[show((0:Nat):Int)=0 from rfl] at hx;rw[hx];cases x<;>exact by simp
theorem RO k a:LK k a=some (decide (a≥10)&&decide (a≤14)):=by
 unfold LK;grind
theorem RP k a:Hs k a=some (decide (a≥1)&&decide (a≤14)):=by
 unfold Hs;grind
def yMs (A B C D E F G b o:Bool):Int:=
 bif !(D&&C) then 5 else bif !b then 5 else bif B&&C then(bif !E then 5 else bif o&& !G then 7 else 0) else bif !(A&&F) then 5 else bif o&& !G then 7 else 0
theorem vKf:∀{A B C D E F G b o},yMs A B C D E F G b o=0→(D&&C&&((B&&E)||(!B&&A&&F))&&(!o||G))=true:=by
 intro A B C D E F G b o h;cases A<;>cases B<;>cases C<;>cases D<;>cases E<;>cases F<;>cases G<;>cases b<;>cases o<;>first|rfl|exact absurd h (by decide)
theorem vLd {k}(hk:10≤k)(r:qS)(s:qG)(c:qx):∃b,tK k r s.st c=some (yMs (decide (c.1≥0)) (decide (c.2.1≥10)) (decide (c.2.1≤14)) (decide (c.2.1≥1)) (decide (c.1= -1)) (decide (c.1<r.1)) (decide (c.2.1=9)) b s.ov):=by
 unfold tK;rw[RO,RP];obtain⟨b,hb⟩:=yPm hk c.2;rw[hb];have eo:s.st.2.2.2.2.2.2.2.2.2.2=s.ov:=rfl;rw[eo];refine⟨b,?_⟩;generalize decide (c.1≥0)=A;generalize decide (c.2.1≥10)=B;generalize decide (c.2.1≤14)=C;generalize decide (c.2.1≥1)=D;generalize decide (c.1= -1)=E;generalize decide (c.1<r.1)=F;generalize decide (c.2.1=9)=G;generalize s.ov=o;cases A<;>cases B<;>cases C<;>cases D<;>cases E<;>cases F<;>cases G<;>cases b<;>cases o<;>rfl
theorem vK4 {k}(hk:10≤k)(r:qS)(s:qG)(c:qx):∃e,tK k r s.st c=some e∧
  (e=0→((10≤c.2.1∧c.2.1≤14∧c.1= -1)∨(1≤c.2.1∧c.2.1≤9∧0≤c.1∧c.1<r.1))∧(s.ov=true→c.2.1=9)):=by
 obtain⟨b,hb⟩:=vLd hk r s c;refine⟨_,hb,fun e=>?_⟩;have:=vKf e;grind
theorem vDl r s who f:(iD r s who f).2.t=s.t∧(iD r s who f).2.ov=s.ov∧(iD r s who f).2.to=s.to:=by
 unfold iD;cases decide (f.1=5) with
 |true=>
  cases !((decide (f.2.1≥0)&&decide (f.2.1≤r.1-1))&& !decide (f.2.1=who))<;>cases !(decide (f.2.2.1≥-1)&&decide (f.2.2.1≤1152921504606846976))<;>exact⟨rfl,rfl,rfl⟩
 |false=>
  cases decide (f.1=6) with
  |true=>cases !(decide (f.2.1≥-1)&&decide (f.2.1≤1152921504606846976))<;>exact⟨rfl,rfl,rfl⟩
  |false=>cases !(decide (f.2.1≥0)&&decide (f.2.1≤1152921504606846976))<;>exact⟨rfl,rfl,rfl⟩
theorem vQh r s who a n:(iE r s who a n).2.t=s.t∧(iE r s who a n).2.ov=s.ov∧(iE r s who a n).2.to=s.to:=by
 unfold iE;cases !(decide (a≥0)&&decide (a≤(r.2.1.length:Int)-1)) with
 |true=>simp
 |false=>
 cases !(decide (n≥0)&&decide (n≤1099511627776)) with
 |true=>simp
 |false=>
 unfold Cx;grind
theorem vDy r s a p:(iG r s a p).2.t=s.t∧(iG r s a p).2.ov=s.ov∧(iG r s a p).2.to=s.to:=by
 unfold iG;cases !(decide (a≥0)&&decide (a≤(r.2.1.length:Int)-1)) with
 |true=>simp
 |false=>
 cases !(decide (p≥0)&&decide (p≤1048576)) with
 |true=>simp
 |false=>
 unfold CO;grind
theorem yY6 {r s kd to n}:(iF r s kd to n).2.ov=s.ov:=by
 unfold iF;cases !(decide (to≥0)&&decide (to≤r.1-1)) with
 |true=>rfl
 |false=>
 cases !(decide (n≥1)&&decide (n≤1099511627776)) with
 |true=>rfl
 |false=>
 cases decide (kd=11) with
 |true=>
  unfold Ha;cases decide ((s.B.1.getD to.toNat ad).1+(s.B.1.getD to.toNat ad).2.1-(s.B.1.getD to.toNat ad).2.2<n)<;>cases decide (s.to-n<0)<;>cases decide ((wR (s.B.1.getD to.toNat ad) (-n)).2=0)<;>cases decide (s.to-n>1152921504606846976)<;>rfl
 |false=>
  unfold Hb;cases decide ((wR (s.B.1.getD to.toNat ad) n).2=0)<;>cases decide (s.to+n>1152921504606846976)<;>rfl
theorem vQ8 {r s who f}:(iC r s who f).2.2.length≤1:=by
 unfold iC;grind
def Kd (o:List yB):Prop:=∀x∈o,x.2.1≠16∧x.2.1≠23
theorem tL:Kd []:=fun x h=>by grind
theorem RQ {x}(h:x.2.1≠16∧x.2.1≠23):Kd [x]:=fun y hy=>by simp_all
theorem Kd.append {a b}(h:Kd a)(g:Kd b):Kd (a++b):=fun x hx=>(List.mem_append.1 hx).elim (h x) (g x)
theorem RR:∀d:List zG,Kd (vB d)
 |[]=>tL
 | p :: d => (show Kd [jD p.2.1 p,jD p.2.2.1 p] from fun x hx=>by
   rcases List.mem_cons.1 hx with rfl|hx
   ·exact⟨by nofun,by nofun⟩
   ·rw[List.mem_singleton.1 hx];exact⟨by nofun,by nofun⟩).append (RR d)
theorem qVf {kd}(hk:kd=21∨kd=22)(l:List zG):Kd (l.map (vT kd)):=fun x hx=>by
 obtain⟨p,_,rfl⟩:=List.mem_map.1 hx;show kd≠16∧kd≠23;omega
theorem vGo {r s who f}:Kd (iC r s who f).2.2:=by
 unfold iC;cases vE s.m f.2.1 with
 |none=>exact tL
 |some x=>
  simp only[];cases !decide ((s.m.getD x pd).2.1=who) with
  |true=>exact tL
  |false=>
  cases decide (f.1=2) with
  |true=>exact RQ ⟨by nofun,by nofun⟩
  |false=>
  cases decide (f.1=4) with
  |true=>
   cases !(decide (f.2.2.1≥1)&&decide (f.2.2.1≤3))<;>cases !decide (nn r.2.2.1 r.2.2.2.1 s.t f.2.2.1=0)<;>exact tL
  |false=>
  cases decide (f.2.2.1=0)<;>cases decide (f.2.2.1=1)<;>exact tL
def lA (o:List yB):Prop:=∀x∈o,x.2.1≠16
theorem Kd.ne {o}(h:Kd o):lA o:=fun x hx=>(h x hx).1
theorem lA.append {a b}(h:lA a)(g:lA b):lA (a++b):=fun x hx=>(List.mem_append.1 hx).elim (h x) (g x)
theorem vQc B n:lA (gb B n):=fun x hx=>by
 obtain⟨i,_,rfl⟩:=List.mem_map.1 hx
 nofun
theorem vEv {r:qS}{s:qG}{who:Int}{f:jH}(h:(gd r s who f).1=0):∀x∈(gd r s who f).2.2,x∈s.ids∨x=f.2.1:=by
 unfold gd at h⊢;cases h1:decide (f.2.2.1≥0)&&decide (f.2.2.1≤r.1-1) with
 |false=>exact fun _ h=>.inl h
 |true=>
 cases h2:decide (f.2.2.2.2.1≥1)&&decide (f.2.2.2.2.1≤3) with
 |false=>exact fun _ h=>.inl h
 |true=>
 cases decide (kJ r s.t (jM who f)=0) with
 |false=>exact fun _ h=>.inl h
 |true=>
 cases decide (f.2.1∈s.ids) with
 |true=>exact fun _ h=>.inl h
 |false=>
 cases decide (200≤s.ids.length) with
 |true=>exact fun _ h=>.inl h
 |false=>
 cases(vE s.m f.2.1).isSome with
 |true=>exact fun _ h=>.inl h
 |false=>
 cases decide (40≤s.m.length) with
 |true=>exact fun _ h=>.inl h
 |false=>
  intro x hx;have hx:x∈ng s.ids f.2.1:=hx;unfold ng at hx;have e:=List.takeWhile_append_dropWhile (p:=fun x=>decide (x<f.2.1)) (l:=s.ids);rcases List.mem_append.1 hx with hx|hx
  ·exact .inl (e▸List.mem_append_left _ hx)
  ·rcases List.mem_cons.1 hx with hx|hx
   ·exact .inr hx
   ·exact .inl (e▸List.mem_append_right _ hx)
theorem yXr (r:qS)(s:qG)(who:Int)(f:jH):(iD r s who f).2.ids=s.ids:=by
 unfold iD;cases decide (f.1=5) with
 |true=>cases !((decide (f.2.1≥0)&&decide (f.2.1≤r.1-1))&& !decide (f.2.1=who))<;>cases !(decide (f.2.2.1≥-1)&&decide (f.2.2.1≤1152921504606846976))<;>rfl
 |false=>
  cases decide (f.1=6) with
  |true=>cases !(decide (f.2.1≥-1)&&decide (f.2.1≤1152921504606846976))<;>rfl
  |false=>cases !(decide (f.2.1≥0)&&decide (f.2.1≤1152921504606846976))<;>rfl
theorem vDx (r:qS)(s:qG)(who a n:Int):(iE r s who a n).2.ids=s.ids:=by
 unfold iE;cases !(decide (a≥0)&&decide (a≤(r.2.1.length:Int)-1)) with
 |true=>rfl
 |false=>
 cases !(decide (n≥0)&&decide (n≤1099511627776)) with
 |true=>rfl
 |false=>
 simp only[ay];unfold Cx;generalize (s.ho.getD who.toNat []).set a.toNat n=h;cases decide (gL r.2.1 s.pr h>1152921504606846976) with
 |true=>rfl
 |false=>cases decide (gL r.2.1 s.pr h<(s.B.1.getD who.toNat ad).2.1)&&decide ((s.B.1.getD who.toNat ad).1+gL r.2.1 s.pr h<0)<;>rfl
theorem vHp (r:qS)(s:qG)(a p:Int):(iG r s a p).2.ids=s.ids:=by
 unfold iG;cases !(decide (a≥0)&&decide (a≤(r.2.1.length:Int)-1)) with
 |true=>rfl
 |false=>
 cases !(decide (p≥0)&&decide (p≤1048576)) with
 |true=>rfl
 |false=>
 simp only[ay];unfold CO;cases qA (fun j=> !decide (jX r.2.1 (s.pr.set a.toNat p) s.ho j>1152921504606846976)) s.B.1.length 0<;>rfl
def RT (m:jH)(i:Nat):Int:=[m.2.1,m.2.2.1,m.2.2.2.1,m.2.2.2.2.1,m.2.2.2.2.2.1,m.2.2.2.2.2.2].getD i 0
theorem vG6 (x:Int)(m:jH){n:Nat}(hn:n≤6):Dl 1000 1000 x n m=some (bif qA (fun j=>decide (RT m j=0)) (6-n) n then .inl x else .inr false):=
 PX (L := fun n i => Dl 1000 n x i m) (N := 6) (fun j => decide (RT m j = 0)) (.inl x) (.inr false) (fun n => rfl) (fun n i hi=>by
  show RU 1000 (Dl 1000 n) x i m=_;have:i=0∨i=1∨i=2∨i=3∨i=4∨i=5:=by omega
  rcases this with rfl|rfl|rfl|rfl|rfl|rfl
  ·show(bif !(decide (m.2.1=0)) then _ else _)=bif decide (m.2.1=0) then _ else _
   cases decide (m.2.1=0)<;>rfl
  ·show(bif !(decide (m.2.2.1=0)) then _ else _)=bif decide (m.2.2.1=0) then _ else _
   cases decide (m.2.2.1=0)<;>rfl
  ·show(bif !(decide (m.2.2.2.1=0)) then _ else _)=bif decide (m.2.2.2.1=0) then _ else _
   cases decide (m.2.2.2.1=0)<;>rfl
  ·show(bif !(decide (m.2.2.2.2.1=0)) then _ else _)=bif decide (m.2.2.2.2.1=0) then _ else _
   cases decide (m.2.2.2.2.1=0)<;>rfl
  ·show(bif !(decide (m.2.2.2.2.2.1=0)) then _ else _)=bif decide (m.2.2.2.2.2.1=0) then _ else _
   cases decide (m.2.2.2.2.2.1=0)<;>rfl
  ·show(bif !(decide (m.2.2.2.2.2.2=0)) then _ else _)=bif decide (m.2.2.2.2.2.2=0) then _ else _
   cases decide (m.2.2.2.2.2.2=0)<;>rfl) (6-n) n 1000 (by omega) (by omega)
theorem kL (m:jH)(n:Nat)(hn:n≤6)(h1:LJ 1000 m.1=some (n:Int))(h2:RV 1000 m.1=some (n:Int)):Dm 1000 m=tJ 1000 m:=by
 unfold Dm tJ;rw[h1,h2];have e1:vh false (n:Int) 0=(n:Int):=by
  rfl
 simp only[ak];rw[e1,vG6 _ m hn,ai (by simp),ag (by simp),ag (by grind),aC];have hl:(qZ [m.2.1,m.2.2.1,m.2.2.2.1,m.2.2.2.2.1,m.2.2.2.2.2.1,m.2.2.2.2.2.2] n (6-n)).length=6-n:=by
  unfold qZ;simp
 have := jO (L := fun k i => qy 1000 k (qZ [m.2.1, m.2.2.1, m.2.2.2.1, m.2.2.2.2.1, m.2.2.2.2.2.1, m.2.2.2.2.2.2] n (6 - n)) ((6 - n : Nat) : Int) i) (N := 6 - n) (fun j => decide ((qZ [m.2.1, m.2.2.1, m.2.2.2.1, m.2.2.2.2.1, m.2.2.2.2.2.1, m.2.2.2.2.2.2] n (6 - n)).getD j 0 = 0)) (.inl ()) (.inr false) (fun k=>by
  show tI 1000 (qy 1000 k) _ _ _=_;unfold tI;simp) (fun k i hi=>by
  show tI 1000 (qy 1000 k) _ _ _=_;unfold tI;rw[ag (by grind),zV,hl,ag hi,aC,qD hi (by omega)];simp) (n:=1000) (by omega)
 have h':qy 1000 1000 (qZ [m.2.1,m.2.2.1,m.2.2.2.1,m.2.2.2.2.1,m.2.2.2.2.2.1,m.2.2.2.2.2.2] n (6-n)) ((6-n:Nat):Int) 0=_:=this;have ea:qA (fun j=>decide (RT m j=0)) (6-n) n=qA (fun j=>decide ((qZ [m.2.1,m.2.2.1,m.2.2.2.1,m.2.2.2.2.1,m.2.2.2.2.2.1,m.2.2.2.2.2.2] n (6-n)).getD j 0=0)) (6-n) 0:=by
  have:n=0∨n=1∨n=2∨n=3∨n=4∨n=5∨n=6:=by omega
  rcases this with rfl|rfl|rfl|rfl|rfl|rfl|rfl<;>rfl
 grind
theorem vGk (kd a b c d e f:Int)(h:1≤kd∧kd≤14):Dm 1000 (kd,a,b,c,d,e,f)=tJ 1000 (kd,a,b,c,d,e,f):=by
 have:kd=1∨kd=2∨kd=3∨kd=4∨kd=5∨kd=6∨kd=7∨kd=8∨kd=9∨kd=10∨kd=11∨kd=12∨kd=13∨kd=14:=by omega
 rcases this with rfl|rfl|rfl|rfl|rfl|rfl|rfl|rfl|rfl|rfl|rfl|rfl|rfl|rfl
 ·exact kL _ 6 (by decide) rfl rfl
 ·exact kL _ 1 (by decide) rfl rfl
 ·exact kL _ 2 (by decide) rfl rfl
 ·exact kL _ 2 (by decide) rfl rfl
 ·exact kL _ 2 (by decide) rfl rfl
 ·exact kL _ 1 (by decide) rfl rfl
 ·exact kL _ 1 (by decide) rfl rfl
 ·exact kL _ 2 (by decide) rfl rfl
 ·exact kL _ 0 (by decide) rfl rfl
 ·exact kL _ 2 (by decide) rfl rfl
 ·exact kL _ 2 (by decide) rfl rfl
 ·exact kL _ 2 (by decide) rfl rfl
 ·exact kL _ 0 (by decide) rfl rfl
 ·exact kL _ 0 (by decide) rfl rfl
theorem yZq (r:qS)(s:qG)(c:qx){X:Type}(bad:Int→X)(Q:X):∃e,tK 1000 r s.st c=some e∧
  (e=0→((10≤c.2.1∧c.2.1≤14∧c.1= -1)∨(1≤c.2.1∧c.2.1≤9∧0≤c.1∧c.1<r.1))∧(s.ov=true→c.2.1=9))∧
  ((xq 1000 r c).bind fun x0=>some (bif !x0 then bad 5 else bif s.ov then(bif !(decide (c.2.1=9)) then bad 7 else Q) else Q))=some (bif decide (e=0) then Q else bad e):=by
 obtain⟨e,he,hm⟩:=vK4 (k:=1000) (by decide) r s c;refine⟨e,he,hm,?_⟩;have hA:LL 1000 c.2.1=some (decide (c.2.1≥1)&&decide (c.2.1≤14)):=by
  unfold LL;cases decide (c.2.1≥1)<;>rfl
 have hH:LM 1000 c.2.1=some (decide (c.2.1≥10)&&decide (c.2.1≤14)):=by
  unfold LM;cases decide (c.2.1≥10)<;>rfl
 by_cases hk:1≤c.2.1∧c.2.1≤14
 ·obtain⟨b,hb⟩:=yPm (k:=1000) (by decide) c.2;have bD:Dm 1000 c.2=some b:=(vGk _ _ _ _ _ _ _ hk).trans hb;have eo:s.st.2.2.2.2.2.2.2.2.2.2=s.ov:=rfl;unfold tK at he;rw[RO,RP,hb,eo] at he;simp only[ak] at he;unfold xq;rw[hA,hH,bD];simp only[ak];clear hm hA hH hb bD;generalize decide (c.1≥0)=A at he⊢;generalize decide (c.2.1≥10)=B at he⊢;generalize decide (c.2.1≤14)=C at he⊢;generalize decide (c.2.1≥1)=D at he⊢;generalize decide (c.1= -1)=E at he⊢;generalize decide (c.1<r.1)=F at he⊢;generalize decide (c.2.1=9)=G at he⊢;generalize s.ov=o at he⊢;cases A<;>cases B<;>cases C<;>cases D<;>cases E<;>cases F<;>cases G<;>cases b<;>cases o<;>(cases he;rfl)
 ·have g:(decide (c.2.1≥1)&&decide (c.2.1≤14))=false:=by
   by_cases a:c.2.1≥1
   ·rw[ag a,ai (fun b=>hk ⟨a,b⟩)];rfl
   ·rw[ai a];rfl
  have e5:e=5:=by
   unfold tK at he;rw[RO,RP,g] at he;simp only[ak] at he;cases hd:decide (c.1≥0)<;>rw[hd] at he<;>(cases he;rfl)
  subst e5;unfold xq;rw[hA,g];rfl
structure Dlt (r:qS) (s:qG) (f:jH) (t:qG) (l:List yB):Prop where
 inv:yO r t
 ov:t.ov=s.ov
 few:l.length≤2
 kd:Kd l
 ids:∀x∈t.ids,x∈s.ids∨x=f.2.1
structure xr (r:qS) (s:qG) (f:jH) (t:qG) (o:List yB) (e:Int):Prop where
 inv:yO r t
 bad:e≠0→t=s∧o=[]
 ne:lA o
 few:o.length≤200
 ids:∀x∈t.ids,x∈s.ids∨x=f.2.1
theorem xr.none {r:qS}{s:qG}{f:jH}(h:yO r s)(e:Int):xr r s f s [] e:=⟨h,fun _=>⟨rfl,rfl⟩,fun x hx=>absurd hx List.not_mem_nil,Nat.zero_le _,fun _ h=>.inl h⟩
theorem kn (who a:Int)(kd:Int)(h:kd≠16∧kd≠23):Kd [kK who kd a]:=RQ h
structure Dn (r:qS) (s:qG) (who:Int) (f:jH) (t:qG) (l l':List yB) (paid:Int):Prop where
 dealt:Dlt r s f t l
 told:l=(if who= -1 then l' else kK who 15 0::l')
 paid:paid=if f.1=1 then f.2.1 else 0
 pos:f.1=1→0<f.2.1
theorem vJi {r:qS}{s:qG}{who:Int}{f:jH}(h:(gd r s who f).1=0):0<f.2.1:=by
 unfold gd at h;cases h1:decide (f.2.2.1≥0)&&decide (f.2.2.1≤r.1-1) with
 |false=>rw[h1] at h;cases h
 |true=>
 cases h2:decide (f.2.2.2.2.1≥1)&&decide (f.2.2.2.2.1≤3) with
 |false=>rw[h1,h2] at h;cases h
 |true=>
 rw[h1,h2] at h;simp only[bG,ay] at h;by_cases hc:kJ r s.t (jM who f)=0
 ·unfold kJ at hc;cases hb:iB r.1 s.t (jM who f) with
  |false=>rw[hb] at hc;cases hc
  |true=>
   unfold iB at hb;simp only[bJ,bO] at hb;have:(jM who f).1≥1:=hb.2.2.1;have e:(jM who f).1=f.2.1:=rfl;omega
 ·rw[ai hc] at h;exact absurd h hc
theorem vF2 {r:qS}(hr:wV r){s:qG}(h:yO r s)(ho:s.ov=false){who:Int}(hw:0≤who∧who<r.1){f:jH}(hf:1≤f.1∧f.1≤8):
  ∃e d d',LN 1000 (dk r s who [kK who 15 0]) f=some (e,d)∧tM 1000 (rk r s who) f=some (e,d')∧(e=0→∃t l l' paid,d=dk r t who l∧d'=qK r t who l' paid∧Dn r s who f t l l' paid):=by
 unfold LN tM;have nW:¬who= -1:=by omega
 have kn:=kn who 0 15 (by decide);by_cases h1:f.1=1
 ·rw[ag h1];obtain⟨d,e1,e2⟩:=vQl (k:=1000) (by decide) hr h.waits who [kK who 15 0] f;obtain⟨d',q1,q2⟩:=yXd (k:=1000) (by decide) hr h.waits who f;simp only[av];rw[e1,q1];exact⟨_,d,d',rfl,rfl,fun e=>⟨_,_,_,_,e2 e,q2 e,⟨h.queue ho (yX5 hr h e),rfl,by simp,kn,vEv e⟩,(if_neg nW).symm,(if_pos h1).symm,fun _=>vJi e⟩⟩
 rw[ai h1];by_cases hq:f.1=2∨f.1=3∨f.1=4
 ·obtain⟨d,e1,e2⟩:=vJf (k:=1000) (by decide) h.waits who (l:=[kK who 15 0]) (by simp) f;obtain⟨d',q1,q2⟩:=vE8 (k:=1000) (by decide) (r:=r) h.waits who f hq;have g:∃e d d',(xc 1000 (dk r s who [kK who 15 0]) f).bind (fun x=>some (x.1,x.2))=some (e,d)∧(xm 1000 (rk r s who) f.1 f.2).bind (fun x=>some (x.1,x.2))=some (e,d')∧(e=0→∃t l l' paid,d=dk r t who l∧d'=qK r t who l' paid∧Dn r s who f t l l' paid):=by
   rw[e1,q1];refine⟨_,d,d',rfl,rfl,fun e=>⟨_,_,_,_,e2 e,q2 e,⟨h.queue ho (vIo h e),rfl,?_,kn.append vGo,fun _ h=>.inl h⟩,?_,(if_neg h1).symm,fun e'=>absurd e' h1⟩⟩
   ·have:=vQ8 (r:=r) (s:=s) (who:=who) (f:=f);rw[List.length_append];simp;omega
   ·rw[if_neg nW];rfl
  rcases hq with e|e|e
  ·rw[ag e];exact g
  ·rw[ai (show¬f.1=2 by omega),ag e];exact g
  ·rw[ai (show¬f.1=2 by omega),ai (show¬f.1=3 by omega),ag e];exact g
 rw[ai (show¬f.1=2 by omega),ai (show¬f.1=3 by omega),ai (show¬f.1=4 by omega)];by_cases hq:f.1=5∨f.1=6∨f.1=7
 ·obtain⟨d,e1,e2⟩:=vNm (k:=1000) (by decide) hr h.bk h.n hw [kK who 15 0] f;obtain⟨d',q1,q2⟩:=vMu (k:=1000) (by decide) hr h.bk h.n hw f;have g:∃e d d',(xd 1000 (dk r s who [kK who 15 0]) f).bind (fun x=>some (x.1,x.2))=some (e,d)∧(xn 1000 (rk r s who) f.1 f.2).bind (fun x=>some (x.1,x.2))=some (e,d')∧(e=0→∃t l l' paid,d=dk r t who l∧d'=qK r t who l' paid∧Dn r s who f t l l' paid):=by
   rw[e1,q1];have bS:=vDl r s who f;exact⟨_,d,d',rfl,rfl,fun e=>⟨_,_,_,_,e2 e,q2 e,⟨vD9 h hw e,bS.2.1,by simp,kn,by rw[yXr];exact fun _ h=>.inl h⟩,(if_neg nW).symm,(if_neg h1).symm,fun e'=>absurd e' h1⟩⟩
  rcases hq with e|e|e
  ·rw[ag e];exact g
  ·rw[ai (show¬f.1=5 by omega),ag e];exact g
  ·rw[ai (show¬f.1=5 by omega),ai (show¬f.1=6 by omega),ag e];exact g
 rw[ai (show¬f.1=5 by omega),ai (show¬f.1=6 by omega),ai (show¬f.1=7 by omega),ag (show f.1=8 by omega)];obtain⟨d,e1,e2⟩:=yU7 (k:=1000) (by decide) hr h hw [kK who 15 0] f.2.1 f.2.2.1;obtain⟨d',q1,q2⟩:=yTe hr h hw f.2.1 f.2.2.1;simp only[av,ay];rw[e1,q1];have bS:=vQh r s who f.2.1 f.2.2.1;exact⟨_,d,d',rfl,rfl,fun e=>⟨_,_,_,_,e2 e,q2 e,⟨vG2 hr h hw e,bS.2.1,by simp,kn,by rw[vDx];exact fun _ h=>.inl h⟩,(if_neg nW).symm,(if_neg h1).symm,fun e'=>absurd e' h1⟩⟩
theorem vNx {r:qS}(hr:wV r){s:qG}(h:yO r s){f:jH}(hf:10≤f.1∧f.1≤13):
  ∃e d d',Dp 1000 (eQ r s (-1)) f=some (e,d)∧tM 1000 (rk r s (-1)) f=some (e,d')∧(e=0→∃t l l' paid,d=dk r t (-1) l∧d'=qK r t (-1) l' paid∧Dn r s (-1) f t l l' paid):=by
 unfold Dp tM;have h1:¬f.1=1:=by omega
 rw[ai h1,ai (show¬f.1=2 by omega),ai (show¬f.1=3 by omega),ai (show¬f.1=4 by omega),ai (show¬f.1=5 by omega),ai (show¬f.1=6 by omega),ai (show¬f.1=7 by omega),ai (show¬f.1=8 by omega)];by_cases hq:f.1=10∨f.1=11
 ·obtain⟨d,e1,e2⟩:=vA2 (k:=1000) (by decide) hr h (-1) f.1 f.2.1 f.2.2.1;obtain⟨d',q1,q2⟩:=yYr hr h (-1) f.1 f.2.1 f.2.2.1 hq;have g:∃e d d',(CK 1000 (eQ r s (-1)) f.1 f.2.1 f.2.2.1).bind (fun x=>some (x.1,x.2))=some (e,d)∧(CU 1000 (rk r s (-1)) (decide (f.1=10)) f.2.1 f.2.2.1).bind (fun x=>some (x.1,x.2))=some (e,d')∧(e=0→∃t l l' paid,d=dk r t (-1) l∧d'=qK r t (-1) l' paid∧Dn r s (-1) f t l l' paid):=by
   rw[e1,q1];refine⟨_,d,d',rfl,rfl,fun e=>?_⟩;obtain⟨g1,g2,g3,g4,g5⟩:=vQj h e;exact⟨_,_,_,_,e2 e,q2 e,⟨g1,yY6,by simp,tL,by rw[g4];exact fun _ h=>.inl h⟩,rfl,(if_neg h1).symm,fun e'=>absurd e' h1⟩
  rcases hq with e|e
  ·have e1:decide (f.1=10)=true:=ag e;rw[e1] at g⊢;exact g
  ·have e1:decide (f.1=10)=false:=ai (by omega);rw[e1] at g⊢;rw[ag e];exact g
 rw[ai (show¬f.1=10 by omega),ai (show¬f.1=11 by omega)];by_cases hp:f.1=12
 ·rw[ag hp];obtain⟨d,e1,e2⟩:=yZm (k:=1000) (by decide) hr h (-1) f.2.1 f.2.2.1;obtain⟨d',q1,q2⟩:=vAj hr h (-1) f.2.1 f.2.2.1;simp only[av,ay];rw[e1,q1];have bS:=vDy r s f.2.1 f.2.2.1;exact⟨_,d,d',rfl,rfl,fun e=>⟨_,_,_,_,e2 e,q2 e,⟨vMj h e,bS.2.1,by simp,tL,by rw[vHp];exact fun _ h=>.inl h⟩,rfl,(if_neg h1).symm,fun e'=>absurd e' h1⟩⟩
 ·rw[ai hp];exact⟨_,_,_,rfl,rfl,fun _=>⟨s,[],[],0,rfl,rfl,⟨h,rfl,by simp,tL,fun _ h=>.inl h⟩,rfl,(if_neg h1).symm,fun e'=>absurd e' h1⟩⟩
def LO (who kd:Int)(x4:Int×RB):Option (qi×List yB×Int):=
  bif !(decide (who = (-1))) then ((wY 1000 15 []).bind fun x5=>
   (lz 1000 x4.2.2.2.2.2.2.1 x4.2.2.2.2.2.2.2.1 x4.2.2.2.2.2.2.2.2.1 x4.2.2.2.2.2.2.2.2.2.1 x4.2.2.2.2.2.2.2.2.2.2.1 x4.2.2.2.2.2.2.2.2.2.2.2.1 x4.2.2.2.2.2.2.2.2.2.2.2.2.1 x4.2.2.2.2.2.2.2.2.2.2.2.2.2.1 x4.2.2.2.2.2.2.2.2.2.2.2.2.2.2.1 x4.2.2.2.2.2.2.2.2.2.2.2.2.2.2.2.1 x4.2.2.2.2.2.2.2.2.2.2.2.2.2.2.2.2.1 (decide (kd=13))).bind fun x6=>
   bif zR (1 + x4.2.2.2.2.2.2.2.2.2.2.2.2.2.2.2.2.2.2.1.length) 64 then (let y0:List yB:=([(who,x5)]++x4.2.2.2.2.2.2.2.2.2.2.2.2.2.2.2.2.2.2.1)
    bif zR (y0.length + x6.2.2.2.2.2.2.2.2.2.2.2.length) 64 then (bif decide (x4.2.2.2.2.2.2.2.2.2.2.2.2.2.2.2.2.2.2.2 > 0) then ((j0 1000 x6.2.2.2.2.2.2.2.1 x4.2.2.2.2.2.2.2.2.2.2.2.2.2.2.2.2.2.2.2).bind fun x7=>
      bif decide (x7 ≥ 0) then ((wY 1000 19 [x4.2.2.2.2.2.2.2.2.2.2.2.2.2.2.2.2.2.2.2]).bind fun x8=>
       bif zR ((y0 ++ x6.2.2.2.2.2.2.2.2.2.2.2).length + 1) 64 then (let y1:List yB:=((y0++x6.2.2.2.2.2.2.2.2.2.2.2)++[(who,x8)])
        some ((qR x6),y1,0))
       else none)
      else some ((qR x6),(y0++x6.2.2.2.2.2.2.2.2.2.2.2),0))
     else some ((qR x6),(y0++x6.2.2.2.2.2.2.2.2.2.2.2),0))
    else none)
   else none)
  else(lz 1000 x4.2.2.2.2.2.2.1 x4.2.2.2.2.2.2.2.1 x4.2.2.2.2.2.2.2.2.1 x4.2.2.2.2.2.2.2.2.2.1 x4.2.2.2.2.2.2.2.2.2.2.1 x4.2.2.2.2.2.2.2.2.2.2.2.1 x4.2.2.2.2.2.2.2.2.2.2.2.2.1 x4.2.2.2.2.2.2.2.2.2.2.2.2.2.1 x4.2.2.2.2.2.2.2.2.2.2.2.2.2.2.1 x4.2.2.2.2.2.2.2.2.2.2.2.2.2.2.2.1 x4.2.2.2.2.2.2.2.2.2.2.2.2.2.2.2.2.1 (decide (kd=13))).bind fun x9=>
  bif zR x4.2.2.2.2.2.2.2.2.2.2.2.2.2.2.2.2.2.2.1.length 64 then (let y2:List yB:=x4.2.2.2.2.2.2.2.2.2.2.2.2.2.2.2.2.2.2.1
   bif zR (y2.length + x9.2.2.2.2.2.2.2.2.2.2.2.length) 64 then (bif decide (x4.2.2.2.2.2.2.2.2.2.2.2.2.2.2.2.2.2.2.2 > 0) then ((j0 1000 x9.2.2.2.2.2.2.2.1 x4.2.2.2.2.2.2.2.2.2.2.2.2.2.2.2.2.2.2.2).bind fun gf=>
     bif decide (gf ≥ 0) then ((wY 1000 19 [x4.2.2.2.2.2.2.2.2.2.2.2.2.2.2.2.2.2.2.2]).bind fun Ht=>
      bif zR ((y2 ++ x9.2.2.2.2.2.2.2.2.2.2.2).length + 1) 64 then (let y3:List yB:=((y2++x9.2.2.2.2.2.2.2.2.2.2.2)++[(who,Ht)])
       some ((qR x9),y3,0))
      else none)
     else some ((qR x9),(y2++x9.2.2.2.2.2.2.2.2.2.2.2),0))
    else some ((qR x9),(y2++x9.2.2.2.2.2.2.2.2.2.2.2),0))
   else none)
  else none
def xu (r:qS)(s:qi)(c:qx):Option (qi×List yB×Int):=
  bif decide (c.2.1 = 9) then (bif zC c.1 s.2.1.length then ((pY 1000 s.2.2.2.2.2.2.2.1 c.1).bind fun x1=>
    (wY 1000 17 [(s.2.1.getD c.1.toNat (0,0,0)).1,(s.2.1.getD c.1.toNat (0,0,0)).2.1,(s.2.1.getD c.1.toNat (0,0,0)).2.2,(x1.length:Int),s.1]).bind fun x2=>
    some (s,[(c.1,x2)],0))
   else none)
  else bif decide (c.2.1 = 14) then ((Dg 1000 r s).bind fun x3=>
   some (x3.1,x3.2,0))
  else(tM 1000 (eW r (jP s (c.1,0))) c.2).bind fun x4=>
  bif !(decide (x4.1=0)) then some (s,[],x4.1)
  else LO c.1 c.2.1 x4
theorem vF1 (r:qS)(s:qi)(c:qx):Hu 1000 r s c=(xq 1000 r c).bind fun x0=>
  bif !x0 then some (s,[],5) else bif s.2.2.2.2.2.2.2.2.2.2 then(bif !(decide (c.2.1=9)) then some (s,[],7) else xu r s c) else xu r s c:=rfl
theorem qW7 {r:qS}(hr:wV r){s t:qG}(ho:s.ov=false){who:Int}{l l':List yB}{f:jH}{paid:Int}(hB:Dn r s who f t l l' paid):
    ∃ u o, ((qf 1000 t.t t.B.1 t.B.2.1 t.B.2.2.1 t.B.2.2.2 t.pr t.ho t.m t.ids t.to t.ov (decide (f.1=13))).bind fun x5=>
      bif zR (l.length + x5.2.2.2.2.2.2.2.2.2.2.2.length) 64 then (let y0:List yB:=(l++x5.2.2.2.2.2.2.2.2.2.2.2)
       bif decide (f.1 = 1) then ((mc 1000 x5.2.2.2.2.2.2.2.1 f.2.1).bind fun x6=>
        bif decide (x6 ≥ 0) then ((tt 1000 (LP ((0:Int),dk r t who l) y0) 19 [f.2.1]).bind fun x7=>
         some ((qR x5),x7.2.2.2.2.2.2.2.2.2.2.2.2.2.2.2.2.2,(0:Int)))
        else some ((qR x5),y0,0))
       else some ((qR x5),y0,0))
      else none)=some (u.st,o,(0:Int))∧LO who f.1 (0,qK r t who l' paid)=some (u.st,o,(0:Int))∧yO r u∧lA o∧o.length≤200∧u.ids=t.ids:=by
  have h:=hB.dealt.inv;have qz:=hB.dealt.ov.trans ho;have hl:=hB.dealt.few;have hm:=h.waits.len;obtain⟨C,m',d,e1,Hi,e3,e4,e5,e6,e7⟩:=qVv h.bk h.waits.dist h.waits.may (by omega) t.t t.pr t.ho t.ids t.to t.ov (decide (f.1=13));have hd:d.length≤40:=by
    have:=e6.length_eq;rw[List.length_append] at this;omega
  have sC:=e5.length_le;have zq:=Ch d;have hu:=h.settled qz e3 e4 e5;have dr:l'.length≤2:=by
    have:=hB.told;by_cases hw:who= -1
    · rw[if_pos hw] at this;rw[←this];exact hl
    · rw[if_neg hw] at this;rw[this,List.length_cons] at hl;omega
  have key:LO who f.1 (0,qK r t who l' paid)=bif decide (paid>0) then(bif decide (eN m' paid≥0) then some ((t.t,C.1,C.2.1,C.2.2.1,C.2.2.2,t.pr,t.ho,m',t.ids,t.to,t.ov),(l++vB d)++[kK who 19 paid],(0:Int)) else some ((t.t,C.1,C.2.1,C.2.2.1,C.2.2.2,t.pr,t.ho,m',t.ids,t.to,t.ov),l++vB d,0)) else some ((t.t,C.1,C.2.1,C.2.2.1,C.2.2.2,t.pr,t.ho,m',t.ids,t.to,t.ov),l++vB d,0):=by
    have es:lz 1000 (qK r t who l' paid).2.2.2.2.2.1 (qK r t who l' paid).2.2.2.2.2.2.1 (qK r t who l' paid).2.2.2.2.2.2.2.1 (qK r t who l' paid).2.2.2.2.2.2.2.2.1 (qK r t who l' paid).2.2.2.2.2.2.2.2.2.1 (qK r t who l' paid).2.2.2.2.2.2.2.2.2.2.1 (qK r t who l' paid).2.2.2.2.2.2.2.2.2.2.2.1 (qK r t who l' paid).2.2.2.2.2.2.2.2.2.2.2.2.1 (qK r t who l' paid).2.2.2.2.2.2.2.2.2.2.2.2.2.1 (qK r t who l' paid).2.2.2.2.2.2.2.2.2.2.2.2.2.2.1 (qK r t who l' paid).2.2.2.2.2.2.2.2.2.2.2.2.2.2.2.1 (decide (f.1=13))=_:=Hi;have eo:(qK r t who l' paid).2.2.2.2.2.2.2.2.2.2.2.2.2.2.2.2.2.1=l':=rfl;have ep:(qK r t who l' paid).2.2.2.2.2.2.2.2.2.2.2.2.2.2.2.2.2.2=paid:=rfl;have ef:j0 1000 m' paid=some (eN m' paid):=Gj (by omega) (by omega) paid;unfold LO;simp only[es,eo,ep,Of0,LH,ak];have ht:=hB.told;by_cases hw:who= -1
    · rw[if_pos hw] at ht;rw[ag hw,qT (n:=l'.length) (by omega) (by omega),qT (n:=l'.length+(vB d).length) (by omega) (by omega),qT (n:=(l'++vB d).length+1) (by rw[List.length_append];omega) (by rw[List.length_append];omega),ht];simp only[bG,ay,av];rw[ef];rfl
    · rw[if_neg hw] at ht;have er:[((who,(15,0,0,0,0,0,0)):yB)]++l'=l:=ht.symm;rw[ai hw,er,qT (n:=1+l'.length) (by omega) (by omega),qT (n:=l.length+(vB d).length) (by omega) (by omega),qT (n:=(l++vB d).length+1) (by rw[List.length_append];omega) (by rw[List.length_append];omega)];simp only[fY,av];rw[ef];rfl
  rw[e1,key];simp only[ak];rw[qT (n:=l.length+(vB d).length) (by omega) (by omega)];simp only[av];have fin:∀(o:List yB) {x:Option (qi×List yB×Int)},o.length≤200→lA o→x=some (({t with B:=C,m:=m'}:qG).st,o,(0:Int))→∃u o',some (({t with B:=C,m:=m'}:qG).st,o,(0:Int))=some (u.st,o',(0:Int))∧x=some (u.st,o',(0:Int))∧yO r u∧lA o'∧o'.length≤200∧u.ids=t.ids:=fun o _ hl hk hx=>⟨{t with B:=C,m:=m'},o,rfl,hx,hu,hk,hl,rfl⟩
  have k1:Kd (l++vB d):=hB.dealt.kd.append (RR _);have b1:(l++vB d).length≤199:=by rw[List.length_append];omega
  have b2:∀x:yB,(l++vB d++[x]).length≤200:=fun x=>by rw[List.length_append];simp;rw[List.length_append] at b1;omega
  have hp:=hB.paid;by_cases h1:f.1=1
  · rw[if_pos h1] at hp;subst hp;rw[ag h1,ag (show f.2.1>0 from hB.pos h1)];simp only[av];rw[BB (by omega) (by omega)];simp only[ak];cases decide (eN m' f.2.1≥0) with
    |false=>exact fin _ (by omega) k1.ne rfl
    |true=>
      simp only[av];have ej:LP ((0:Int),dk r t who l) (l++vB d)=dk r t who (l++vB d):=rfl;rw[ej,qXo (by rw[List.length_append];omega)];exact fin _ (b2 _) (k1.append (kn _ _ _ (by decide))).ne rfl
  · rw[if_neg h1] at hp;subst hp;rw[ai h1,ai (show¬(0:Int)>0 by decide)];exact fin _ (by omega) k1.ne rfl
theorem yS4 {r:qS}{s:qG}(h:yO r s){who:Int}(hw:0≤who∧who<r.1)(c:qx)(hc:c.1=who)(h9:c.2.1=9):
  ∃o,LQ 1000 s.st who=some o∧xu r s.st c=some (s.st,o,0)∧o.length≤200∧lA o:=by
 have hm:=h.waits.len;have hn:=h.n;have hb:zC who s.B.1.length=true:=vw hw.1 (by omega);have e1:s.st.2.1=s.B.1:=rfl;have e2:s.st.2.2.2.2.2.2.2.1=s.m:=rfl;unfold LQ xu;rw[ag h9,hc,e1,e2,hb,yNm (by omega) (by unfold qN;omega),Kw (by omega) (by unfold qN;omega)];simp only[av,ak,Of5];exact⟨_,rfl,rfl,by simp,(RQ ⟨by simp,by simp⟩).ne⟩
theorem yZ8 {r:qS}(hr:wV r){s:qG}(h:yO r s)(c:qx):
  ∃t o e,Hv 1000 r s.st c=some (t.st,o,e)∧Hu 1000 r s.st c=some (t.st,o,e)∧xr r s c.2 t o e:=by
 obtain⟨e,he,hm,hb⟩:=yZq r s c (fun e=>(some (s.st,[],e):Option (qi×List yB×Int))) (xu r s.st c);have hR:Hu 1000 r s.st c=bif decide (e=0) then xu r s.st c else some (s.st,[],e):=by
  rw[vF1];have eo:s.st.2.2.2.2.2.2.2.2.2.2=s.ov:=rfl;rw[eo];cases hx:xq 1000 r c with
  |none=>rw[hx] at hb;cases hb
  |some x=>
   rw[hx] at hb;simp only[ak,Option.some.injEq] at hb;exact hb
 unfold Hv;rw[he,hR];simp only[ak];by_cases h0:e=0
 ·obtain⟨hw,qz⟩:=hm h0;rw[ag h0];simp only[bG,ay,av];by_cases h9:c.2.1=9
  ·have sv:0≤c.1∧c.1<r.1:=by omega
   obtain⟨o,ho,ja,hol,ek⟩:=yS4 h sv c rfl h9;rw[ag h9,ja];simp only[av];rw[ho];exact⟨s,o,0,rfl,rfl,h,fun e=>absurd rfl e,ek,hol,fun _ h=>.inl h⟩
  ·have ho:s.ov=false:=by
    cases g:s.ov with
    |false=>rfl
    |true=>exact absurd (qz g) h9
   have fin:∀{t:qG} {x y:Option (qi×List yB×Int)},(∀x∈t.ids,x∈s.ids∨x=c.2.2.1)→(∃u o,x=some (u.st,o,(0:Int))∧y=some (u.st,o,(0:Int))∧yO r u∧lA o∧o.length≤200∧u.ids=t.ids)→∃t o e,x=some (t.st,o,e)∧y=some (t.st,o,e)∧xr r s c.2 t o e:=by
    intro t x y hi ⟨u,o,g1,wv,g2,g3,g4,g5⟩;exact⟨u,o,0,g1,wv,g2,fun e=>absurd rfl e,g3,g4,by rw[g5];exact hi⟩
   unfold xu;rw[ai h9];simp only[ay];by_cases hp:c.1= -1
   ·rw[ag hp];have hf:10≤c.2.1∧c.2.1≤14:=by omega
    have ed:eW r (jP s.st c.1)=eQ r s (-1):=by rw[hp];rfl
    have er:eW r (jP s.st (c.1,0))=rk r s (-1):=by rw[hp];rfl
    simp only[bG,ay];rw[ed,er];by_cases RW:c.2.1=14
    ·have g0:Dp 1000 (eQ r s (-1)) c.2=some (0,dk r s (-1) []):=by
      unfold Dp;rw[RW];rfl
     rw[g0];simp only[ak];rw[ag RW];have bn:=h.tk;have Et:=hr.cl;have GS:=hr.pe;obtain⟨x,x1,x2⟩:=vKi r h.bk h.waits.dist h.waits.may (by have:=h.waits.len;omega) ⟨by omega,by omega⟩ (by omega) ho;obtain⟨C,m',ov,o,y1,y2,_,_,y3,y4⟩:=vB2 (k:=1000) (by decide) hr h ho;rw[x1] at y1;have y1:=Option.some.inj y1;subst y1;refine⟨_,o,0,(congrArg (fun z=>Option.bind z _) x1).trans rfl,(congrArg (fun z=>Option.bind z _) x2).trans rfl,y2,fun e=>absurd rfl e,?_,by omega,fun _ h=>.inl h⟩;rcases y4 with⟨_,_,rfl,_⟩|⟨l,d,n,rfl,_,_,_⟩
     ·exact(qVf (.inr rfl) _).ne.append (vQc _ _)
     ·exact((qVf (.inl rfl) _).append (RR _)).ne
    ·obtain⟨e,d,d',g1,wv,g2⟩:=vNx hr h (f:=c.2) (by omega);rw[g1,ai RW,wv];simp only[ak,ay];by_cases hz:e=0
     ·obtain⟨t,l,l',paid,rfl,rfl,hd⟩:=g2 hz;rw[ag hz,hp];simp only[bG,ay];subst hz;exact fin hd.dealt.ids (qW7 hr ho hd)
     ·rw[ai hz];exact⟨s,[],e,rfl,rfl,xr.none h e⟩
   ·rw[ai hp,ai (show¬c.2.1=14 by omega)];have hf:1≤c.2.1∧c.2.1≤8:=by omega
    have sv:0≤c.1∧c.1<r.1:=by omega
    have ed:LR 1000 (eW r (jP s.st c.1)) 15 []=some (dk r s c.1 [kK c.1 15 0]):=rfl;have er:eW r (jP s.st (c.1,0))=rk r s c.1:=rfl;obtain⟨e,d,d',g1,wv,g2⟩:=vF2 hr h ho sv (f:=c.2) hf;simp only[fY,av,ay];rw[ed,er,wv];simp only[ak];rw[g1];simp only[ak];by_cases hz:e=0
    ·obtain⟨t,l,l',paid,rfl,rfl,hd⟩:=g2 hz;rw[ag hz];simp only[bG,ay];subst hz;exact fin hd.dealt.ids (qW7 hr ho hd)
    ·rw[ai hz];exact⟨s,[],e,rfl,rfl,xr.none h e⟩
 ·rw[ai h0];exact⟨s,[],e,rfl,rfl,xr.none h e⟩
def re (s t:qG):Prop:=∀i,i<s.B.1.length→(t.B.1.getD i ad).1<(s.B.1.getD i ad).1→0≤(t.B.1.getD i ad).1+(t.B.1.getD i ad).2.1
theorem re.same {s t}(h:∀i,i<s.B.1.length→(t.B.1.getD i ad).1=(s.B.1.getD i ad).1):re s t:=fun i hi bn=>by simp_all
theorem re.refl s:re s s:=re.same (by simp)
theorem re.set {s t:qG}{j:Nat}{a:qQ}(h:t.B.1=s.B.1.set j a)(ha:a.1<(s.B.1.getD j ad).1→0≤a.1+a.2.1):re s t:=fun i hi=>by
 rw[h,jG];split
 ·next h=>rw[←h.1];exact ha
 ·omega
structure vSc (r:qS) (s:qG) (f:jH) (t:qG) (l:List yB):Prop where
 inv:yO r t
 tk:t.t=s.t
 ov:t.ov=s.ov
 few:l.length≤2
 to:t.to=s.to+(if f.1=10 then f.2.2.1 else if f.1=11 then-f.2.2.1 else 0)
 fell:re s t
 kd:Kd l
 ids:∀x∈t.ids,x∈s.ids∨x=f.2.1
structure Did (k:Nat) (r:qS) (s:qG) (c:qx) (t:qG) (o:List yB) (e:Int):Prop where
 inv:yO r t
 bad:e≠0→t=s∧o=[]
 to:e=0→t.to=s.to+(if c.2.1=10 then c.2.2.2.1 else if c.2.1=11 then-c.2.2.2.1 else 0)
 still:t=s∨(t.ov=false→jR k t.B (vO t.m t.t)=none)
 fell:re s t
 ne:lA o
 few:o.length≤100
 ids:∀x∈t.ids,x∈s.ids∨x=c.2.2.1
theorem yTy {k:Nat}(hk:1000≤k){n:Nat}{m:List zG}{ids:AC}(h:gO n m ids):Hw k m=some true:=by
 have hm:=h.len;have e1 : xv k k m m (m.length : Int) 0 = some (.inl m) := G3 (L := fun n i => xv k n m m (m.length : Int) i) (fun n=>by
  show Dq k _ m m (m.length:Int) (m.length:Int)=_;unfold Dq;rw[ai (Int.lt_irrefl _)];rfl) (fun n i hi=>by
  show Dq k (xv k n) m m (m.length:Int) (i:Int)=_;unfold Dq;have e:m.getD i (0,0,0,0,0,0,0)=m.getD i pd:=rfl;rw[ag (show(i:Int)<m.length by omega),zV,ag hi,aC,e,BB (by omega) (by omega),yLk h.dist hi,qD hi (by omega)];simp only[av,ak,decide_true,bG,ay]) (by omega)
 have e2:LS k m=some true:=by
  have down:∀(i n:Nat),i<n→i<m.length∨i=0→Hy k n m (i:Int)=some (.inl ()):=by
   intro i
   induction i with
   |zero=>
    intro n hn _;obtain⟨n,rfl⟩:∃x,n=x+1:=⟨n-1,by omega⟩;rfl
   |succ i ih=>
    intro n hn hi;obtain⟨n,rfl⟩:∃x,n=x+1:=⟨n-1,by omega⟩;have bE:i+1<m.length:=by omega
    show LU k (Hy k n) m ((i+1:Nat):Int)=_;unfold LU;have w:zA (((i+1:Nat):Int)-1)=(i:Int):=by rw[zN (by omega) (by omega)];omega
    rw[ag (show((i+1:Nat):Int)>0 by omega),w,zV,zV,ag bE,ag (show i<m.length by omega),aC,aC];simp only[av];obtain⟨x,x1,x2,x3⟩:=QI (k:=k) (by omega) (m.getD (i+1) pd) (m.getD i pd);have hs:=List.pairwise_iff_getElem.1 h.sort i (i+1) (by omega) bE (by omega);rw[←j6 (d:=pd) m (by omega),←j6 (d:=pd) m bE] at hs;have nx:¬x<0:=fun q=>by
     have:gK (m.getD (i+1) pd) (m.getD i pd)=true:=by rw[←x3];exact ag q
     rw[Rv] at this;rw[He] at hs;omega
    refine(congrArg (fun z=>Option.bind z _) x1).trans ?_;simp only[ak];rw[ai nx];exact ih n (by omega) (.inl (by omega))
  unfold LS;by_cases hz:m.length=0
  ·have:m=[]:=List.eq_nil_of_length_eq_zero hz;subst this;have w:zA (((([]:List zG).length:Nat):Int)-1)= -1:=by rw[zN (by decide) (by decide)];rfl
   rw[w];obtain⟨j,rfl⟩:∃x,k=x+1:=⟨k-1,by omega⟩;rfl
  ·have w:zA ((m.length:Int)-1)=((m.length-1:Nat):Int):=by rw[zN (by omega) (by omega)];omega
   rw[w,down (m.length-1) k (by omega) (.inl (by omega))];rfl
 unfold Hw;rw[e1];simp only[ak];rw[ag (show(m.length:Int)≤40 by omega),e2];rfl
theorem yUz {k:Nat}(hk:1000≤k){n:Nat}{m:List zG}{ids:AC}(h:gO n m ids):Hz k ids=some true:=by
 have hl:=h.idl;obtain ⟨s, e1, _⟩ := yZ (L := fun n i (p : Int) => HA k n ids p ids (ids.length : Int) i) (N := ids.length) (fun _ => (.inl ids : AC ⊕ Bool)) (fun i p => p = if i = 0 then 0 else ids.getD (i - 1) 0) (fun n p _=>by
  show Dr k _ ids p ids (ids.length:Int) (ids.length:Int)=_;unfold Dr;rw[ai (Int.lt_irrefl _)];rfl) (fun n i p hi hp=>by
  refine⟨ids.getD i 0,?_,by rw[if_neg (by omega)];rfl⟩;show Dr k (HA k n) ids p ids (ids.length:Int) (i:Int)=_;unfold Dr;have bn:¬ids.getD i 0≤p:=by
   rw[hp];by_cases z:i=0
   ·rw[if_pos z];have:=h.pos _ (jU (d:=0) hi);omega
   ·rw[if_neg z];have:=List.pairwise_iff_getElem.1 h.asc (i-1) i (by omega) hi (by omega);rw[←j6 (d:=0) ids (by omega),←j6 (d:=0) ids hi] at this;omega
  rw[ag (show(i:Int)<ids.length by omega),zV,ag hi,aC,ai bn,qD hi (by omega)];rfl) (n:=k) (s:=0) (by omega) rfl
 unfold Hz;rw[e1];simp only[ak];rw[ag (show(ids.length:Int)≤200 by omega)]
theorem vFa {k}(hk:1000≤k){r s}(h:yO r s):HB k s.st=some true:=by
 have hw:=h.waits;have hm:=hw.len;have e1:HB k s.st=(Hw k s.m).bind fun x0=>bif x0 then((Hz k s.ids).bind fun x1=>bif x1 then((LV k s.m s.t s.B.1 s.B.2.1 s.B.2.2.1 s.B.2.2.2 s.pr s.ho s.m s.ids s.to s.ov).bind fun x2=>some (!x2)) else some false) else some false:=rfl
 rw[e1,yTy hk hw,yUz hk hw];have e2 : xw k k s.m (s.m.length : Int) 0 s.t s.B.1 s.B.2.1 s.B.2.2.1 s.B.2.2.2 s.pr s.ho s.m s.ids s.to s.ov = some (.inl ()) := G3 (L := fun n i => xw k n s.m (s.m.length : Int) i s.t s.B.1 s.B.2.1 s.B.2.2.1 s.B.2.2.2 s.pr s.ho s.m s.ids s.to s.ov) (fun n=>by
  show Ds k _ s.m (s.m.length:Int) (s.m.length:Int) s.t s.B.1 s.B.2.1 s.B.2.2.1 s.B.2.2.2 s.pr s.ho s.m s.ids s.to s.ov=_;unfold Ds;simp) (fun n i hi=>by
  show Ds k (xw k n) s.m (s.m.length:Int) (i:Int) s.t s.B.1 s.B.2.1 s.B.2.2.1 s.B.2.2.2 s.pr s.ho s.m s.ids s.to s.ov=_;unfold Ds;have dD:s.m.getD i pd∈s.m:=jU hi;have ht:=hw.time _ dD;have ah:=hw.were _ dD;have f1:LW k (s.m.getD i pd) (s.t,s.B.1,s.B.2.1,s.B.2.2.1,s.B.2.2.2,s.pr,s.ho,s.m,s.ids,s.to,s.ov)=some false:=by
   unfold LW;rw[J4];have bK:lk s.B.1.length (s.m.getD i pd)=true:=J3.2 (hw.may _ dD);have HC:lk s.B.1.length ((s.m.getD i pd).1,(s.m.getD i pd).2.1,(s.m.getD i pd).2.2.1,(s.m.getD i pd).2.2.2.1,(s.m.getD i pd).2.2.2.2.1,(s.m.getD i pd).2.2.2.2.2.1,(s.m.getD i pd).2.2.2.2.2.2)=true:=bK;rw[HC];rw[ai (by grind),kI,ag (by grind),ag (by grind)];have hI:=hw.idl;rw[vRo (by omega) (by omega) hw.asc,ag ah];rfl
  have e:s.m.getD i (0,0,0,0,0,0,0)=s.m.getD i pd:=rfl;rw[ag (by grind),zV,ag hi,aC,e,f1,qD hi (by omega)];rfl) (by omega)
 unfold LV RX;simp_all
theorem vRv {k}(hk:1000≤k){r}(hr:wV r){s}(h:yO r s):HD k s.pr=some false:=by
 have kA:=h.bk.n1;have L:=h.laid 0 (by omega);have h3:=L.n3;have hp:=L.pl;have e2 : xx k k s.pr (s.pr.length : Int) 0 = some (.inl ()) := G3 (L := fun n i => xx k n s.pr (s.pr.length : Int) i) (fun n=>by
  show Dt k _ s.pr (s.pr.length:Int) (s.pr.length:Int)=_;unfold Dt;simp) (fun n i hi=>by
  show Dt k (xx k n) s.pr (s.pr.length:Int) (i:Int)=_;unfold Dt RY;have hv:=L.price i (by omega);rw[ag (by grind),zV,ag hi,aC,kI,ag (by grind),ag (by grind),qD hi (by omega)];rfl) (by omega)
 unfold HD RZ;simp_all
theorem vQp {k}(hk:1000≤k){sa pr h}(L:gM sa pr h):LX k h=some false:=by
 have h3:=L.n3;have hp:=L.hl;have e2 : xy k k h (h.length : Int) 0 = some (.inl ()) := G3 (L := fun n i => xy k n h (h.length : Int) i) (fun n=>by
  show Du k _ h (h.length:Int) (h.length:Int)=_;unfold Du;simp) (fun n i hi=>by
  show Du k (xy k n) h (h.length:Int) (i:Int)=_;unfold Du R0;have hv:=L.hold i (by omega);rw[ag (by grind),zV,ag hi,aC,ai (by grind),qD hi (by omega)];rfl) (by omega)
 unfold LX R1;simp_all
theorem vA1 {k}(hk:1000≤k){r}(hr:wV r){s}(h:yO r s):HE k r s.st=some true:=by
 have kA:=h.bk.n1;have eO:=h.bk.n6;have hn:=h.n;have hol:=h.hol;have L:=h.laid 0 (by omega);have e0:HE k r s.st=bif !(decide ((s.pr.length:Int)=(r.2.1.length:Int))) then some false
  else bif !(decide ((s.ho.length:Int)=r.1)) then some false
  else(HD k s.pr).bind fun x0=>
  bif x0 then some false
  else(tN k k s.ho (s.ho.length:Int) 0 r s.st).bind fun z=>
  match z with
  |.inl z1=>some true
  |.inr z2=>some z2:=rfl
 have e2 : tN k k s.ho (s.ho.length : Int) 0 r s.st = some (.inl ()) := G3 (L := fun n i => tN k n s.ho (s.ho.length : Int) i r s.st) (fun n=>by
  show Dv k (tN k n) s.ho (s.ho.length:Int) (s.ho.length:Int) r s.st=_;unfold Dv;simp) (fun n i hi=>by
  show Dv k (tN k n) s.ho (s.ho.length:Int) (i:Int) r s.st=_;unfold Dv;have bE:i<s.B.1.length:=by omega
  have Li:=h.laid i bE;have hc:(s.B.1.getD i ad).2.1=_:=h.cred i bE;have hm:(s.B.1.getD i ad).2.1≤_:=h.most i bE;have ep:s.st.2.2.2.2.2.1=s.pr:=rfl;have ea:s.st.2.1=s.B.1:=rfl;have ed:s.B.1.getD i (0,0,0)=s.B.1.getD i ad:=rfl;rw[ag (by grind),zV,ag hi,aC,ep,QS Li (by omega),ea,zV,ag bE,ed,vQp hk Li,qD hi (by omega)];grind) (by omega)
 rw[e0,ag (show(s.pr.length:Int)=(r.2.1.length:Int) by rw[L.pl]),ag (by grind),vRv hk hr h,e2];rfl
theorem vQq (s:qG):ga ((List.range s.B.1.length).map fun j=>(s.B.1.getD j ad).1)=qE (fun j=>(s.B.1.getD j ad).1) s.B.1.length:=QR _ _
theorem yWl {k}(hk:1000≤k){r}(hr:wV r){s}(h:yO r s):LY k r s.st=some true:=by
  have eO:=h.bk.n6;have ht:=h.tk;have RH:=h.tot;have R2:vz k s.B.1 s.B.2.1 s.B.2.2.1 s.B.2.2.2=some true:=by rw[qXi (by omega),FH.2 h.bk]
  obtain ⟨x, h1, h2⟩ := yZ (L := fun n j (x : AC) => Dw k n s.B.1 (s.B.1.length : Int) j r s.st x) (N := s.B.1.length) (fun x => (r, s.st, x)) (fun j x => x = (List.range j).map fun j => (s.B.1.getD j ad).1) (fun n x _=>by
    show Dx k _ s.B.1 (s.B.1.length:Int) (s.B.1.length:Int) r s.st x=_;unfold Dx;simp) (fun n j x hj hx=>by
    refine⟨x++[(s.B.1.getD j ad).1],?_,?_⟩
    · show Dx k (Dw k n) s.B.1 (s.B.1.length:Int) (j:Int) r s.st x=_;unfold Dx;have hl:x.length=j:=by simp_all
      rw[ag (by grind),zV,ag hj,qT (by omega) (by omega),aC,qD hj (by omega)];rfl
    · rw[hx,List.range_succ,List.map_append];rfl) (n:=k) (s:=[]) (by omega) rfl
  have hb:∀i,i<x.length→-9223372036854775808≤x.getD i 0∧x.getD i 0<9223372036854775808:=by
    intro i hi;have hm:x.getD i 0∈x:=jU hi;rw[h2] at hm;obtain⟨j,hj,e⟩:=List.mem_map.1 hm;have:=oM.1 (h.bk.acct j (List.mem_range.1 hj));grind
  have hlen:x.length=s.B.1.length:=by simp_all
  have rf:ga x=s.to:=by rw[h2,vQq];exact h.sum
  have dZ:sY (ga x)=true:=by rw[rf];unfold sY;grind
  have eU:LY k r s.st=(yW k s.t 0 r.2.2.2.1).bind fun x0=>
     bif !x0 then some false
     else(vz k s.B.1 s.B.2.1 s.B.2.2.1 s.B.2.2.2).bind fun x1=>
     bif !x1 then some false
     else bif !(decide ((s.B.1.length:Int)=r.1)) then some false
     else(HE k r s.st).bind fun x2=>
     bif !x2 then some false
     else(HB k s.st).bind fun x3=>
     bif !x3 then some false
     else(Dw k k s.B.1 (s.B.1.length:Int) 0 r s.st []).bind fun z=>
     (BO k z.2.2).bind fun x4=>
     bif !x4.2 then some false
     else bif !(decide (x4.1=z.2.1.2.2.2.2.2.2.2.2.2.1)) then some false
     else(yW k x4.1 0 1152921504606846976).bind fun x5=>
     bif !x5 then some false
     else(w9 k z.1.1 z.1.2.1 z.1.2.2.1 z.1.2.2.2.1 z.1.2.2.2.2 z.2.1.1).bind fun x6=>
     bif gX z.2.1.2.2.2.2.2.2.2.2.2.2 x6 then (bif !z.2.1.2.2.2.2.2.2.2.2.2.2 then some true
      else some (decide ((z.2.1.2.2.2.2.2.2.2.1.length:Int)=0)))
     else some false:=rfl
  have ec:∀b:Bool,gX b b=true:=fun b=>by cases b<;>rfl
  have eo:s.st.2.2.2.2.2.2.2.2.2.2=s.ov:=rfl;have em:s.st.2.2.2.2.2.2.2.1=s.m:=rfl;have et:s.st.2.2.2.2.2.2.2.2.2.1=s.to:=rfl;have e1:s.st.1=s.t:=rfl;have ecl:w9 k r.1 r.2.1 r.2.2.1 r.2.2.2.1 r.2.2.2.2 s.t=some (decide (s.t=r.2.2.2.1)):=rfl;rw[eU,kI,ag (by grind),ag (by grind),R2,ag h.n,vA1 hk hr h,vFa hk h,h1];simp;rw[yM5 (by omega) (by omega) hb,dZ,rf];simp;rw[et,ag (by simp),kI,ag (by grind),ag (by grind)];rw[e1,ecl,eo,em,←h.over];simp only[ak];rw[ec];cases ho:s.ov with
  |false=>rfl
  |true=>rw[h.none ho];rfl
instance xz:DecidableEq zG:=fun a b=>inferInstanceAs (Decidable (a=b))
theorem vEx {k}{a b:List zG}(hk:a.length<k)(hl:a.length<9223372036854775808):HF k a b=some (decide (a=b)):=by
 unfold HF;by_cases hlen:a.length=b.length
 case neg=>
  have e:decide (((a.length:Nat):Int)=((b.length:Nat):Int))=false:=by grind
  have:a≠b:=by grind
  simp_all
 have e:decide (((a.length:Nat):Int)=((b.length:Nat):Int))=true:=by grind
 have := jO (L := fun n i => HG k n a b i) (N := a.length) (fun i => decide (a.getD i pd = b.getD i pd)) (.inl ()) (.inr false) (fun n=>by
  show Dy k _ a b a.length=_;unfold Dy;simp) (fun n i hi=>by
  show Dy k _ a b i=_;unfold Dy;have e7:=eq7 (a.getD i pd) (b.getD i pd);simp only[zV,qD hi hl];simp_all) hk
 rw[this,FK pd hlen];grind
theorem yZj {r s}(hr:wV r)(h:yO r s):LZ 1000 s.st s.st=some true:=by
 have hb:wA s.B.1 s.B.2.1 s.B.2.2.1 s.B.2.2.2:=h.bk;have eO:=h.bk.n6;have kA:=h.bk.n1;have hm:=h.waits.len;have hi:=h.waits.idl;have h3:=hr.n3;have hL:=h.laid 0 (by omega);have e1:FN 1000 s.B.1 s.B.2.1 s.B.2.2.1 s.B.2.2.2 s.B.1 s.B.2.1 s.B.2.2.1 s.B.2.2.2=some true:=by
  rw[vFd (by decide) hb.toSized];simp
 have e2:pR 1000 s.pr s.pr=some true:=by rw[J2 (by rw[hL.pl];omega) (by rw[hL.pl];omega),ag rfl]
 have e3:v9 1000 s.ho s.ho=some true:=by
  have hol:=h.hol;rw [Qc (by omega) (by omega) (fun i hi=>by
   have:=(h.laid i (by omega)).hl;omega),ag rfl]
 have e4:HF 1000 s.m s.m=some true:=by rw[vEx (by omega) (by omega),ag rfl]
 have e5:pR 1000 s.ids s.ids=some true:=by rw[J2 (by omega) (by omega),ag rfl]
 unfold LZ;have f0:s.st.1=s.t:=rfl;have f9:s.st.2.2.2.2.2.2.2.2.2.1=s.to:=rfl;have f10:s.st.2.2.2.2.2.2.2.2.2.2=s.ov:=rfl;have q:gX s.ov s.ov=true:=by cases s.ov<;>rfl
 rw[f0,f9,f10,ag rfl,ag rfl,q];refine(congrArg (fun z=>Option.bind z _) e1).trans ?_;refine(congrArg (fun z=>Option.bind z _) e2).trans ?_;refine(congrArg (fun z=>Option.bind z _) e3).trans ?_;refine(congrArg (fun z=>Option.bind z _) e4).trans ?_;refine(congrArg (fun z=>Option.bind z _) e5).trans ?_;rfl
theorem vRa (k:Nat){h l n:Int}(hh:-4503599627370496≤h∧h≤4503599627370496)(hl:0≤l∧l<4294967296)(hn:-9223372036854775808≤n∧n<9223372036854775808):
  L1 k h l n=some ((h*4294967296+l+n)/4294967296,(h*4294967296+l+n)%4294967296):=by
 unfold L1;rw[yRi n,yP1 n,zN (x:=h+n/4294967296) (by omega) (by omega),zN (x:=l+n%4294967296) (by omega) (by omega),yP1,yRi,zN (by omega) (by omega)]
 congr 2
 ·omega
 ·omega
def Dz (S:Int):Int×Bool:=if S/4294967296< -2147483648∨S/4294967296≥2147483648 then(0,false) else(S,true)
theorem vKx {k:Nat}{l:AC}(hk:l.length<k)(hl:l.length≤1000000)(hr:∀x∈l,-9223372036854775808≤x∧x<9223372036854775808):HH k l=some (Dz (zM (fun x=>x) l)):=by
 obtain ⟨s, h1, h2⟩ := yZ (L := fun c i (s : Int × Int) => HI k c l i s.1 s.2) (N := l.length) (fun s => s) (fun i s => s = (zM (fun x => x) (l.take i) / 4294967296, zM (fun x => x) (l.take i) % 4294967296)) (fun c s hs=>by
   show DA k _ l l.length s.1 s.2=_;unfold DA;simp only [qM, ai (Nat.lt_irrefl _), ay]) (fun c i s hi hs=>by
   refine⟨(zM (fun x=>x) (l.take (i+1))/4294967296,zM (fun x=>x) (l.take (i+1))%4294967296),?_,rfl⟩;show DA k _ l i s.1 s.2=_;have hb:=vx (g:=fun x:Int=>x) (A:=9223372036854775808) (l:=l.take i) fun x hx=>by have:=hr x (List.mem_of_mem_take hx);omega
   have hlen:((l.take i).length:Int)≤1000000:=by rw[List.length_take];omega
   have hb2:((l.take i).length:Int)*9223372036854775808≤1000000*9223372036854775808:=by omega
   have e:zM (fun x=>x) (l.take (i+1))=zM (fun x=>x) (l.take i)+l.getD i 0:=by
    rw[←fZ l i 0 hi,ix];show _+(l.getD i 0+0)=_;omega
   unfold DA;simp only[zV,qD hi (show l.length<9223372036854775808 by omega),qM,aC,ag hi,av];rw[hs];dsimp only;rw[vRa k (by omega) (by omega) (hr _ (jU hi))];rw[e];have e2:zM (fun x=>x) (l.take i)/4294967296*4294967296+zM (fun x=>x) (l.take i)%4294967296=zM (fun x=>x) (l.take i):=by omega
   rw[e2];rfl) (s:=(0,0)) hk rfl
 rw[List.take_of_length_le (Nat.le_refl _)] at h2;unfold HH;rw[h1,h2];simp only[ak];unfold Dz;generalize zM (fun x=>x) l=S;by_cases c1:S/4294967296< -2147483648
 ·rw[ag c1,if_pos (.inl c1)];rfl
 ·rw[ai c1];by_cases c2:S/4294967296≥2147483648
  ·rw[ag c2,if_pos (.inr c2)];rfl
  ·rw[ai c2,if_neg (by omega),yWg,zN (x:=S/4294967296*4294967296) (by omega) (by omega),zN (by omega) (by omega)];simp only[ay]
   congr 2
   omega
def tO (m:List zG)(i:Nat):Bool:=decide (i=0)||vV (m.getD (i-1) pd) (m.getD i pd)
def DB (m:List zG):Bool:=qA (fun i=>decide (eN m (m.getD i pd).1=(i:Int))&&tO m i) m.length 0&&decide ((m.length:Int)≤40)
theorem vFk {m:List zG}(hm:m.length≤900):HJ 1000 m=some (DB m):=by
 have l0 : tP 1000 1000 m 0 = _ := jO (L := fun n i => tP 1000 n m i) (N := m.length) (fun i => decide (eN m (m.getD i pd).1 = (i : Int)) && tO m i) (.inl m) (.inr false) (fun n=>by
  show DC 1000 (tP 1000 n) m (m.length:Int)=_;unfold DC;rw[ai (Int.lt_irrefl _)];rfl) (fun n i hi=>by
  show DC 1000 (tP 1000 n) m (i:Int)=_;unfold DC;have e:m.getD i (0,0,0,0,0,0,0)=m.getD i pd:=rfl;rw[ag (show(i:Int)<m.length by omega),zV,ag hi,aC,e,Gj (by omega) (by omega),qD hi (by omega)];simp only[av,ak];cases decide (eN m (m.getD i pd).1=(i:Int)) with
  |false=>rfl
  |true=>
   simp only[bG,ay,Bool.true_and];cases i with
   |zero=>rfl
   |succ i=>
    have w:zA (((i+1:Nat):Int)-1)=(i:Int):=by rw[zN (by omega) (by omega)];omega
    rw[ag (show((i+1:Nat):Int)>0 by omega),w,zV,ag (show i<m.length by omega),aC];simp only[av];refine(congrArg (fun z=>Option.bind z _) (Ro 1000 (m.getD i pd) (m.getD (i+1) pd))).trans ?_;have ea:tO m (i+1)=vV (m.getD i pd) (m.getD (i+1) pd):=by unfold tO;rw[ai (by omega)];rfl
    rw[ea];cases vV (m.getD i pd) (m.getD (i+1) pd)<;>rfl) (n:=1000) (by omega)
 unfold HJ;rw[l0];unfold DB;cases qA (fun i=>decide (eN m (m.getD i pd).1=(i:Int))&&tO m i) m.length 0<;>rfl
theorem vNh {m:List zG}(h:DB m=true):qI m∧kH m∧m.length≤40:=by
 unfold DB at h;rw[bJ,wI] at h;have h1:∀i,i<m.length→eN m (m.getD i pd).1=(i:Int)∧tO m i=true:=fun i hi=>by
  have:=h.1 i hi;rw[bJ,bO] at this;exact this
 have h2:=PW h.2;refine⟨?_,?_,by omega⟩
 ·unfold qI;rw[List.pairwise_iff_getElem];intro i j hi hj iZ e;have e1:=(h1 i hi).1;have e2:=(h1 j hj).1;rw[j6 (d:=pd) m hi] at e1;rw[j6 (d:=pd) m hj,←e] at e2;omega
 ·unfold kH;rw[List.pairwise_iff_getElem];intro i j hi hj iZ;have key:∀c,i+c+1<m.length→vV (m.getD i pd) (m.getD (i+c+1) pd)=true:=by
   intro c
   induction c with
   |zero=>
    intro hl;have:=(h1 (i+0+1) hl).2;unfold tO at this;rw[ai (by omega)] at this;exact this
   |succ c ih=>
    intro hl;have:=(h1 (i+(c+1)+1) hl).2;unfold tO at this;rw[ai (by omega)] at this;exact qU3 (ih (by omega)) this
  have:=key (j-i-1) (by omega);rw[show i+(j-i-1)+1=j by omega,j6 (d:=pd) m hi,j6 (d:=pd) m hj] at this;exact this
def HK (ids:AC)(i:Nat):Bool:= !decide (ids.getD i 0<1)&&(decide (i=0)|| !decide (ids.getD i 0≤ids.getD (i-1) 0))
def DD (ids:AC):Bool:=qA (HK ids) ids.length 0&&decide ((ids.length:Int)≤200)
theorem vB0 {ids:AC}(hm:ids.length≤900):HL 1000 ids=some (DD ids):=by
 have l0 : xA 1000 1000 ids 0 = _ := jO (L := fun n i => xA 1000 n ids i) (N := ids.length) (HK ids) (.inl ids) (.inr false) (fun n=>by
  show DE 1000 (xA 1000 n) ids (ids.length:Int)=_;unfold DE;rw[ai (Int.lt_irrefl _)];rfl) (fun n i hi=>by
  show DE 1000 (xA 1000 n) ids (i:Int)=_;unfold DE HK;rw[ag (show(i:Int)<ids.length by omega),zV,ag hi,aC,qD hi (by omega)];simp only[av];cases decide (ids.getD i 0<1) with
  |true=>rfl
  |false=>
   simp only[ay,fY,Bool.true_and];cases i with
   |zero=>rfl
   |succ i=>
    have w:zA (((i+1:Nat):Int)-1)=(i:Int):=by rw[zN (by omega) (by omega)];omega
    rw[ag (show((i+1:Nat):Int)>0 by omega),w,zV,ag (show i<ids.length by omega),aC,ai (show¬i+1=0 by omega)];simp only[av,Nat.add_sub_cancel,Bool.false_or];cases decide (ids.getD (i+1) 0≤ids.getD i 0)<;>rfl) (n:=1000) (by omega)
 unfold HL;rw[l0];unfold DD;cases qA (HK ids) ids.length 0<;>rfl
theorem yT3 {ids:AC}(h:DD ids=true):nf ids∧(∀x∈ids,1≤x)∧ids.length≤200:=by
 unfold DD at h;rw[bJ,wI] at h;have h1:∀i,i<ids.length→1≤ids.getD i 0∧(i=0∨ids.getD (i-1) 0<ids.getD i 0):=fun i hi=>by
  have:=h.1 i hi;unfold HK at this;simp only[bJ,Bool.or_eq_true,Bool.not_eq_true',bO,decide_eq_false_iff_not] at this;omega
 have h2:=PW h.2;refine⟨?_,fun x hx=>?_,by omega⟩
 ·unfold nf;rw[List.pairwise_iff_getElem];intro i j hi hj iZ;have key:∀c,i+c+1<ids.length→ids.getD i 0<ids.getD (i+c+1) 0:=by
   intro c
   induction c with
   |zero=>
    intro hl;have:=(h1 (i+0+1) hl).2;rw[show i+0+1-1=i by omega] at this;omega
   |succ c ih=>
    intro hl;have:=(h1 (i+(c+1)+1) hl).2;rw[show i+(c+1)+1-1=i+c+1 by omega] at this;have:=ih (by omega);omega
  have:=key (j-i-1) (by omega);rw[show i+(j-i-1)+1=j by omega,j6 (d:=0) ids hi,j6 (d:=0) ids hj] at this;exact this
 ·obtain⟨i,hi,rfl⟩:=List.mem_iff_getElem.1 hx;have:=(h1 i hi).1;rw[j6 (d:=0) ids hi] at this;exact this
theorem vFo {ids:AC}(hl:ids.length≤900)(id:Int):xg 1000 ids id=some (decide (id∈ids)):=by
 have l0 : oK 1000 1000 ids id 0 = _ := jO (L := fun n i => oK 1000 n ids id i) (N := ids.length) (fun i => !decide (ids.getD i 0 = id)) (.inl ()) (.inr true) (fun n=>by
  show oL 1000 (oK 1000 n) ids id (ids.length:Int)=_;unfold oL;rw[ai (Int.lt_irrefl _)];rfl) (fun n i hi=>by
  show oL 1000 (oK 1000 n) ids id (i:Int)=_;unfold oL;rw[ag (show(i:Int)<ids.length by omega),zV,ag hi,aC,qD hi (by omega)];cases decide (ids.getD i 0=id)<;>rfl) (n:=1000) (by omega)
 unfold xg;rw[l0];by_cases h:id∈ids
 ·obtain⟨i,hi,e⟩:=List.mem_iff_getElem.1 h;have:qA (fun i=> !decide (ids.getD i 0=id)) ids.length 0=false:=by
   cases q:qA (fun i=> !decide (ids.getD i 0=id)) ids.length 0 with
   |false=>rfl
   |true=>
    have:=wI.1 q i hi;rw[j6 (d:=0) ids hi,e] at this;simp at this
  rw[this,ag h];rfl
 ·have:qA (fun i=> !decide (ids.getD i 0=id)) ids.length 0=true:=wI.2 fun i hi=>by
   rw[ai fun e=>h (by rw[←e];exact jU hi)];rfl
  rw[this,ai h];rfl
def DF (s:qG)(p:zG):Bool:=lk s.B.1.length p&&(!decide (p.2.2.2.2.2.1<0)&&(!decide (p.2.2.2.2.2.2<p.2.2.2.2.2.1)&&(!decide (p.2.2.2.2.2.2>1048576)&&decide (p.1∈s.ids))))
def DG (s:qG):Bool:=DB s.m&&(DD s.ids&&qA (fun i=>DF s (s.m.getD i pd)) s.m.length 0)
theorem vM1 {s:qG}(hm:s.m.length≤900)(hi:s.ids.length≤900):HM 1000 s.st=some (DG s):=by
  have em:s.st.2.2.2.2.2.2.2.1=s.m:=rfl;have ei:s.st.2.2.2.2.2.2.2.2.1=s.ids:=rfl;have ea:s.st.2.1=s.B.1:=rfl;have l0 : tQ 1000 1000 0 s.st = _ := jO (L := fun n i => tQ 1000 n i s.st) (N := s.m.length) (fun i => DF s (s.m.getD i pd)) (.inl ()) (.inr false) (fun n=>by
    show DH 1000 (tQ 1000 n) (s.m.length:Int) s.st=_;unfold DH;rw[em,ai (Int.lt_irrefl _)];rfl) (fun n i bE=>by
    show DH 1000 (tQ 1000 n) (i:Int) s.st=_;unfold DH DF;have e:s.m.getD i (0,0,0,0,0,0,0)=s.m.getD i pd:=rfl;rw[em,ei,ea,ag (show(i:Int)<s.m.length by omega),zV,ag bE,aC,e,qZp,vFo hi,qD bE (by omega)];simp only[av,ak];have e':((s.m.getD i pd).1,(s.m.getD i pd).2.1,(s.m.getD i pd).2.2.1,(s.m.getD i pd).2.2.2.1,(s.m.getD i pd).2.2.2.2.1,(s.m.getD i pd).2.2.2.2.2.1,(s.m.getD i pd).2.2.2.2.2.2)=s.m.getD i pd:=rfl;rw[e'];cases lk s.B.1.length (s.m.getD i pd)<;>cases decide ((s.m.getD i pd).2.2.2.2.2.1<0)<;>cases decide ((s.m.getD i pd).2.2.2.2.2.2<(s.m.getD i pd).2.2.2.2.2.1)<;>cases decide ((s.m.getD i pd).2.2.2.2.2.2>1048576)<;>cases decide ((s.m.getD i pd).1∈s.ids)<;>rfl) (n:=1000) (by omega)
  have e0:HM 1000 s.st=(HJ 1000 s.m).bind fun x0=>
     bif !x0 then some false
     else(HL 1000 s.ids).bind fun x1=>
     bif !x1 then some false
     else(tQ 1000 1000 0 s.st).bind fun z=>
     match z with
     |.inl z1=>some true
     |.inr z2=>some z2:=rfl
  rw[e0,vFk hm,vB0 hi,l0];unfold DG;cases DB s.m<;>cases DD s.ids<;>cases qA (fun i=>DF s (s.m.getD i pd)) s.m.length 0<;>rfl
theorem vR0 {s:qG}(h:DG s=true):gO s.B.1.length s.m s.ids:=by
 unfold DG at h;rw[bJ,bJ,wI] at h;obtain⟨h1,h2,h3⟩:=h;obtain⟨a1,a2,a3⟩:=vNh h1;obtain⟨b1,b2,b3⟩:=yT3 h2;have h4:∀p∈s.m,DF s p=true:=fun p hp=>by
  obtain⟨i,hi,rfl⟩:=List.mem_iff_getElem.1 hp;have:=h3 i hi;rw[j6 (d:=pd) s.m hi] at this;exact this
 have h5:∀p∈s.m,qY s.B.1.length p∧(0≤p.2.2.2.2.2.1∧p.2.2.2.2.2.1≤p.2.2.2.2.2.2∧p.2.2.2.2.2.2≤1048576)∧p.1∈s.ids:=fun p hp=>by
  have:=h4 p hp;unfold DF at this;simp only[bJ,Bool.not_eq_true',bO,decide_eq_false_iff_not] at this;obtain⟨c1,c2,c3,c4,c5⟩:=this;exact⟨J3.1 c1,by omega,c5⟩
 exact⟨a1,a3,a2,fun p hp=>(h5 p hp).1,fun p hp=>(h5 p hp).2.1,fun p hp=>(h5 p hp).2.2,b1,b2,b3⟩
def DI (s:qG)(i:Nat):Bool:= !decide (s.pr.getD i 0<0)&& !decide (s.pr.getD i 0>1048576)
def xB (h:AC)(j:Nat):Bool:= !decide (h.getD j 0<0)&& !decide (h.getD j 0>1099511627776)
def HN (r:qS)(s:qG)(i:Nat):Bool:=decide (((s.ho.getD i []).length:Int)=(r.2.1.length:Int))&&(qA (xB (s.ho.getD i [])) (s.ho.getD i []).length 0&&(!decide (gL r.2.1 s.pr (s.ho.getD i [])>1152921504606846976)&&decide ((s.B.1.getD i ad).2.1=gL r.2.1 s.pr (s.ho.getD i []))))
def HO (r:qS)(s:qG):Bool:=decide ((s.pr.length:Int)=(r.2.1.length:Int))&&(decide ((s.ho.length:Int)=r.1)&&(qA (DI s) s.pr.length 0&&qA (HN r s) s.B.1.length 0))
theorem yEi {r:qS}(hr:wV r){s:qG}(hp:(s.pr.length:Int)=(r.2.1.length:Int))(h1:qA (DI s) s.pr.length 0=true){h:AC}(hl:(h.length:Int)=(r.2.1.length:Int))(h2:qA (xB h) h.length 0=true):gM r.2.1 s.pr h:=by
 rw[wI] at h1 h2;refine⟨hr.n3,by omega,by omega,hr.cut,fun i hi=>?_,fun i hi=>?_⟩
 ·have:=h1 i (by omega);unfold DI at this;simp only[bJ,Bool.not_eq_true',decide_eq_false_iff_not] at this;omega
 ·have:=h2 i (by omega);unfold xB at this;simp only[bJ,Bool.not_eq_true',decide_eq_false_iff_not] at this;omega
theorem yV0 {r:qS}(hr:wV r){s:qG}(hn:(s.B.1.length:Int)=r.1):HP 1000 r s.st=some (HO r s):=by
  have ep:s.st.2.2.2.2.2.1=s.pr:=rfl;have eh:s.st.2.2.2.2.2.2.1=s.ho:=rfl;have ea:s.st.2.1=s.B.1:=rfl;have h3:=hr.n3;have hpa:=hr.pa;have e0:HP 1000 r s.st=bif !(decide ((s.pr.length:Int)=(r.2.1.length:Int))) then some false
    else bif !(decide ((s.ho.length:Int)=r.1)) then some false
    else(tR 1000 1000 0 r s.st).bind fun z=>
    match z with
    |.inl z1=>(tS 1000 1000 0 z1.1 z1.2).bind fun z5=>
     match z5 with
     |.inl z6=>some true
     |.inr z7=>some z7
    |.inr z8=>some z8:=rfl
  rw[e0];unfold HO;by_cases hp:(s.pr.length:Int)=(r.2.1.length:Int)
  case neg=>rw[ai hp];rfl
  by_cases ho:(s.ho.length:Int)=r.1
  case neg=>rw[ag hp,ai ho];rfl
  rw[ag hp,ag ho];simp only[bG,ay,Bool.true_and];have l0 : tR 1000 1000 0 r s.st = _ := jO (L := fun n i => tR 1000 n i r s.st) (N := s.pr.length) (DI s) (.inl (r, s.st)) (.inr false) (fun n=>by
    show DJ 1000 (tR 1000 n) (s.pr.length:Int) r s.st=_;unfold DJ;rw[ep,ai (Int.lt_irrefl _)];rfl) (fun n i hi=>by
    show DJ 1000 (tR 1000 n) (i:Int) r s.st=_;unfold DJ DI;rw[ep,ag (show(i:Int)<s.pr.length by omega),zV,ag hi,aC,qD hi (by omega)];cases decide (s.pr.getD i 0<0)<;>cases decide (s.pr.getD i 0>1048576)<;>rfl) (n:=1000) (by omega)
  rw[l0];cases hpb:qA (DI s) s.pr.length 0 with
  |false=>rfl
  |true=>
  simp only[av,ak,Bool.true_and];have l2:∀i,i<s.ho.length→(s.ho.getD i []).length=r.2.1.length→xC 1000 1000 (i:Int) 0 r s.st=some (bif qA (xB (s.ho.getD i [])) (s.ho.getD i []).length 0 then .inl ((i:Int),r,s.st) else .inr false):=fun i jm hl=>
    jO (L := fun n j => xC 1000 n (i : Int) j r s.st) (N := (s.ho.getD i []).length) (xB (s.ho.getD i [])) (.inl ((i : Int), r, s.st)) (.inr false) (fun n=>by
      show DK 1000 (xC 1000 n) (i:Int) ((s.ho.getD i []).length:Int) r s.st=_;unfold DK;rw[eh,zV,ag jm,aC,ai (Int.lt_irrefl _)];rfl) (fun n j hj=>by
      show DK 1000 (xC 1000 n) (i:Int) (j:Int) r s.st=_;unfold DK xB;rw[eh,zV,ag jm,aC,aC,ag (show(j:Int)<(s.ho.getD i []).length by omega),zV,ag hj,qD hj (by omega)];cases decide ((s.ho.getD i []).getD j 0<0)<;>cases decide ((s.ho.getD i []).getD j 0>1099511627776)<;>rfl) (n:=1000) (by omega)
  have l1 : tS 1000 1000 0 r s.st = _ := jO (L := fun n i => tS 1000 n i r s.st) (N := s.B.1.length) (HN r s) (.inl ()) (.inr false) (fun n=>by
    show DL 1000 (tS 1000 n) (s.B.1.length:Int) r s.st=_;unfold DL;rw[ai (show¬(s.B.1.length:Int)<r.1 by omega)];rfl) (fun n i hi=>by
    show DL 1000 (tS 1000 n) (i:Int) r s.st=_;unfold DL HN;have jm:i<s.ho.length:=by omega
    have ed:s.B.1.getD i (0,0,0)=s.B.1.getD i ad:=rfl;rw[eh,ag (show(i:Int)<r.1 by omega),zV,ag jm,aC];by_cases hl:((s.ho.getD i []).length:Int)=(r.2.1.length:Int)
    case neg=>rw[ai hl];rfl
    rw[ag hl,l2 i jm (by omega)];simp only[av,ak,bG,ay,Bool.true_and];cases hh:qA (xB (s.ho.getD i [])) (s.ho.getD i []).length 0 with
    |false=>rfl
    |true=>
      have L:=yEi hr hp hpb hl hh;simp only[av,Bool.true_and];rw[eh,ep,ea,zV,ag jm,aC,Rp L,zV,ag hi,ed,qD hi (by omega)];simp only[av,ak,bG,ay];cases decide (gL r.2.1 s.pr (s.ho.getD i [])>1152921504606846976)<;>cases decide ((s.B.1.getD i ad).2.1=gL r.2.1 s.pr (s.ho.getD i []))<;>rfl) (n:=1000) (by omega)
  rw[l1];cases qA (HN r s) s.B.1.length 0<;>rfl
def gQ (s:qG):Int:=qE (fun i=>(s.B.1.getD i ad).1) s.B.1.length
def R3 (r:qS)(s:qG):Bool:=decide (gQ s=s.to)&&(decide (gQ s≥0)&&(decide (gQ s≤1152921504606846976)&&(gX s.ov (decide (s.t=r.2.2.2.1))&&(!s.ov||decide ((s.m.length:Int)=0)))))
def HQ (r:qS)(s:qG):Bool:= !decide (s.t<0)&&(!decide (s.t>r.2.2.2.1)&&(jz s.B.1 s.B.2.1 s.B.2.2.1 s.B.2.2.2&&(decide ((s.B.1.length:Int)=r.1)&&(HO r s&&(DG s&&R3 r s)))))
theorem yWb {r:qS}(hr:wV r){s:qG}(hm:s.m.length≤900)(hi:s.ids.length≤900):L3 1000 r s.st=some (HQ r s):=by
  have ea:s.st.2.1=s.B.1:=rfl;have eU:L3 1000 r s.st=bif decide (s.t<0) then some false
     else bif decide (s.t>r.2.2.2.1) then some false
     else(AA 1000 s.B.1 s.B.2.1 s.B.2.2.1 s.B.2.2.2).bind fun x0=>
     bif !x0 then some false
     else bif !(decide ((s.B.1.length:Int)=r.1)) then some false
     else(HP 1000 r s.st).bind fun x1=>
     bif !x1 then some false
     else(HM 1000 s.st).bind fun x2=>
     bif !x2 then some false
     else(xD 1000 1000 0 r s.st []).bind fun z=>
     (HH 1000 z.2.2).bind fun x3=>
     bif x3.2 then (bif decide (x3.1 = z.2.1.2.2.2.2.2.2.2.2.2.1) then (bif decide (x3.1 ≥ 0) then (bif decide (x3.1 ≤ 1152921504606846976) then (bif gX z.2.1.2.2.2.2.2.2.2.2.2.2 (decide (z.2.1.1 = z.1.2.2.2.1)) then (bif !z.2.1.2.2.2.2.2.2.2.2.2.2 then some true
          else some (decide ((z.2.1.2.2.2.2.2.2.2.1.length:Int)=0)))
         else some false)
        else some false)
       else some false)
      else some false)
     else some false:=rfl
  rw[eU,yG2 (by decide)];unfold HQ;cases decide (s.t<0) with
  |true=>rfl
  |false=>
  cases decide (s.t>r.2.2.2.1) with
  |true=>rfl
  |false=>
  simp only[ay,fY,Bool.true_and,ak];cases hb:jz s.B.1 s.B.2.1 s.B.2.2.1 s.B.2.2.2 with
  |false=>rfl
  |true=>
  have Dh:=FH.1 hb;have eO:=Dh.n6;by_cases hn:(s.B.1.length:Int)=r.1
  case neg=>rw[ai hn];rfl
  rw[ag hn,yV0 hr hn];simp only[bG,ay,ak,Bool.true_and];cases HO r s with
  |false=>rfl
  |true=>
  rw[vM1 hm hi];simp only[bG,ay,ak,Bool.true_and];cases DG s with
  |false=>rfl
  |true=>
  obtain ⟨x, h1, h2⟩ := yZ (L := fun n j (x : AC) => xD 1000 n j r s.st x) (N := s.B.1.length) (fun x => (r, s.st, x)) (fun j x => x = (List.range j).map fun j => (s.B.1.getD j ad).1) (fun n x _=>by
    show DM 1000 (xD 1000 n) (s.B.1.length:Int) r s.st x=_;unfold DM;rw[ai (show¬(s.B.1.length:Int)<r.1 by omega)];rfl) (fun n j x hj hx=>by
    refine⟨x++[(s.B.1.getD j ad).1],?_,?_⟩
    · show DM 1000 (xD 1000 n) (j:Int) r s.st x=_;unfold DM;have hl:x.length=j:=by rw[hx];simp
      rw[ea,ag (show(j:Int)<r.1 by omega),zV,ag hj,qT (by omega) (by omega),aC,qD hj (by omega)];rfl
    · rw[hx,List.range_succ,List.map_append];rfl) (n:=1000) (s:=[]) (by omega) rfl
  have mZ:∀j,j<s.B.1.length→-4611686018427387904<(s.B.1.getD j ad).1∧(s.B.1.getD j ad).1<4611686018427387904:=fun j hj=>(oM.1 (Dh.acct j hj)).1
  have hbx:∀y∈x,-9223372036854775808≤y∧y<9223372036854775808:=by
    intro y hm;rw[h2] at hm;obtain⟨j,hj,e⟩:=List.mem_map.1 hm;have:=mZ j (List.mem_range.1 hj);rw[←e];omega
  have hlen:x.length=s.B.1.length:=by rw[h2];simp
  have dP:∀(g:Nat→Int) (n:Nat),zM (fun x=>x) ((List.range n).map g)=qE g n:=fun g n=>by
    induction n with
    |zero=>rfl
    |succ n ih=>
      rw[List.range_succ,List.map_append,ix,ih];show qE g n+(g n+0)=qE g n+g n;omega
  have rf:zM (fun x=>x) x=gQ s:=by rw[h2,dP];rfl
  rw[h1];simp only[bG,ay,ak,Bool.true_and];rw[vKx (by omega) (by omega) hbx,rf];have eo:s.st.2.2.2.2.2.2.2.2.2.2=s.ov:=rfl;have em:s.st.2.2.2.2.2.2.2.1=s.m:=rfl;have et:s.st.2.2.2.2.2.2.2.2.2.1=s.to:=rfl;have e1:s.st.1=s.t:=rfl;have hsw:(Dz (gQ s)).2=true∧(Dz (gQ s)).1=gQ s∨(Dz (gQ s)).2=false∧(gQ s<0∨gQ s>1152921504606846976):=by
    unfold Dz;split
    · exact .inr ⟨rfl,by omega⟩
    · exact .inl ⟨rfl,rfl⟩
  simp only[ak];rw[et,e1,eo,em];unfold R3;rcases hsw with⟨q1,q2⟩|⟨q1,q2⟩
  · rw[q1,q2];cases decide (gQ s=s.to)<;>cases decide (gQ s≥0)<;>cases decide (gQ s≤1152921504606846976)<;>cases gX s.ov (decide (s.t=r.2.2.2.1))<;>cases s.ov<;>rfl
  · rw[q1];have:decide (gQ s≥0)=false∨decide (gQ s≤1152921504606846976)=false:=by
      rcases q2 with q|q
      · exact .inl (ai (by omega))
      · exact .inr (ai (by omega))
    rcases this with q|q
    · rw[q];cases decide (gQ s=s.to)<;>rfl
    · rw[q];cases decide (gQ s=s.to)<;>cases decide (gQ s≥0)<;>rfl
theorem vEy {r:qS}(hr:wV r){s:qG}(h:HQ r s=true):yO r s:=by
 unfold HQ at h;simp only[bJ,Bool.not_eq_true',bO,decide_eq_false_iff_not] at h;obtain⟨h1,h2,h3,h4,h5,h6,h7⟩:=h;have Dh:=FH.1 h3;unfold HO at h5;simp only[bJ,bO] at h5;obtain⟨a1,a2,a3,a4⟩:=h5;have row:∀i,i<s.B.1.length→gM r.2.1 s.pr (s.ho.getD i [])∧gL r.2.1 s.pr (s.ho.getD i [])≤1152921504606846976∧(s.B.1.getD i ad).2.1=gL r.2.1 s.pr (s.ho.getD i []):=fun i hi=>by
  have:=wI.1 a4 i hi;unfold HN at this;simp only[bJ,Bool.not_eq_true',bO,decide_eq_false_iff_not] at this;obtain⟨b1,b2,b3,b4⟩:=this;exact⟨yEi hr a1 a3 b1 b2,by omega,b4⟩
 unfold R3 at h7;simp only[bJ,bO] at h7;obtain⟨c1,c2,c3,c4,c5⟩:=h7;have qz:s.ov=decide (s.t=r.2.2.2.1):=by
  cases hx:s.ov<;>cases hy:decide (s.t=r.2.2.2.1)<;>rw[hx,hy] at c4<;>first|rfl|cases c4
 refine⟨by omega,Dh,h4,by omega,fun i hi=>(row i hi).1,fun i hi=>(row i hi).2.2,fun i hi=>by rw[(row i hi).2.2];exact(row i hi).2.1,vR0 h6,c1,by rw[←c1];omega,qz,fun e=>?_⟩;rw[e] at c5;have:((s.m.length:Int)=0):=by simpa using c5
 exact List.eq_nil_of_length_eq_zero (by omega)
end Go.Ab.Gi
