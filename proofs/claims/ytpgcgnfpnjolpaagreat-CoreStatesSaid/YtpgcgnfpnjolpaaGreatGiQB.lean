/- Plain proofs, part 1. -/
import Derived.Test.YtpgcgnfpnjolpaaGreatGiQA
import Derived.Test.YtpgcgnfpnjolpaaGreatGiXS
set_option linter.unusedVariables false
set_option linter.unusedSimpArgs false
set_option maxRecDepth 100000
namespace Go.Ab.Gi
open Go.Ab
abbrev wH:=EQ
abbrev qS:=Int×List mh×Int×Int×Int
abbrev jG:=Int×Int×Int×Int×Int×Int×Int
abbrev yU4:=Int×List mh×Int×Int×Int×Int×List qQ×wH×AC×wH×AC×wH×List zG×AC×Int×Bool×Int×List yB
structure qG where
 t:Int
 B:BT
 pr:AC
 ho:wH
 m:List zG
 ids:AC
 to:Int
 ov:Bool
abbrev ql:=Int×List qQ×wH×AC×wH×AC×wH×List zG×AC×Int×Bool
def qG.st (s:qG):ql:=(s.t,s.B.1,s.B.2.1,s.B.2.2.1,s.B.2.2.2,s.pr,s.ho,s.m,s.ids,s.to,s.ov)
def dk (r:qS)(s:qG)(who:Int)(l:List yB):yU4:=(r.1,r.2.1,r.2.2.1,r.2.2.2.1,r.2.2.2.2,s.t,s.B.1,s.B.2.1,s.B.2.2.1,s.B.2.2.2,s.pr,s.ho,s.m,s.ids,s.to,s.ov,who,l)
structure wT (r:qS):Prop where
 pa:1≤r.1∧r.1≤6
 n3:r.2.1.length≤3
 price:∀i,i<r.2.1.length→0≤(r.2.1.getD i fK).1∧(r.2.1.getD i fK).1≤1048576
 cut:∀i,i<r.2.1.length→0≤(r.2.1.getD i fK).2∧(r.2.1.getD i fK).2≤10000
 cu:0≤r.2.2.1∧r.2.2.1≤r.2.2.2.1
 cl:1≤r.2.2.2.1∧r.2.2.2.1≤1048576
 pe:1≤r.2.2.2.2∧r.2.2.2.2≤1048576
def kJ (m:List zG):Prop:=List.Pairwise (fun p q=>vV p q=true) m
structure gP (n:Nat) (m:List zG) (ids:AC):Prop where
 dist:qI m
 len:m.length≤40
 sort:kJ m
 may:∀p∈m,qY n p
 time:∀p∈m,0≤p.2.2.2.2.2.1∧p.2.2.2.2.2.1≤p.2.2.2.2.2.2∧p.2.2.2.2.2.2≤1048576
 were:∀p∈m,p.1∈ids
 asc:ng ids
 pos:∀x∈ids,1≤x
 idl:ids.length≤200
structure yO (r:qS) (s:qG):Prop where
 tk:0≤s.t∧s.t≤r.2.2.2.1
 bk:qL s.B
 n:(s.B.1.length:Int)=r.1
 hol:s.ho.length=s.B.1.length
 laid:∀i,i<s.B.1.length→gO r.2.1 s.pr (s.ho.getD i [])
 cred:∀i,i<s.B.1.length→(s.B.1.getD i ad).2.1=gM r.2.1 s.pr (s.ho.getD i [])
 most:∀i,i<s.B.1.length→(s.B.1.getD i ad).2.1≤1152921504606846976
 waits:gP s.B.1.length s.m s.ids
 sum:qE (fun i=>(s.B.1.getD i ad).1) s.B.1.length=s.to
 tot:0≤s.to∧s.to≤1152921504606846976
 over:s.ov=decide (s.t=r.2.2.2.1)
 none:s.ov=true→s.m=[]
theorem kK k a b c:yW k a b c=some (decide (a≥b)&&decide (a≤c)):=by
 unfold yW;grind
theorem lf {α:Type} c (a b:α):(bif c then some a else some b)=some (bif c then a else b):=by grind
def iC (pa t:Int)(p:zG):Bool:=
 decide (p.2.1≥0)&&decide (p.2.1<pa)&&(decide (p.2.2.1≥0)&&decide (p.2.2.1<pa)&&(decide (p.1≥1)&&(decide (p.2.2.2.1≥1)&&(decide (p.2.2.2.1≤1099511627776)&&(decide (p.2.2.2.2.1≥1)&&(!decide (p.2.1=p.2.2.1)&&(decide (p.2.2.2.2.1≤3)&&(decide (p.2.2.2.2.2.1≥0)&&(decide (p.2.2.2.2.2.1≤p.2.2.2.2.2.2)&&(decide (p.2.2.2.2.2.2≥t)&&decide (p.2.2.2.2.2.2≤1048576)))))))))))
theorem vAi k (r:qS) w:GW k r w=some (decide (w≥0)&&decide (w<r.1)):=by
 unfold GW;grind
theorem yS9 k (r:qS) t (p:zG):La k r t p=some (iC r.1 t p):=by
 unfold La iC;simp[vAi,lf]
def np (cu cl t c:Int):Int:=bif decide (t≥cl) then 7 else bif decide (c=3)&&decide (t≥cu) then 7 else 0
theorem yI5 k (r:qS) t c:xc k r t c=some (np r.2.2.1 r.2.2.2.1 t c):=by
 unfold xc np;grind
def kL (r:qS)(t:Int)(p:zG):Int:=bif !iC r.1 t p then 1 else np r.2.2.1 r.2.2.2.1 t p.2.2.2.2.1
theorem vC8 k (r:qS) t (p:zG):Cx k r t p=some (kL r t p):=by
 unfold Cx kL;rw[yS9];simp[yI5];grind
def jQ (who:Int)(f:jG):zG:=(f.2.1,who,f.2.2)
def gf (r:qS)(s:qG)(who:Int)(f:jG):Int×List zG×AC:=
 bif !(decide (f.2.2.1≥0)&&decide (f.2.2.1≤r.1-1)) then(1,s.m,s.ids)
 else bif !(decide (f.2.2.2.2.1≥1)&&decide (f.2.2.2.2.1≤3)) then(1,s.m,s.ids)
 else bif !decide (kL r s.t (jQ who f)=0) then(kL r s.t (jQ who f),s.m,s.ids)
 else bif decide (f.2.1∈s.ids) then(6,s.m,s.ids)
 else bif decide (200≤s.ids.length) then(3,s.m,s.ids)
 else bif (vE s.m f.2.1).isSome then(6,s.m,s.ids)
 else bif decide (40≤s.m.length) then(3,s.m,s.ids)
 else(0,mf s.m (jQ who f),nh s.ids f.2.1)
theorem vO8 {k}(hk:1000≤k){r}(hr:wT r){s}(h:gP s.B.1.length s.m s.ids) who l f:
  ∃d,Lb k (dk r s who l) f.2=some ((gf r s who f).1,d)∧((gf r s who f).1=0→d=dk r {s with m:=(gf r s who f).2.1,ids:=(gf r s who f).2.2} who l):=by
 have hp:=hr.pa;have hi:=h.idl;have hm:=h.len;have w1:zA (r.1-1)=r.1-1:=zN (by omega) (by omega);have eD:Lb k (dk r s who l) f.2=(yW k f.2.2.1 0 (zA (r.1-1))).bind fun x0=>
  bif !x0 then some (1,dk r s who l)
  else(yW k f.2.2.2.2.1 1 3).bind fun x1=>
  bif !x1 then some (1,dk r s who l)
  else(Cx k r s.t (jQ who f)).bind fun x2=>
  bif !(decide (x2=0)) then some (x2,dk r s who l)
  else(BO k s.ids f.2.1).bind fun x3=>
  bif !(decide (x3.2=0)) then some (x3.2,dk r s who l)
  else(sY k s.m (jQ who f)).bind fun x4=>
  bif !(decide (x4.2=0)) then some (x4.2,dk r s who l)
  else some (0,dk r {s with m:=x4.1,ids:=x3.1} who l):=rfl
 rw[eD,kK,kK,vC8,w1,vIb (by omega) (by omega) h.asc,QN (by omega) (by omega) (by unfold qN;omega)];simp only[ak];unfold gf;cases decide (f.2.2.1≥0)&&decide (f.2.2.1≤r.1-1) with
 |false=>exact by simp
 |true=>
 cases decide (f.2.2.2.2.1≥1)&&decide (f.2.2.2.2.1≤3) with
 |false=>exact by simp
 |true=>
 by_cases hc:kL r s.t (jQ who f)=0
 ·rw[ag hc];by_cases h1:f.2.1∈s.ids
  ·rw[ag h1];exact by simp
  ·rw[ai h1];by_cases h2:200≤s.ids.length
   ·rw[ag h2];exact by simp
   ·rw[ai h2];have e1:(jQ who f).1=f.2.1:=rfl;rw[e1];cases(vE s.m f.2.1).isSome with
    |true=>exact by simp
    |false=>
     by_cases h3:40≤s.m.length
     ·rw[ag h3];exact by simp
     ·rw[ai h3];exact by simp
 ·rw[ai hc];exact by simp
def kM (who kd a:Int):yB:=(who,kd,a,0,0,0,0,0)
theorem yQo {k l}(hl:l.length≤1000) r s who kd a:tu k (dk r s who l) kd [a]=some (dk r s who (l++[kM who kd a])):=by
 have e:tu k (dk r s who l) kd [a]=bif zR (l.length+1) 64 then some (dk r s who (l++[kM who kd a])) else none:=rfl
 rw[e,qT (by omega) (by omega)];rfl
def iD (r:qS)(s:qG)(who:Int)(f:jG):Int×List zG×List yB:=match vE s.m f.2.1 with
 |none=>(4,s.m,[])
 |some x=>
  bif !decide ((s.m.getD x pd).2.1=who) then(4,s.m,[])
  else bif decide (f.1=2) then(0,qU s.m x,[kM who 20 f.2.1])
  else bif decide (f.1 = 4) then (bif !(decide (f.2.2.1≥1)&&decide (f.2.2.1≤3)) then(1,s.m,[])
   else bif !decide (np r.2.2.1 r.2.2.2.1 s.t f.2.2.1=0) then(np r.2.2.1 r.2.2.2.1 s.t f.2.2.1,s.m,[])
   else(0,mf (qU s.m x) ((s.m.getD x pd).1,(s.m.getD x pd).2.1,(s.m.getD x pd).2.2.1,(s.m.getD x pd).2.2.2.1,f.2.2.1,(s.m.getD x pd).2.2.2.2.2.1,(s.m.getD x pd).2.2.2.2.2.2),[]))
  else bif decide (f.2.2.1=0) then(0,Gr (qU s.m x) (s.m.getD x pd),[])
  else bif decide (f.2.2.1=1) then(0,mf (qU s.m x) (s.m.getD x pd),[])
  else(1,s.m,[])
theorem vH6 {k}(hk:1000≤k){r s}(h:gP s.B.1.length s.m s.ids) who {l}(hl:l.length≤1000)(f:jG):
  ∃d,xd k (dk r s who l) f=some ((iD r s who f).1,d)∧((iD r s who f).1=0→d=dk r {s with m:=(iD r s who f).2.1} who (l++(iD r s who f).2.2)):=by
 have hm:=h.len;have lU:qN s.m:=by unfold qN;omega
 have eD : xd k (dk r s who l) f = ((me k s.m f.2.1).bind fun x0=>
   bif decide (x0<0) then some (((0,0,0,0,0,0,0):zG),(4:Int))
   else bif zC x0 s.m.length then (bif !(decide ((s.m.getD x0.toNat (0,0,0,0,0,0,0)).2.1=who)) then some ((0,0,0,0,0,0,0),4)
    else bif zC x0 s.m.length then some ((s.m.getD x0.toNat (0,0,0,0,0,0,0)),0)
    else none)
   else none).bind fun x0=>
  bif !(decide (x0.2=0)) then some (x0.2,dk r s who l)
  else bif decide (f.1 = 2) then ((nf k s.m f.2.1).bind fun x1=>
   (tu k (dk r {s with m:=x1.1} who l) 20 [f.2.1]).bind fun x2=>
   some (x1.2.2.2.2.2.2.2.2,x2))
  else bif decide (f.1 = 4) then ((yW k f.2.2.1 1 3).bind fun x3=>
   bif !x3 then some (1,dk r s who l)
   else(xc k r s.t f.2.2.1).bind fun x4=>
   bif !(decide (x4=0)) then some (x4,dk r s who l)
   else(BJ k s.m f.2.1 f.2.2.1).bind fun x5=>
   some (x5.2,dk r {s with m:=x5.1} who l))
  else bif decide (f.2.2.1 = 0) then ((BM k s.m f.2.1).bind fun x6=>
   some (x6.2,dk r {s with m:=x6.1} who l))
  else bif decide (f.2.2.1 = 1) then ((BK k s.m f.2.1).bind fun x7=>
   some (x7.2,dk r {s with m:=x7.1} who l))
  else some (1,dk r s who l):=rfl
 rw[eD,BC (by omega) (by omega)];unfold iD jU;cases hx:vE s.m f.2.1 with
 |none=>exact by simp
 |some x=>
  have cS:=iz hx;have e1:decide ((x:Int)<0)=false:=by simp
  simp only[ak,e1,ay,zW,ag cS.1,av,aC];by_cases hw:(s.m.getD x (0,0,0,0,0,0,0)).2.1=who
  ·have sw:(s.m.getD x pd).2.1=who:=hw;rw[ag hw];by_cases h2:f.1=2
   ·rw[ag h2];simp only[av,wu (show s.m.length<k by omega) lU,ak,yQo hl];unfold fJ;rw[hx];exact by simp
   ·rw[ai h2];simp only[ay];by_cases h4:f.1=4
    ·rw[ag h4];simp only[av,kK,ak,yI5,vIl (show 3≤k by omega) (by grind) lU h.dist hm hx];cases decide (f.2.2.1≥1)&&decide (f.2.2.1≤3) with
     |false=>exact by simp
     |true=>
      simp only[bG,ay];by_cases hc:np r.2.2.1 r.2.2.2.1 s.t f.2.2.1=0
      all_goals simp_all
    ·rw[ai h4];simp only[ay];by_cases h0:f.2.2.1=0
     ·rw[ag h0];simp only[av,yZ4 (show 3≤k by omega) (by grind) lU hx,ak];exact by simp
     ·rw[ai h0];simp only[ay];by_cases h1:f.2.2.1=1
      ·rw[ag h1];simp only[av,yUj (show 3≤k by omega) (by grind) lU h.dist hm hx,ak];exact by simp
      ·rw[ai h1];exact by simp
  ·have sw:¬(s.m.getD x pd).2.1=who:=hw;rw[ai hw];exact by simp
def Re (s:qG)(a:List qQ)(b:wH)(m:AC):qG:={s with B:=(a,b,m,s.B.2.2.2)}
def iE (r:qS)(s:qG)(who:Int)(f:jG):Int×qG:=
 bif decide (f.1 = 5) then (bif !((decide (f.2.1≥0)&&decide (f.2.1≤r.1-1))&& !decide (f.2.1=who)) then(1,s)
  else bif !(decide (f.2.2.1≥-1)&&decide (f.2.2.1≤1152921504606846976)) then(1,s)
  else(0,Re s s.B.1 (s.B.2.1.set who.toNat ((s.B.2.1.getD who.toNat []).set f.2.1.toNat f.2.2.1)) s.B.2.2.1))
 else bif decide (f.1 = 6) then (bif !(decide (f.2.1≥-1)&&decide (f.2.1≤1152921504606846976)) then(1,s)
  else(0,Re s s.B.1 s.B.2.1 (s.B.2.2.1.set who.toNat f.2.1)))
 else bif !(decide (f.2.1≥0)&&decide (f.2.1≤1152921504606846976)) then(1,s)
 else(0,Re s (s.B.1.set who.toNat ((s.B.1.getD who.toNat ad).1,(s.B.1.getD who.toNat ad).2.1,f.2.1)) s.B.2.1 s.B.2.2.1)
theorem vGj {k}(hk:1000≤k){r}(hr:wT r){s}(hb:qL s.B)(hn:(s.B.1.length:Int)=r.1){who}(hw:0≤who∧who<r.1) l (f:jG):
    ∃d,xe k (dk r s who l) f=some ((iE r s who f).1,d)∧((iE r s who f).1=0→d=dk r (iE r s who f).2 who l):=by
  have hp:=hr.pa;have w1:zA (r.1-1)=r.1-1:=zN (by omega) (by omega);obtain⟨w,rfl⟩:=Int.eq_ofNat_of_zero_le hw.1;have eS:w<s.B.1.length:=by omega
  have eD:xe k (dk r s w l) f=(eP k s.B.1 s.B.2.1 s.B.2.2.1 s.B.2.2.2).bind fun x0=>
    bif decide (f.1 = 5) then (((yW k f.2.1 0 (zA (r.1-1))).bind fun x0=>bif x0 then some (!(decide (f.2.1=(w:Int)))) else some false).bind fun x1=>
      bif !x1 then some (1,dk r s w l)
      else(yW k f.2.2.1 (-1) 1152921504606846976).bind fun x2=>
      bif !x2 then some (1,dk r s w l)
      else bif zC (w : Int) x0.2.1.length then (bif zC f.2.1 (x0.2.1.getD (w:Int).toNat []).length then
        some (0,dk r {s with B:=(x0.1,(x0.2.1.set (w:Int).toNat ((x0.2.1.getD (w:Int).toNat []).set f.2.1.toNat f.2.2.1)),x0.2.2.1,x0.2.2.2)} w l)
       else none)
      else none)
    else bif decide (f.1 = 6) then ((yW k f.2.1 (-1) 1152921504606846976).bind fun x3=>
      bif !x3 then some (1,dk r s w l)
      else bif zC (w:Int) x0.2.2.1.length then some (0,dk r {s with B:=(x0.1,x0.2.1,(x0.2.2.1.set (w:Int).toNat f.2.1),x0.2.2.2)} w l)
      else none)
    else(yW k f.2.1 0 1152921504606846976).bind fun x4=>
    bif !x4 then some (1,dk r s w l)
    else bif zC (w:Int) x0.1.length then some (0,dk r {s with B:=((x0.1.set (w:Int).toNat ((x0.1.getD (w:Int).toNat (0,0,0)).1,(x0.1.getD (w:Int).toNat (0,0,0)).2.1,f.2.1)),x0.2.1,x0.2.2.1,x0.2.2.2)} w l)
    else none:=rfl
  rw[eD,FL (by omega) hb.toSized,w1];simp only[ak,kK,zW,aC];unfold iE;rw[aC];by_cases h5:f.1=5
  · rw[ag h5];simp only[av];cases hc:decide (f.2.1≥0)&&decide (f.2.1≤r.1-1) with
    |false=>exact by simp
    |true=>
      simp  at hc;cases decide (f.2.1=(w:Int)) with
      |true=>exact by simp
      |false=>
        cases decide (f.2.2.1≥-1)&&decide (f.2.2.1≤1152921504606846976) with
        |false=>exact by simp
        |true=>
          have b1:decide (w<s.B.2.1.length)=true:=ag (by rw[hb.bl];exact eS);have b2:zC f.2.1 (s.B.2.1.getD w []).length=true:=vx hc.1 (by rw[hb.br w eS];omega);simp only[av,ak,fZ,bG,ay,b1,b2,Bool.and_self];exact⟨_,rfl,fun _=>rfl⟩
  · rw[ai h5];simp only[ay];by_cases h6:f.1=6
    · rw[ag h6];cases decide (f.2.1≥-1)&&decide (f.2.1≤1152921504606846976) with
      |false=>exact by simp
      |true=>
        have b1:decide (w<s.B.2.2.1.length)=true:=ag (by rw[hb.ml];exact eS);simp only[av,bG,ay,b1];exact⟨_,rfl,fun _=>rfl⟩
    · rw[ai h6];cases decide (f.2.1≥0)&&decide (f.2.1≤1152921504606846976) with
      |false=>exact by simp
      |true=>
        have b1:decide (w<s.B.1.length)=true:=by grind
        simp only[av,bG,ay,b1];exact⟨_,rfl,fun _=>rfl⟩
def Cy (s:qG)(w:Nat)(h:AC)(n:Int):Int×qG:=
 bif decide (n>1152921504606846976) then(8,s)
 else bif decide (n<(s.B.1.getD w ad).2.1)&&decide ((s.B.1.getD w ad).1+n<0) then(9,s)
 else(0,{s with B:=(s.B.1.set w ((s.B.1.getD w ad).1,n,(s.B.1.getD w ad).2.2),s.B.2.1,s.B.2.2.1,s.B.2.2.2),ho:=s.ho.set w h})
def iF (r:qS)(s:qG)(who a many:Int):Int×qG:=
 bif !(decide (a≥0)&&decide (a≤(r.2.1.length:Int)-1)) then(1,s)
 else bif !(decide (many≥0)&&decide (many≤1099511627776)) then(1,s)
 else Cy s who.toNat ((s.ho.getD who.toNat []).set a.toNat many) (gM r.2.1 s.pr ((s.ho.getD who.toNat []).set a.toNat many))
theorem gO.set {sa pr h}(L:gO sa pr h){i}(hi:i<sa.length){v}(hv:0≤v∧v≤1099511627776):gO sa pr (h.set i v):=
 ⟨L.n3,L.pl,by rw[List.length_set];exact L.hl,L.cut,L.price,fun j hj=>by
  rw[jD];split
  ·exact hv
  ·exact L.hold j hj⟩
theorem gO.setP {sa pr h}(L:gO sa pr h){i}(hi:i<sa.length){v}(hv:0≤v∧v≤1048576):gO sa (pr.set i v) h:=
 ⟨L.n3,by rw[List.length_set];exact L.pl,L.hl,L.cut,fun j hj=>by
  rw[jD];split
  ·exact hv
  ·exact L.price j hj,L.hold⟩
theorem yXg {k}{l:wH}(hl:l.length≤1000):Cz k l=some l:=by
 unfold Cz;rw[qT (by omega) (by omega)];rfl
theorem vEv {k}(hk:1000≤k){r}(hr:wT r){s}(h:yO r s){who}(hw:0≤who∧who<r.1) l a many:
    ∃d,Lc k (dk r s who l) a many=some ((iF r s who a many).1,d)∧((iF r s who a many).1=0→d=dk r (iF r s who a many).2 who l):=by
  have hp:=hr.pa;have h3:=hr.n3;have hn:=h.n;have eQ:=h.bk.n6;have hol:=h.hol;have w1:zA ((r.2.1.length:Int)-1)=(r.2.1.length:Int)-1:=zN (by omega) (by omega);obtain⟨w,rfl⟩:=Int.eq_ofNat_of_zero_le hw.1;have eS:w<s.B.1.length:=by omega
  have eD:Lc k (dk r s w l) a many=((yW k a 0 (zA ((r.2.1.length:Int)-1))).bind fun x0=>some x0).bind fun x0=>
    bif !x0 then some (1,dk r s w l)
    else(yW k many 0 1099511627776).bind fun x1=>
    bif !x1 then some (1,dk r s w l)
    else(Cz k s.ho).bind fun x2=>
    bif zC (w : Int) x2.length then ((nj k (x2.getD (w:Int).toNat []) a many).bind fun x3=>
      bif zC (w:Int) x2.length then(
       bif zC (w : Int) (x2.set (w : Int).toNat x3).length then ((oE k r.2.1 s.pr ((x2.set (w:Int).toNat x3).getD (w:Int).toNat [])).bind fun x4=>
        bif zC (w : Int) s.B.1.length then (bif !x4.2 then some (8,dk r s w l)
         else bif decide (x4.1>1152921504606846976) then some (8,dk r s w l)
         else bif decide (x4.1 < (s.B.1.getD (w : Int).toNat (0, 0, 0)).2.1) then (bif decide ((zA ((s.B.1.getD (w:Int).toNat (0,0,0)).1+x4.1))<0) then some (9,dk r s w l)
          else(eP k s.B.1 s.B.2.1 s.B.2.2.1 s.B.2.2.2).bind fun x5=>
          bif zC (w:Int) x5.1.length then
           some (0,dk r {s with B:=((x5.1.set (w:Int).toNat ((x5.1.getD (w:Int).toNat (0,0,0)).1,x4.1,(x5.1.getD (w:Int).toNat (0,0,0)).2.2)),x5.2.1,x5.2.2.1,x5.2.2.2),ho:=x2.set (w:Int).toNat x3} w l)
          else none)
         else(eP k s.B.1 s.B.2.1 s.B.2.2.1 s.B.2.2.2).bind fun x6=>
         bif zC (w:Int) x6.1.length then
          some (0,dk r {s with B:=((x6.1.set (w:Int).toNat ((x6.1.getD (w:Int).toNat (0,0,0)).1,x4.1,(x6.1.getD (w:Int).toNat (0,0,0)).2.2)),x6.2.1,x6.2.2.1,x6.2.2.2),ho:=x2.set (w:Int).toNat x3} w l)
         else none)
        else none)
       else none)
      else none)
    else none:=rfl
  rw[eD,w1,kK,kK,FL (by omega) h.bk.toSized,yXg (by omega)];simp only[ak,zW,aC];unfold iF;simp only[aC];cases hc:decide (a≥0)&&decide (a≤(r.2.1.length:Int)-1) with
  |false=>exact by simp
  |true=>
  simp only[bJ,bO] at hc;cases hm:decide (many≥0)&&decide (many≤1099511627776) with
  |false=>exact by simp
  |true=>
  obtain⟨i,rfl⟩:=Int.eq_ofNat_of_zero_le hc.1;have hi:i<r.2.1.length:=by omega
  have L:=h.laid w eS;have L2:=L.set hi (v:=many) (by grind);have b1:decide (w<s.ho.length)=true:=by grind
  have b2:decide (w<s.B.1.length)=true:=ag eS;have j8:nj k (s.ho.getD w []) (i:Int) many=some ((s.ho.getD w []).set i many):=by
    have:=yL4 (k:=k) (l:=s.ho.getD w []) (by rw[L.hl];omega) (i:=(i:Int)) (by omega) (by rw[L.hl];omega) many;simp_all
  have GX:(s.ho.set w ((s.ho.getD w []).set i many)).getD w []=(s.ho.getD w []).set i many:=by
    rw[jD,if_pos ⟨rfl,by omega⟩]
  have hv:=QV (k:=k) L2 (by omega);have hb:=h.bk.nums.bal w eS;have uJ:=BV L2;simp only[bG,ay,b1,av,j8,ak,List.length_set,GX,hv,b2,aC];clear hv L2 GX eD;generalize gM r.2.1 s.pr ((s.ho.getD w []).set i many)=n at uJ⊢;unfold Cy;cases Rf:decide (n>1152921504606846976) with
  |true=>exact by simp
  |false=>
    have h8:¬n>1152921504606846976:=oq Rf;have w2:zA ((s.B.1.getD w (0,0,0)).1+n)=(s.B.1.getD w (0,0,0)).1+n:=zN (by have:=hb.1;simp only[ad] at this;omega) (by have:=hb.2;simp only[ad] at this;omega);simp only[w2,ay];cases decide (n<(s.B.1.getD w (0,0,0)).2.1) with
    |false=>exact by simp
    |true=>
      cases decide ((s.B.1.getD w (0,0,0)).1+n<0) with
      |true=>exact by simp
      |false=>exact by simp
def wM (a:qQ)(n:Int):qQ×Int:=bif jE (a.1+n,a.2.1,a.2.2) then((a.1+n,a.2.1,a.2.2),0) else(a,8)
theorem ySp {k}{a:qQ}(ha:-4611686018427387904<a.1∧a.1<4611686018427387904){n}(hn:-1099511627776≤n∧n≤1099511627776):GY k a n=some (wM a n):=by
 have aap:Ld k a.1 n=some (a.1+n,true):=by
  unfold Ld;have w1:n>0→zA (9223372036854775807-n)=9223372036854775807-n:=fun h=>zN (by omega) (by omega)
  have w2:n<0→zA (-9223372036854775808-n)= -9223372036854775808-n:=fun h=>zN (by omega) (by omega)
  have w3:zA (a.1+n)=a.1+n:=zN (by omega) (by omega);grind
 unfold GY wM;simp[yLt];grind
theorem Rg x (s:Nat)(h:s≤62):shr .i64 x (s:Int)=x/2^s:=by
 have e:shr .i64 x (s:Int)=x.fdiv (2^(min (s:Int).toNat 64)):=rfl;grind
theorem oK x:shr .i64 x 16=x/65536:=Rg x 16 (by decide)
theorem yK6 x:shr .i64 x 32=x/4294967296:=Rg x 32 (by decide)
theorem yJp x:shr .i64 x 48=x/281474976710656:=Rg x 48 (by decide)
theorem yUk x:shr .i64 x 0=x:=by grind
theorem qm x:yA .i64 x 65535=x%65536:=qYp 16 (by decide) x
theorem Rh m (hm:m≤62){x y}(hx:0≤x)(hy:0≤y∧y<2^m)(hs:x*2^m+y<9223372036854775808):fe .i64 (x*2^m) y=x*2^m+y:=by
 obtain⟨a,rfl⟩:=Int.eq_ofNat_of_zero_le hx;obtain⟨b,rfl⟩:=Int.eq_ofNat_of_zero_le hy.1;have hp:(2:Int)^m=((2^m:Nat):Int):=by simp
 rw[hp] at hs hy⊢;have e1:(a:Int)*((2^m:Nat):Int)=((a*2^m:Nat):Int):=by simp
 rw[e1] at hs⊢;have hb:b<2^m:=by omega
 unfold fe oZ;have GZ:IntKind.i64.bits=64:=rfl;have e2:(BitVec.ofInt IntKind.i64.bits ((a*2^m:Nat):Int)|||BitVec.ofInt IntKind.i64.bits (b:Int)).toNat=a*2^m+b:=by
  rw[BitVec.toNat_or,BitVec.ofInt_natCast,BitVec.ofInt_natCast,BitVec.toNat_ofNat,BitVec.toNat_ofNat,GZ,Nat.mod_eq_of_lt (by omega),Nat.mod_eq_of_lt (by omega)];have:=Nat.shiftLeft_add_eq_or_of_lt hb a;rw[Nat.shiftLeft_eq] at this;exact this.symm
 rw[e2];exact zN (by omega) (by omega)
def V9 (l0 l1 l2 l3 l4 l5 l6 l7 l8:Int):Int:=l0+65536*(l1+65536*(l2+65536*(l3+65536*(l4+65536*(l5+65536*(l6+65536*(l7+65536*l8)))))))
theorem vQ4 (l0 l1 l2 l3 l4 l5 l6 l7 l8:Int){c1 c2 c3 c4 c5 c6 c7 c8:Int}(h1:c1=zA (l1+shr .i64 l0 16))(h2:c2=zA (l2+shr .i64 c1 16))(h3:c3=zA (l3+shr .i64 c2 16))(h4:c4=zA (l4+shr .i64 c3 16))(h5:c5=zA (l5+shr .i64 c4 16))(h6:c6=zA (l6+shr .i64 c5 16))(h7:c7=zA (l7+shr .i64 c6 16))(h8:c8=zA (l8+shr .i64 c7 16)):
  CA 1000 [l0,l1,l2,l3,l4,l5,l6,l7,l8]=some [yA .i64 l0 65535,yA .i64 c1 65535,yA .i64 c2 65535,yA .i64 c3 65535,yA .i64 c4 65535,yA .i64 c5 65535,yA .i64 c6 65535,yA .i64 c7 65535,c8]:=by
 subst h8;subst h7;subst h6;subst h5;subst h4;subst h3;subst h2;subst h1
 kernel_rfl
theorem yJf {l0 l1 l2 l3 l4 l5 l6 l7 l8:Int}(g0:0≤l0∧l0≤1099511627776)(g1:0≤l1∧l1≤1099511627776)(g2:0≤l2∧l2≤1099511627776)(g3:0≤l3∧l3≤1099511627776)(g4:0≤l4∧l4≤1099511627776)(g5:0≤l5∧l5≤1099511627776)(g6:0≤l6∧l6≤1099511627776)(g7:0≤l7∧l7≤1099511627776)(g8:0≤l8∧l8≤1099511627776):∃d0 d1 d2 d3 d4 d5 d6 d7 d8,
  CA 1000 [l0,l1,l2,l3,l4,l5,l6,l7,l8]=some [d0,d1,d2,d3,d4,d5,d6,d7,d8]∧V9 d0 d1 d2 d3 d4 d5 d6 d7 d8=V9 l0 l1 l2 l3 l4 l5 l6 l7 l8∧(0≤d0∧d0<65536)∧(0≤d1∧d1<65536)∧(0≤d2∧d2<65536)∧(0≤d3∧d3<65536)∧(0≤d4∧d4<65536)∧(0≤d5∧d5<65536)∧(0≤d6∧d6<65536)∧(0≤d7∧d7<65536)∧0≤d8:=by
 obtain⟨c1,mP⟩:∃c,c=l1+l0/65536:=⟨_,rfl⟩;have b1:0≤c1∧c1≤2199023255552:=by omega
 have h1:c1=zA (l1+shr .i64 l0 16):=by rw[oK,←mP,zN (by omega) (by omega)]
 obtain⟨c2,cU⟩:∃c,c=l2+c1/65536:=⟨_,rfl⟩;have b2:0≤c2∧c2≤2199023255552:=by omega
 have h2:c2=zA (l2+shr .i64 c1 16):=by rw[oK,←cU,zN (by omega) (by omega)]
 obtain⟨c3,dB⟩:∃c,c=l3+c2/65536:=⟨_,rfl⟩;have b3:0≤c3∧c3≤2199023255552:=by omega
 have h3:c3=zA (l3+shr .i64 c2 16):=by rw[oK,←dB,zN (by omega) (by omega)]
 obtain⟨c4,fg⟩:∃c,c=l4+c3/65536:=⟨_,rfl⟩;have b4:0≤c4∧c4≤2199023255552:=by omega
 have h4:c4=zA (l4+shr .i64 c3 16):=by rw[oK,←fg,zN (by omega) (by omega)]
 obtain⟨c5,kD⟩:∃c,c=l5+c4/65536:=⟨_,rfl⟩;have b5:0≤c5∧c5≤2199023255552:=by omega
 have h5:c5=zA (l5+shr .i64 c4 16):=by rw[oK,←kD,zN (by omega) (by omega)]
 obtain⟨c6,An⟩:∃c,c=l6+c5/65536:=⟨_,rfl⟩;have b6:0≤c6∧c6≤2199023255552:=by omega
 have h6:c6=zA (l6+shr .i64 c5 16):=by rw[oK,←An,zN (by omega) (by omega)]
 obtain⟨c7,Ao⟩:∃c,c=l7+c6/65536:=⟨_,rfl⟩;have b7:0≤c7∧c7≤2199023255552:=by omega
 have h7:c7=zA (l7+shr .i64 c6 16):=by rw[oK,←Ao,zN (by omega) (by omega)]
 obtain⟨c8,hc8⟩:∃c,c=l8+c7/65536:=⟨_,rfl⟩;have b8:0≤c8∧c8≤2199023255552:=by omega
 have h8:c8=zA (l8+shr .i64 c7 16):=by rw[oK,←hc8,zN (by omega) (by omega)]
 have run:=vQ4 l0 l1 l2 l3 l4 l5 l6 l7 l8 h1 h2 h3 h4 h5 h6 h7 h8;simp only[qm] at run;refine⟨_,_,_,_,_,_,_,_,_,run,?_,⟨Int.emod_nonneg _ (by decide),Int.emod_lt_of_pos _ (by decide)⟩,⟨Int.emod_nonneg _ (by decide),Int.emod_lt_of_pos _ (by decide)⟩,⟨Int.emod_nonneg _ (by decide),Int.emod_lt_of_pos _ (by decide)⟩,⟨Int.emod_nonneg _ (by decide),Int.emod_lt_of_pos _ (by decide)⟩,⟨Int.emod_nonneg _ (by decide),Int.emod_lt_of_pos _ (by decide)⟩,⟨Int.emod_nonneg _ (by decide),Int.emod_lt_of_pos _ (by decide)⟩,⟨Int.emod_nonneg _ (by decide),Int.emod_lt_of_pos _ (by decide)⟩,⟨Int.emod_nonneg _ (by decide),Int.emod_lt_of_pos _ (by decide)⟩,b8.1⟩;unfold V9;clear run h1 h2 h3 h4 h5 h6 h7 h8;omega
theorem yZq l0 l1 l2 l3 l4 l5 l6 l7 l8 n:Le 1000 [l0,l1,l2,l3,l4,l5,l6,l7,l8] n=CA 1000 [zA (l0*n),zA (l1*n),zA (l2*n),zA (l3*n),zA (l4*n),zA (l5*n),zA (l6*n),zA (l7*n),zA (l8*n)]:=by
 have e:Lf 1000 1000 n 0 [l0,l1,l2,l3,l4,l5,l6,l7,l8]=some [zA (l0*n),zA (l1*n),zA (l2*n),zA (l3*n),zA (l4*n),zA (l5*n),zA (l6*n),zA (l7*n),zA (l8*n)]:=by kernel_rfl
 unfold Le;simp_all
theorem vHm l0 l1 l2 l3 l4 l5 l6 l7 l8 n:V9 l0 l1 l2 l3 l4 l5 l6 l7 l8*n=V9 (l0*n) (l1*n) (l2*n) (l3*n) (l4*n) (l5*n) (l6*n) (l7*n) (l8*n):=by
 unfold V9;grind
theorem vGz l0 l1 l2 l3 l4 l5 l6 l7 l8 {x0 x1 x2 x3 x4 x5 x6 x7 x8 r0 r1 r2 r3 r4 r5 r6 r7 r8 r9}(h8:x8=zA (shl .i64 r9 16+l8))(h7:x7=zA (shl .i64 r8 16+l7))(h6:x6=zA (shl .i64 r7 16+l6))(h5:x5=zA (shl .i64 r6 16+l5))(h4:x4=zA (shl .i64 r5 16+l4))(h3:x3=zA (shl .i64 r4 16+l3))(h2:x2=zA (shl .i64 r3 16+l2))(h1:x1=zA (shl .i64 r2 16+l1))(h0:x0=zA (shl .i64 r1 16+l0))(h9:r9=0)(k8:r8=Int.tmod x8 10000)(k7:r7=Int.tmod x7 10000)(k6:r6=Int.tmod x6 10000)(k5:r5=Int.tmod x5 10000)(k4:r4=Int.tmod x4 10000)(k3:r3=Int.tmod x3 10000)(k2:r2=Int.tmod x2 10000)(k1:r1=Int.tmod x1 10000)(k0:r0=Int.tmod x0 10000):
  G0 1000 1000 10000 0 8 [l0,l1,l2,l3,l4,l5,l6,l7,l8]=some [zA (Int.tdiv x0 10000),zA (Int.tdiv x1 10000),zA (Int.tdiv x2 10000),zA (Int.tdiv x3 10000),zA (Int.tdiv x4 10000),zA (Int.tdiv x5 10000),zA (Int.tdiv x6 10000),zA (Int.tdiv x7 10000),zA (Int.tdiv x8 10000)]:=by
 subst h0;subst k1;subst h1;subst k2;subst h2;subst k3;subst h3;subst k4;subst h4;subst k5;subst h5;subst k6;subst h6;subst k7;subst h7;subst k8;subst h8;subst h9
 kernel_rfl
theorem qn x:shl .i64 x 16=zA (x*65536):=rfl
theorem vE3 q0 q1 q2 q3 (h : decide (q3 ≥ 32768) = false) : ((CB 1000 1000 4 [q0,q1,q2,q3,0,0,0,0,0]).bind fun z1=>
 match z1 with
 | .inl z2 => bif zC 3 z2.length then (bif decide ((z2.getD 3 0)≥32768) then some ((0:Int),false)
   else bif zC 3 z2.length then (bif zC 2 z2.length then (bif zC 1 z2.length then (bif zC 0 z2.length then some ((fe .i64 (fe .i64 (fe .i64 (shl .i64 (z2.getD 3 0) 48) (shl .i64 (z2.getD 2 0) 32)) (shl .i64 (z2.getD 1 0) 16)) (z2.getD 0 0)),true)
      else none)
     else none)
    else none)
   else none)
  else none
 |.inr z3=>some (z3.1,z3.2))=some (fe .i64 (fe .i64 (fe .i64 (shl .i64 q3 48) (shl .i64 q2 32)) (shl .i64 q1 16)) q0,true):=by
  have e:CB 1000 1000 4 [q0,q1,q2,q3,0,0,0,0,0]=some (.inl [q0,q1,q2,q3,0,0,0,0,0]):=by rfl
  rw[e];simp only[ak];have e3:([q0,q1,q2,q3,0,0,0,0,0]:AC).getD 3 0=q3:=rfl;rw[e3,h];rfl
theorem yTa {q0 q1 q2 q3}(h0:0≤q0∧q0<65536)(h1:0≤q1∧q1<65536)(h2:0≤q2∧q2<65536)(h3:0≤q3∧q3<32768):
  fe .i64 (fe .i64 (fe .i64 (shl .i64 q3 48) (shl .i64 q2 32)) (shl .i64 q1 16)) q0=q0+65536*(q1+65536*(q2+65536*q3)):=by
 have s3:shl .i64 q3 48=zA (q3*281474976710656):=rfl;have s2:shl .i64 q2 32=zA (q2*4294967296):=rfl;have s1:shl .i64 q1 16=zA (q1*65536):=rfl;rw[s3,s2,s1,zN (x:=q3*281474976710656) (by omega) (by omega),zN (x:=q2*4294967296) (by omega) (by omega),zN (x:=q1*65536) (by omega) (by omega)];have b1:=Rh 48 (by decide) (x:=q3) (y:=q2*4294967296) h3.1 (by omega) (by omega);have p48:(2:Int)^48=281474976710656:=rfl;rw[p48] at b1;have b2:=Rh 32 (by decide) (x:=q3*65536+q2) (y:=q1*65536) (by omega) (by omega) (by omega);have p32:(2:Int)^32=4294967296:=rfl;rw[p32] at b2;have b3:=Rh 16 (by decide) (x:=(q3*65536+q2)*65536+q1) (y:=q0) (by omega) (by omega) (by omega);grind
theorem yYa {l0 l1 l2 l3 l4 l5 l6 l7 l8}(g0:0≤l0∧l0<65536)(g1:0≤l1∧l1<65536)(g2:0≤l2∧l2<65536)(g3:0≤l3∧l3<65536)(g4:0≤l4∧l4<65536)(g5:0≤l5∧l5<65536)(g6:0≤l6∧l6<65536)(g7:0≤l7∧l7<65536)(g8:0≤l8∧l8≤0)(hV:V9 l0 l1 l2 l3 l4 l5 l6 l7 l8/10000≤1152921504606846976):Lg 1000 [l0,l1,l2,l3,l4,l5,l6,l7,l8] 10000=some (V9 l0 l1 l2 l3 l4 l5 l6 l7 l8/10000,true):=by
  obtain⟨r9,h9⟩:∃r:Int,r=0:=⟨_,rfl⟩;obtain⟨x8,hx8⟩:∃x,x=r9*65536+l8:=⟨_,rfl⟩;obtain⟨r8,hr8⟩:∃r,r=x8%10000:=⟨_,rfl⟩;obtain⟨q8,hq8⟩:∃q,q=x8/10000:=⟨_,rfl⟩;have v8:x8=10000*q8+r8∧0≤r8∧r8<10000∧0≤x8∧x8<655360000:=by omega
  have h8:x8=zA (shl .i64 r9 16+l8):=by rw[qn,zN (x:=r9*65536) (by omega) (by omega),←hx8,zN (by omega) (by omega)]
  have k8:r8=Int.tmod x8 10000:=by rw[Int.tmod_eq_emod_of_nonneg (by omega)];exact hr8
  have t8:zA (Int.tdiv x8 10000)=q8:=by rw[Int.tdiv_eq_ediv_of_nonneg (by omega),←hq8,zN (by omega) (by omega)]
  obtain⟨x7,hx7⟩:∃x,x=r8*65536+l7:=⟨_,rfl⟩;obtain⟨r7,hr7⟩:∃r,r=x7%10000:=⟨_,rfl⟩;obtain⟨q7,hq7⟩:∃q,q=x7/10000:=⟨_,rfl⟩;have v7:x7=10000*q7+r7∧0≤r7∧r7<10000∧0≤x7∧x7<655360000:=by omega
  have h7:x7=zA (shl .i64 r8 16+l7):=by rw[qn,zN (x:=r8*65536) (by omega) (by omega),←hx7,zN (by omega) (by omega)]
  have k7:r7=Int.tmod x7 10000:=by rw[Int.tmod_eq_emod_of_nonneg (by omega)];exact hr7
  have t7:zA (Int.tdiv x7 10000)=q7:=by rw[Int.tdiv_eq_ediv_of_nonneg (by omega),←hq7,zN (by omega) (by omega)]
  obtain⟨x6,JK⟩:∃x,x=r7*65536+l6:=⟨_,rfl⟩;obtain⟨r6,hr6⟩:∃r,r=x6%10000:=⟨_,rfl⟩;obtain⟨q6,hq6⟩:∃q,q=x6/10000:=⟨_,rfl⟩;have v6:x6=10000*q6+r6∧0≤r6∧r6<10000∧0≤x6∧x6<655360000:=by omega
  have h6:x6=zA (shl .i64 r7 16+l6):=by rw[qn,zN (x:=r7*65536) (by omega) (by omega),←JK,zN (by omega) (by omega)]
  have k6:r6=Int.tmod x6 10000:=by rw[Int.tmod_eq_emod_of_nonneg (by omega)];exact hr6
  have t6:zA (Int.tdiv x6 10000)=q6:=by rw[Int.tdiv_eq_ediv_of_nonneg (by omega),←hq6,zN (by omega) (by omega)]
  obtain⟨x5,hx5⟩:∃x,x=r6*65536+l5:=⟨_,rfl⟩;obtain⟨r5,hr5⟩:∃r,r=x5%10000:=⟨_,rfl⟩;obtain⟨q5,hq5⟩:∃q,q=x5/10000:=⟨_,rfl⟩;have v5:x5=10000*q5+r5∧0≤r5∧r5<10000∧0≤x5∧x5<655360000:=by omega
  have h5:x5=zA (shl .i64 r6 16+l5):=by rw[qn,zN (x:=r6*65536) (by omega) (by omega),←hx5,zN (by omega) (by omega)]
  have k5:r5=Int.tmod x5 10000:=by rw[Int.tmod_eq_emod_of_nonneg (by omega)];exact hr5
  have t5:zA (Int.tdiv x5 10000)=q5:=by rw[Int.tdiv_eq_ediv_of_nonneg (by omega),←hq5,zN (by omega) (by omega)]
  obtain⟨x4,hx4⟩:∃x,x=r5*65536+l4:=⟨_,rfl⟩;obtain⟨r4,hr4⟩:∃r,r=x4%10000:=⟨_,rfl⟩;obtain⟨q4,hq4⟩:∃q,q=x4/10000:=⟨_,rfl⟩;have v4:x4=10000*q4+r4∧0≤r4∧r4<10000∧0≤x4∧x4<655360000:=by omega
  have h4:x4=zA (shl .i64 r5 16+l4):=by rw[qn,zN (x:=r5*65536) (by omega) (by omega),←hx4,zN (by omega) (by omega)]
  have k4:r4=Int.tmod x4 10000:=by rw[Int.tmod_eq_emod_of_nonneg (by omega)];exact hr4
  have t4:zA (Int.tdiv x4 10000)=q4:=by rw[Int.tdiv_eq_ediv_of_nonneg (by omega),←hq4,zN (by omega) (by omega)]
  obtain⟨x3,Ri⟩:∃x,x=r4*65536+l3:=⟨_,rfl⟩;obtain⟨r3,hr3⟩:∃r,r=x3%10000:=⟨_,rfl⟩;obtain⟨q3,hq3⟩:∃q,q=x3/10000:=⟨_,rfl⟩;have v3:x3=10000*q3+r3∧0≤r3∧r3<10000∧0≤x3∧x3<655360000:=by omega
  have h3:x3=zA (shl .i64 r4 16+l3):=by rw[qn,zN (x:=r4*65536) (by omega) (by omega),←Ri,zN (by omega) (by omega)]
  have k3:r3=Int.tmod x3 10000:=by rw[Int.tmod_eq_emod_of_nonneg (by omega)];exact hr3
  have t3:zA (Int.tdiv x3 10000)=q3:=by rw[Int.tdiv_eq_ediv_of_nonneg (by omega),←hq3,zN (by omega) (by omega)]
  obtain⟨x2,zi⟩:∃x,x=r3*65536+l2:=⟨_,rfl⟩;obtain⟨r2,nO⟩:∃r,r=x2%10000:=⟨_,rfl⟩;obtain⟨q2,hq2⟩:∃q,q=x2/10000:=⟨_,rfl⟩;have v2:x2=10000*q2+r2∧0≤r2∧r2<10000∧0≤x2∧x2<655360000:=by omega
  have h2:x2=zA (shl .i64 r3 16+l2):=by rw[qn,zN (x:=r3*65536) (by omega) (by omega),←zi,zN (by omega) (by omega)]
  have k2:r2=Int.tmod x2 10000:=by rw[Int.tmod_eq_emod_of_nonneg (by omega)];exact nO
  have t2:zA (Int.tdiv x2 10000)=q2:=by rw[Int.tdiv_eq_ediv_of_nonneg (by omega),←hq2,zN (by omega) (by omega)]
  obtain⟨x1,cS⟩:∃x,x=r2*65536+l1:=⟨_,rfl⟩;obtain⟨r1,sf⟩:∃r,r=x1%10000:=⟨_,rfl⟩;obtain⟨q1,hq1⟩:∃q,q=x1/10000:=⟨_,rfl⟩;have v1:x1=10000*q1+r1∧0≤r1∧r1<10000∧0≤x1∧x1<655360000:=by omega
  have h1:x1=zA (shl .i64 r2 16+l1):=by rw[qn,zN (x:=r2*65536) (by omega) (by omega),←cS,zN (by omega) (by omega)]
  have k1:r1=Int.tmod x1 10000:=by rw[Int.tmod_eq_emod_of_nonneg (by omega)];exact sf
  have t1:zA (Int.tdiv x1 10000)=q1:=by rw[Int.tdiv_eq_ediv_of_nonneg (by omega),←hq1,zN (by omega) (by omega)]
  obtain⟨x0,Rj⟩:∃x,x=r1*65536+l0:=⟨_,rfl⟩;obtain⟨r0,pv⟩:∃r,r=x0%10000:=⟨_,rfl⟩;obtain⟨q0,hq0⟩:∃q,q=x0/10000:=⟨_,rfl⟩;have v0:x0=10000*q0+r0∧0≤r0∧r0<10000∧0≤x0∧x0<655360000:=by omega
  have h0:x0=zA (shl .i64 r1 16+l0):=by rw[qn,zN (x:=r1*65536) (by omega) (by omega),←Rj,zN (by omega) (by omega)]
  have k0:r0=Int.tmod x0 10000:=by rw[Int.tmod_eq_emod_of_nonneg (by omega)];exact pv
  have t0:zA (Int.tdiv x0 10000)=q0:=by rw[Int.tdiv_eq_ediv_of_nonneg (by omega),←hq0,zN (by omega) (by omega)]
  have run:=vGz l0 l1 l2 l3 l4 l5 l6 l7 l8 h8 h7 h6 h5 h4 h3 h2 h1 h0 h9 k8 k7 k6 k5 k4 k3 k2 k1 k0;rw[t0,t1,t2,t3,t4,t5,t6,t7,t8] at run;clear h0 k0 t0 h1 k1 t1 h2 k2 t2 h3 k3 t3 h4 k4 t4 h5 k5 t5 h6 k6 t6 h7 k7 t7 h8 k8 t8;have hv:10000*V9 q0 q1 q2 q3 q4 q5 q6 q7 q8+r0=V9 l0 l1 l2 l3 l4 l5 l6 l7 l8:=by unfold V9;omega
  have hq:V9 q0 q1 q2 q3 q4 q5 q6 q7 q8=V9 l0 l1 l2 l3 l4 l5 l6 l7 l8/10000:=by omega
  rw[←hq] at hV⊢;unfold V9 at hV;have z8:q8=0:=by omega
  have z7:q7=0:=by omega
  have z6:q6=0:=by omega
  have z5:q5=0:=by omega
  have z4:q4=0:=by omega
  have z3:q3<32768:=by omega
  rw[z4,z5,z6,z7,z8] at run;have eU:Lg 1000 [l0,l1,l2,l3,l4,l5,l6,l7,l8] 10000=(G0 1000 1000 10000 0 8 [l0,l1,l2,l3,l4,l5,l6,l7,l8]).bind fun z=>(CB 1000 1000 4 z).bind fun z1=>
   match z1 with
   | .inl z2 => bif zC 3 z2.length then (bif decide ((z2.getD 3 0)≥32768) then some ((0:Int),false)
     else bif zC 3 z2.length then (bif zC 2 z2.length then (bif zC 1 z2.length then (bif zC 0 z2.length then some ((fe .i64 (fe .i64 (fe .i64 (shl .i64 (z2.getD 3 0) 48) (shl .i64 (z2.getD 2 0) 32)) (shl .i64 (z2.getD 1 0) 16)) (z2.getD 0 0)),true)
        else none)
       else none)
      else none)
     else none)
    else none
   |.inr z3=>some (z3.1,z3.2):=rfl
  rw[eU,run];simp only[ak];refine(vE3 q0 q1 q2 q3 (ai (by omega))).trans ?_;rw[yTa ⟨by omega,by omega⟩ ⟨by omega,by omega⟩ ⟨by omega,by omega⟩ ⟨by omega,z3⟩];unfold V9;rw[z4,z5,z6,z7,z8];exact by simp
theorem vCk (a b x0 x1 x2 x3:Int):Lh 1000 1000 b 0 [x0,x1,x2,x3] [0,0,0,0,0,0,0,0,0]=some [zA (0+zA (x0*yA .i64 (shr .i64 b 0) 65535)),zA (zA (0+zA (x0*yA .i64 (shr .i64 b 16) 65535))+zA (x1*yA .i64 (shr .i64 b 0) 65535)),zA (zA (zA (0+zA (x0*yA .i64 (shr .i64 b 32) 65535))+zA (x1*yA .i64 (shr .i64 b 16) 65535))+zA (x2*yA .i64 (shr .i64 b 0) 65535)),zA (zA (zA (zA (0+zA (x0*yA .i64 (shr .i64 b 48) 65535))+zA (x1*yA .i64 (shr .i64 b 32) 65535))+zA (x2*yA .i64 (shr .i64 b 16) 65535))+zA (x3*yA .i64 (shr .i64 b 0) 65535)),zA (zA (zA (0+zA (x1*yA .i64 (shr .i64 b 48) 65535))+zA (x2*yA .i64 (shr .i64 b 32) 65535))+zA (x3*yA .i64 (shr .i64 b 16) 65535)),zA (zA (0+zA (x2*yA .i64 (shr .i64 b 48) 65535))+zA (x3*yA .i64 (shr .i64 b 32) 65535)),zA (0+zA (x3*yA .i64 (shr .i64 b 48) 65535)),0,0]:=by kernel_rfl
theorem yZe {x0 x1 x2 x3 y0 y1 y2 y3}:(x0+65536*x1+4294967296*x2+281474976710656*x3)*(y0+65536*y1+4294967296*y2+281474976710656*y3)=V9 (x0*y0) (x0*y1+x1*y0) (x0*y2+x1*y1+x2*y0) (x0*y3+x1*y2+x2*y1+x3*y0) (x1*y3+x2*y2+x3*y1) (x2*y3+x3*y2) (x3*y3) 0 0:=by
 have row:∀x:Int,x*(y0+65536*y1+4294967296*y2+281474976710656*y3)=x*y0+65536*(x*y1)+4294967296*(x*y2)+281474976710656*(x*y3):=by grind
 rw[Int.add_mul,Int.add_mul,Int.add_mul,Int.mul_assoc,Int.mul_assoc,Int.mul_assoc,row,row,row,row];unfold V9;omega
theorem vHp {a b}(ha:0≤a∧a≤1048576)(hb:0≤b∧b≤1099511627776):∃d0 d1 d2 d3 d4 d5 d6 d7 d8,
  Lj 1000 a b=some [d0,d1,d2,d3,d4,d5,d6,d7,d8]∧V9 d0 d1 d2 d3 d4 d5 d6 d7 d8=a*b∧(0≤d0∧d0<65536)∧(0≤d1∧d1<65536)∧(0≤d2∧d2<65536)∧(0≤d3∧d3<65536)∧(0≤d4∧d4<65536)∧(0≤d5∧d5<65536)∧(0≤d6∧d6<65536)∧(0≤d7∧d7<65536)∧d8=0:=by
 obtain⟨x0,Rj⟩:∃z,z=a%65536:=⟨_,rfl⟩;have tv:0≤x0∧x0≤65535:=by omega
 obtain⟨x1,cS⟩:∃z,z=a/65536%65536:=⟨_,rfl⟩;have tw:0≤x1∧x1≤65535:=by omega
 obtain⟨x2,zi⟩:∃z,z=a/4294967296%65536:=⟨_,rfl⟩;have tx:0≤x2∧x2≤65535:=by omega
 obtain⟨x3,Ri⟩:∃z,z=a/281474976710656%65536:=⟨_,rfl⟩;have tz:0≤x3∧x3≤65535:=by omega
 obtain⟨y0,Oy⟩:∃z,z=b%65536:=⟨_,rfl⟩;have tA:0≤y0∧y0≤65535:=by omega
 obtain⟨y1,OY⟩:∃z,z=b/65536%65536:=⟨_,rfl⟩;have tB:0≤y1∧y1≤65535:=by omega
 obtain⟨y2,OZ⟩:∃z,z=b/4294967296%65536:=⟨_,rfl⟩;have tC:0≤y2∧y2≤65535:=by omega
 obtain⟨y3,hy3⟩:∃z,z=b/281474976710656%65536:=⟨_,rfl⟩;have tD:0≤y3∧y3≤65535:=by omega
 have ea:a=x0+65536*x1+4294967296*x2+281474976710656*x3:=by omega
 have eb:b=y0+65536*y1+4294967296*y2+281474976710656*y3:=by omega
 have dg:Lk 1000 a=some [x0,x1,x2,x3]:=by
  unfold Lk;rw[oK,yK6,yJp,qm,qm,qm,qm,←Rj,←cS,←zi,←Ri]
 have run:=vCk a b x0 x1 x2 x3;rw[yUk,oK,yK6,yJp,qm,qm,qm,qm,←Oy,←OY,←OZ,←hy3] at run;have yw:=yZe (x0:=x0) (x1:=x1) (x2:=x2) (x3:=x3) (y0:=y0) (y1:=y1) (y2:=y2) (y3:=y3);rw[←ea,←eb] at yw;have hm:=vL ha.1 ha.2 hb.1 hb.2;have m00:=vL tv.1 tv.2 tA.1 tA.2;have m01:=vL tv.1 tv.2 tB.1 tB.2;have m02:=vL tv.1 tv.2 tC.1 tC.2;have m03:=vL tv.1 tv.2 tD.1 tD.2;have m10:=vL tw.1 tw.2 tA.1 tA.2;have m11:=vL tw.1 tw.2 tB.1 tB.2;have m12:=vL tw.1 tw.2 tC.1 tC.2;have m13:=vL tw.1 tw.2 tD.1 tD.2;have m20:=vL tx.1 tx.2 tA.1 tA.2;have m21:=vL tx.1 tx.2 tB.1 tB.2;have m22:=vL tx.1 tx.2 tC.1 tC.2;have m23:=vL tx.1 tx.2 tD.1 tD.2;have m30:=vL tz.1 tz.2 tA.1 tA.2;have m31:=vL tz.1 tz.2 tB.1 tB.2;have m32:=vL tz.1 tz.2 tC.1 tC.2;have m33:=vL tz.1 tz.2 tD.1 tD.2;generalize x0*y0=Rk at*
 generalize x0*y1=Ll at*
 generalize x0*y2=G1 at*
 generalize x0*y3=CC at*
 generalize x1*y0=Rl at*
 generalize x1*y1=Lm at*
 generalize x1*y2=G2 at*
 generalize x1*y3=G3 at*
 generalize x2*y0=Rm at*
 generalize x2*y1=Ln at*
 generalize x2*y2=Lp at*
 generalize x2*y3=Lq at*
 generalize x3*y0=Rn at*
 generalize x3*y1=Ro at*
 generalize x3*y2=Rp at*
 generalize x3*y3=Rq at*
 rw[zN (x:=Rk) (by omega) (by omega)] at run;rw[zN (x:=Ll) (by omega) (by omega)] at run;rw[zN (x:=G1) (by omega) (by omega)] at run;rw[zN (x:=CC) (by omega) (by omega)] at run;rw[zN (x:=Rl) (by omega) (by omega)] at run;rw[zN (x:=Lm) (by omega) (by omega)] at run;rw[zN (x:=G2) (by omega) (by omega)] at run;rw[zN (x:=G3) (by omega) (by omega)] at run;rw[zN (x:=Rm) (by omega) (by omega)] at run;rw[zN (x:=Ln) (by omega) (by omega)] at run;rw[zN (x:=Lp) (by omega) (by omega)] at run;rw[zN (x:=Lq) (by omega) (by omega)] at run;rw[zN (x:=Rn) (by omega) (by omega)] at run;rw[zN (x:=Ro) (by omega) (by omega)] at run;rw[zN (x:=Rp) (by omega) (by omega)] at run;rw[zN (x:=Rq) (by omega) (by omega)] at run;rw[zN (x:=0+Rk) (by omega) (by omega)] at run;rw[zN (x:=0+Ll) (by omega) (by omega)] at run;rw[zN (x:=0+G1) (by omega) (by omega)] at run;rw[zN (x:=0+CC) (by omega) (by omega)] at run;rw[zN (x:=0+Ll+Rl) (by omega) (by omega)] at run;rw[zN (x:=0+G1+Lm) (by omega) (by omega)] at run;rw[zN (x:=0+CC+G2) (by omega) (by omega)] at run;rw[zN (x:=0+G3) (by omega) (by omega)] at run;rw[zN (x:=0+G1+Lm+Rm) (by omega) (by omega)] at run;rw[zN (x:=0+CC+G2+Ln) (by omega) (by omega)] at run;rw[zN (x:=0+G3+Lp) (by omega) (by omega)] at run;rw[zN (x:=0+Lq) (by omega) (by omega)] at run;rw[zN (x:=0+CC+G2+Ln+Rn) (by omega) (by omega)] at run;rw[zN (x:=0+G3+Lp+Ro) (by omega) (by omega)] at run;rw[zN (x:=0+Lq+Rp) (by omega) (by omega)] at run;rw[zN (x:=0+Rq) (by omega) (by omega)] at run;obtain⟨d0,d1,d2,d3,d4,d5,d6,d7,d8,c1,c2,n0,n1,n2,n3,n4,n5,n6,n7,n8⟩:=yJf (l0:=0+Rk) (l1:=0+Ll+Rl) (l2:=0+G1+Lm+Rm) (l3:=0+CC+G2+Ln+Rn) (l4:=0+G3+Lp+Ro) (l5:=0+Lq+Rp) (l6:=0+Rq) (l7:=0) (l8:=0) (by omega) (by omega) (by omega) (by omega) (by omega) (by omega) (by omega) (by omega) (by omega);refine⟨d0,d1,d2,d3,d4,d5,d6,d7,d8,?_,?_,n0,n1,n2,n3,n4,n5,n6,n7,?_⟩
 ·unfold Lj;rw[dg];simp only[ak];rw[run];simp only[ak];rw[c1];rfl
 ·rw[c2,yw];unfold V9;omega
 ·have:V9 d0 d1 d2 d3 d4 d5 d6 d7 d8=a*b:=by
   rw[c2,yw];unfold V9;omega
  unfold V9 at this;omega
theorem yZc {p m c:Int}(hp:0≤p∧p≤1048576)(hm:0≤m∧m≤1099511627776)(hc:0≤c∧c≤10000):Lr 1000 p m c=some (qb p m c,true):=by
 obtain⟨d0,d1,d2,d3,d4,d5,d6,d7,d8,e1,e2,n0,n1,n2,n3,n4,n5,n6,n7,n8⟩:=vHp hp hm;have tE:=vL hp.1 hp.2 hm.1 hm.2;have hn:0≤10000-c∧10000-c≤10000:=by omega
 have wn:zA (10000-c)=10000-c:=zN (by omega) (by omega);have hw:=yS2 hp hm hc;unfold qb at hw⊢;have hpn:=vL tE.1 tE.2 hn.1 hn.2;have eV:=vHm d0 d1 d2 d3 d4 d5 d6 d7 d8 (10000-c);rw[e2] at eV;unfold Lr;rw[ai (show¬p<0 by omega),ai (show¬m<0 by omega),ai (show¬c<0 by omega),ai (show¬c>10000 by omega),e1,wn];simp only[ay,ak];rw[yZq];generalize 10000-c=n at*
 have u0:=vL n0.1 (show d0≤65535 by omega) hn.1 hn.2;have u1:=vL n1.1 (show d1≤65535 by omega) hn.1 hn.2;have u2:=vL n2.1 (show d2≤65535 by omega) hn.1 hn.2;have u3:=vL n3.1 (show d3≤65535 by omega) hn.1 hn.2;have u4:=vL n4.1 (show d4≤65535 by omega) hn.1 hn.2;have u5:=vL n5.1 (show d5≤65535 by omega) hn.1 hn.2;have u6:=vL n6.1 (show d6≤65535 by omega) hn.1 hn.2;have u7:=vL n7.1 (show d7≤65535 by omega) hn.1 hn.2;have u8:0≤d8*n∧d8*n≤0:=by rw[n8,Int.zero_mul];omega
 generalize d0*n=t0 at*
 generalize d1*n=t1 at*
 generalize d2*n=t2 at*
 generalize d3*n=t3 at*
 generalize d4*n=t4 at*
 generalize d5*n=t5 at*
 generalize d6*n=t6 at*
 generalize d7*n=t7 at*
 generalize d8*n=t8 at*
 rw[zN (x:=t0) (by omega) (by omega),zN (x:=t1) (by omega) (by omega),zN (x:=t2) (by omega) (by omega),zN (x:=t3) (by omega) (by omega),zN (x:=t4) (by omega) (by omega),zN (x:=t5) (by omega) (by omega),zN (x:=t6) (by omega) (by omega),zN (x:=t7) (by omega) (by omega),zN (x:=t8) (by omega) (by omega)];obtain⟨e0,e1,e2,e3,e4,e5,e6,e7,e8,f1,f2,k0,k1,k2,k3,k4,k5,k6,k7,k8⟩:=yJf (l0:=t0) (l1:=t1) (l2:=t2) (l3:=t3) (l4:=t4) (l5:=t5) (l6:=t6) (l7:=t7) (l8:=t8) (by omega) (by omega) (by omega) (by omega) (by omega) (by omega) (by omega) (by omega) (by omega);rw[f1];simp only[ak];rw[←eV] at f2;have z8:e8≤0:=by unfold V9 at f2;omega
 rw[yYa k0 k1 k2 k3 k4 k5 k6 k7 ⟨k8,z8⟩ (by rw[f2];exact hw.2),f2];rfl
theorem Rr k x y:CD k x.1 x.2.1 x.2.2.1 x.2.2.2.1 x.2.2.2.2.1 x.2.2.2.2.2.1 x.2.2.2.2.2.2 y.1 y.2.1 y.2.2.1 y.2.2.2.1 y.2.2.2.2.1 y.2.2.2.2.2.1 y.2.2.2.2.2.2=some (vV x y):=by
 unfold CD vV;grind
theorem vJq k {a b}(ha:0≤a∧a≤4611686018427387904)(hb:0≤b∧b≤1152921504606846976):CE k a b=some (a+b,true):=by
 unfold CE;rw[zN (x:=a+b) (by omega) (by omega),zN (x:=9223372036854775807-b) (by omega) (by omega),ai (show¬a>9223372036854775807-b by omega),ai (show¬b<0 by omega)];simp
theorem Rs {sa pr h}(L:gO sa pr h):tF 1000 sa pr h=some (gM sa pr h,true):=by
 have h3:=L.n3;obtain ⟨s', g1, g2⟩ := yZ (L := fun n i (v : Int) => G4 1000 n sa pr h v i) (N := sa.length) (fun v => (.inl v : Int ⊕ Int × Bool)) (fun i v => v = qE (ly sa pr h) i) (fun n v _=>by
  show CF 1000 _ sa pr h v (sa.length:Int)=_;unfold CF;simp) (fun n i v hi hv=>by
  refine⟨v+ly sa pr h i,?_,by rw[hv];rfl⟩;show CF 1000 (G4 1000 n) sa pr h v (i:Int)=_;unfold CF;have hw:=Gz L hi;have hb:=KR (g:=ly sa pr h) (n:=i) (fun j hj=>Gz L (by omega));have ed:sa.getD i (0,0)=sa.getD i fK:=rfl;rw[ag (by grind),zW,zW,zW,ag hi,ag (show i<pr.length by rw[L.pl];exact hi),ag (show i<h.length by rw[L.hl];exact hi),aC,ed,yZc (L.price i hi) (L.hold i hi) (L.cut i hi)];simp only[ak];have e:qb (pr.getD i 0) (h.getD i 0) (sa.getD i fK).2=ly sa pr h i:=rfl;rw[e,vJq _ (by omega) hw,qD hi (by omega)];rfl) (n:=1000) (s:=0) (by omega) rfl
 unfold tF;rw[ag (show(pr.length:Int)=(sa.length:Int) by rw[L.pl]),ag (show(h.length:Int)=(sa.length:Int) by rw[L.hl]),g1,g2];rfl
theorem j9 {α:Type}{d}(l:List α){i} h:l.getD i d=l[i]:=by
 simp_all
theorem G5 {X:Type}{L:Nat→Int→Option X}{N:Nat}{e}(bH:∀n,L (n+1) (N:Int)=some e)(aH:∀n i,i<N→L (n+1) (i:Int)=L n ((i+1:Nat):Int)){n}(hn:N<n):L n 0=some e:=by
 obtain⟨_,h,_⟩:=yZ (L:=fun n i (_:Unit)=>L n i) (N:=N) (fun _=>e) (fun _ _=>True) (by grind) (fun n i _ hi _=>⟨(),by grind,trivial⟩) (n:=n) (s:=()) hn trivial;exact h
theorem qo {k l}(hk:l.length<k)(hl:qN l) id:lz k l id=some (fJ l id):=by
 unfold qN at hl;unfold lz;rw[Gl hk (by omega)];unfold jU fJ;cases hp:vE l id with
 |none=>rfl
 |some x=>
  have hx:=(iz hp).1;have e1:decide ((x:Int)<0)=false:=ai (by omega);have e2:decide ((0:Int)≤(x:Int))=true:=by simp
  have e3:decide ((x:Int)≤(l.length:Int))=true:=ag (by omega);have e4:decide ((0:Int)≤((x+1:Nat):Int))=true:=ag (by omega);have e5:decide (((x+1:Nat):Int)≤(l.length:Int))=true:=ag (by omega);have l1:=List.length_take_le x l;have l2:(l.drop (x+1)).length≤l.length:=by rw[List.length_drop];omega
  have e6:zR (0+(l.take x).length) 56=true:=qT (by omega) (by omega);have e7:zR ((l.take x).length+(l.drop (x+1)).length) 56=true:=qT (by omega) (by omega);simp only[ak,e3,e5,qD hx (show l.length<9223372036854775808 by omega),zW,ag hx,aC,e6,e7];rfl
theorem vDz (q p:zG):gL q p= !vV p q:=by
 unfold gL vV;rcases Int.lt_trichotomy q.2.1 p.2.1 with h|h|h
 ·have h1:¬p.2.1<q.2.1:=by omega
  have h2:¬p.2.1=q.2.1:=by omega
  simp[h,h1,h2]
 ·rcases Int.lt_trichotomy q.2.2.2.2.1 p.2.2.2.2.1 with g|g|g
  ·have g1:¬p.2.2.2.2.1≤q.2.2.2.2.1:=by omega
   simp[h,g,g1]
  ·simp[h,g]
  ·have g1:¬q.2.2.2.2.1<p.2.2.2.2.1:=by omega
   have g2:p.2.2.2.2.1≤q.2.2.2.2.1:=by omega
   simp[h,g1,g2]
 ·have h1:¬q.2.1<p.2.1:=by omega
  have h2:¬q.2.1=p.2.1:=by omega
  simp[h,h1,h2]
theorem Ls {k}{l:List zG}(hl:l.length≤1000){x}(hx:x≤l.length) y:xf k l x y.1 y.2.1 y.2.2.1 y.2.2.2.1 y.2.2.2.2.1 y.2.2.2.2.2.1 y.2.2.2.2.2.2=some (l.take x++(y::l.drop x)):=by
 unfold xf;have e1:(decide (0≤(x:Int))&&decide ((x:Int)≤((l.length:Nat):Int)))=true:=by simp_all
 have e2:zR (0+(l.take x).length) 56=true:=qT (by grind) (by grind);have e3:zR ((l.take x).length+1) 56=true:=qT (by grind) (by grind);rw[e1,aC,e2,e3];have e4:zR ((l.take x++[(y.1,(y.2.1,(y.2.2.1,(y.2.2.2.1,(y.2.2.2.2.1,(y.2.2.2.2.2.1,y.2.2.2.2.2.2))))))]).length+(l.drop x).length) 56=true:=qT (by grind) (by grind);grind
theorem Rt {k}{l:List zG}(hk:l.length<k)(hl:l.length≤1000) y:CG k l y.1 y.2.1 y.2.2.1 y.2.2.2.1 y.2.2.2.2.1 y.2.2.2.2.2.1 y.2.2.2.2.2.2=some (((l.takeWhile (fun q=>vV q y)).length:Nat):Int):=by
 have := BG (L := fun n i => CH k n l i y.1 y.2.1 y.2.2.1 y.2.2.2.1 y.2.2.2.2.1 y.2.2.2.2.2.1 y.2.2.2.2.2.2) (N := l.length) (fun x => vV (l.getD x pd) y) (fun i => (i : Int)) (fun n=>by
  show CI k _ l l.length _ _ _ _ _ _ _=_;unfold CI;simp) (fun n i hi=>by
  show CI k _ l i _ _ _ _ _ _ _=_;unfold CI;have h1:=Rr k (l.getD i pd) y;simp only[zW,qM,aC,ag hi,av,h1,ak,qD hi (by grind)]
  ) l.length 0 k (by omega) hk
 have e:((0:Nat):Int)=0:=rfl;unfold CG;have h':CH k k l 0 y.1 y.2.1 y.2.2.1 y.2.2.2.1 y.2.2.2.2.1 y.2.2.2.2.2.1 y.2.2.2.2.2.2=_:=this;rw[h',BH (fun q=>vV q y) l pd l.length 0 (by omega),List.drop_zero,Nat.zero_add];rfl
theorem vRd {k:Nat}{l:List zG}(hk:l.length<k)(hl:l.length≤1000)(p:zG):
  xg k l p.1 p.2.1 p.2.2.1 p.2.2.2.1 p.2.2.2.2.1 p.2.2.2.2.2.1 p.2.2.2.2.2.2=some (bif (vE l p.1).isSome then(l,6) else bif decide (40≤l.length) then(l,3) else(mf l p,0)):=by
 unfold xg;rw[Gl hk (by omega)];unfold jU;cases hp:vE l p.1 with
 |some x=>
  have e1:decide ((x:Int)≥0)=true:=ag (by omega);simp only[ak,e1,av,Option.isSome_some]
 |none=>
  have e1:decide ((-1:Int)≥0)=false:=rfl;simp only[ak,e1,ay,Option.isSome_none];by_cases h:40≤l.length
  ·rw[ag h,ag (show(l.length:Int)≥40 by omega)];rfl
  ·rw[ai h,ai (show¬(l.length:Int)≥40 by omega)];simp only[ay];rw[Rt hk hl p];simp only[ak];rw[Ls hl (wv _ l) p,(lx _ l).1,(lx _ l).2];rfl
theorem yVw {k l}(bI:l.length<k)(hl:qN l){id x}(hx:vE l id=some x) c:
  G6 k l id c=some (mf (qU l x) ((l.getD x pd).1,(l.getD x pd).2.1,(l.getD x pd).2.2.1,(l.getD x pd).2.2.2.1,c,(l.getD x pd).2.2.2.2.2.1,(l.getD x pd).2.2.2.2.2.2),0):=by
 have cS:=iz hx;have hlen:=lv cS.1;have dt:=hl;unfold qN at dt;unfold G6;rw[qo bI hl];unfold fJ;rw[hx];simp only[ak];have h1:=Rt (k:=k) (l:=qU l x) (by omega) (by omega) ((l.getD x pd).1,(l.getD x pd).2.1,(l.getD x pd).2.2.1,(l.getD x pd).2.2.2.1,c,(l.getD x pd).2.2.2.2.2.1,(l.getD x pd).2.2.2.2.2.2);rw[h1];simp only[ak];have h2:=Ls (k:=k) (l:=qU l x) (by omega) (wv (fun q=>vV q ((l.getD x pd).1,(l.getD x pd).2.1,(l.getD x pd).2.2.1,(l.getD x pd).2.2.2.1,c,(l.getD x pd).2.2.2.2.2.1,(l.getD x pd).2.2.2.2.2.2)) (qU l x)) ((l.getD x pd).1,(l.getD x pd).2.1,(l.getD x pd).2.2.1,(l.getD x pd).2.2.2.1,c,(l.getD x pd).2.2.2.2.2.1,(l.getD x pd).2.2.2.2.2.2);rw[h2,(lx _ (qU l x)).1,(lx _ (qU l x)).2];rfl
theorem vNs {k l}(bI:l.length<k)(hl:qN l){id x}(hx:vE l id=some x):
  G7 k l id=some (mf (qU l x) (l.getD x pd),0):=by
 have cS:=iz hx;have hlen:=lv cS.1;have dt:=hl;unfold qN at dt;unfold G7;rw[qo bI hl];unfold fJ;rw[hx];simp only[ak];rw[Rt (k:=k) (l:=qU l x) (by omega) (by omega) (l.getD x pd)];simp only[ak];rw[Ls (k:=k) (l:=qU l x) (by omega) (wv (fun q=>vV q (l.getD x pd)) (qU l x)) (l.getD x pd),(lx _ (qU l x)).1,(lx _ (qU l x)).2];rfl
theorem vQn {k l}(bI:l.length<k)(hl:qN l){id x}(hx:vE l id=some x):
  G8 k l id=some (Gr (qU l x) (l.getD x pd),0):=by
 have cS:=iz hx;have hlen:=lv cS.1;have dt:=hl;unfold qN at dt;have G9:∀(l:List zG),l.length<k→l.length≤1000→∀p:zG,Ha k k l 0 p=some (l,(((l.takeWhile (fun q=>gL q p)).length:Nat):Int),p):=by
  intro l bI hl p;have := BG (L := fun n i => Ha k n l i p) (N := l.length) (fun x => gL (l.getD x pd) p) (fun i => (l, (i : Int), p)) (fun n=>by
   show CJ k _ l l.length p=_;unfold CJ;simp) (fun n i hi=>by
   show CJ k _ l i p=_;unfold CJ;have h1:=Rr k p (l.getD i pd);simp only[zW,qM,aC,ag hi,h1,qD hi (by grind),vDz];rfl) l.length 0 k (by omega) bI
  have e:((0:Nat):Int)=0:=rfl;rw[e] at this;rw[this,BH (fun q=>gL q p) l pd l.length 0 (by omega),List.drop_zero,Nat.zero_add]
 unfold G8;rw[qo bI hl];unfold fJ;rw[hx];have h1:=G9 (qU l x) (by omega) (by omega) (l.getD x pd);refine(congrArg (fun z=>Option.bind z _) h1).trans ?_;simp only[ak];rw[Ls (k:=k) (l:=qU l x) (by omega) (wv (fun q=>gL q (l.getD x pd)) (qU l x)) (l.getD x pd),(lx _ (qU l x)).1,(lx _ (qU l x)).2];rfl
theorem vQj {k:Nat}{l:AC}(hk:l.length<k)(hl:l.length≤1000)(id:Int):xh k l id=some (decide (id∈l)):=by
 have := jK (L := fun n i => oL k n l id i) (N := l.length) (fun i => !decide (l.getD i 0 = id)) (.inl ()) (.inr true) (fun n=>by
  show oM k _ l id l.length=_;unfold oM;rw [ai (Int.lt_irrefl _)]; rfl) (fun n i hi=>by
  show oM k (oL k n) l id i=_;unfold oM;rw[ag (show(i:Int)<l.length by omega),zW,ag hi,aC,qD hi (by omega)];cases decide (l.getD i 0=id)<;>rfl) hk
 unfold xh;have h':oL k k l id 0=_:=this;rw[h'];have e:qA (fun i=> !decide (l.getD i 0=id)) l.length 0= !decide (id∈l):=by
  by_cases hm:id∈l
  ·rw[ag hm];cases ha:qA (fun i=> !decide (l.getD i 0=id)) l.length 0 with
   |false=>rfl
   |true=>
    obtain⟨i,hi,e⟩:=List.getElem_of_mem hm;have:=wI.1 ha i hi;rw[j9 l hi,e] at this;simp at this
  ·rw[ai hm];refine wI.2 fun i hi=>?_
   rw[ai (show¬l.getD i 0=id from fun e=>hm (by rw[←e];exact eO hi))];rfl
 rw[e];cases decide (id∈l)<;>rfl
theorem vD0 {k:Nat}{l:AC}(hk:l.length<k)(hl:l.length≤1000)(id:Int):
  xi k l id=some (bif decide (id∈l) then(l,6) else bif decide (200≤l.length) then(l,3) else(nh l id,0)):=by
 unfold xi;rw[vQj hk hl];simp only[ak];by_cases hm:id∈l
 ·rw[ag hm];rfl
 ·rw[ai hm];simp only[ay];by_cases h:200≤l.length
  ·rw[ag h,ag (show(l.length:Int)≥200 by omega)];rfl
  ·rw[ai h,ai (show¬(l.length:Int)≥200 by omega)];have := BG (L := fun n i => Hb k n l id i) (N := l.length) (fun x => decide (l.getD x 0 < id)) (fun i => (l, id, (i : Int))) (fun n=>by
    show CK k _ l id l.length=_;unfold CK;simp only [qM, ai (Nat.lt_irrefl _), ay]) (fun n i hi=>by
    show CK k _ l id i=_;unfold CK;simp only[zW,qM,aC,ag hi,av,qD hi (show l.length<9223372036854775808 by omega)];rfl) l.length 0 k (by omega) hk
   have e:((0:Nat):Int)=0:=rfl;rw[e,BH (fun x=>decide (x<id)) l 0 l.length 0 (by omega),List.drop_zero,Nat.zero_add] at this;have h':Hb k k l id 0=_:=this;simp only[ay];rw[h'];have hn:=wv (fun x=>decide (x<id)) l;obtain⟨t1,t2⟩:=lx (fun x=>decide (x<id)) l;have e1:(decide (0≤(((l.takeWhile (fun x=>decide (x<id))).length:Nat):Int))&&decide ((((l.takeWhile (fun x=>decide (x<id))).length:Nat):Int)≤((l.length:Nat):Int)))=true:=by simp;exact hn
   have hd:=(List.dropWhile_sublist (fun x=>decide (x<id)) (l:=l)).length_le;simp only[ak,e1,av,aC,t1,t2];rw[qT (n:=0+(l.takeWhile (fun x=>decide (x<id))).length) (by omega) (by omega),qT (n:=(l.takeWhile (fun x=>decide (x<id))).length+1) (by omega) (by omega),qT (n:=(l.takeWhile (fun x=>decide (x<id))++[id]).length+(l.dropWhile (fun x=>decide (x<id))).length) (by rw[List.length_append];simp;omega) (by rw[List.length_append];simp;omega)];simp only[av];unfold nh;simp
abbrev yWy:=Int×List mh×Int×Int×Int×Int×List qQ×wH×AC×wH×AC×wH×List zG×AC×Int×Bool×Int
def eW (r:qS)(s:qG)(who:Int):yWy:=(r.1,r.2.1,r.2.2.1,r.2.2.2.1,r.2.2.2.2,s.t,s.B.1,s.B.2.1,s.B.2.2.1,s.B.2.2.2,s.pr,s.ho,s.m,s.ids,s.to,s.ov,who)
def Lt (s:qG)(i:Nat)(a:qQ)(to:Int):qG:={s with B:=(s.B.1.set i a,s.B.2.1,s.B.2.2.1,s.B.2.2.2),to:=to}
def Hc (s:qG)(i:Nat)(n:Int):Int×qG:=
 bif decide ((s.B.1.getD i ad).1+(s.B.1.getD i ad).2.1-(s.B.1.getD i ad).2.2<n) then(9,s)
 else bif decide (s.to-n<0) then(9,s)
 else bif !decide ((wM (s.B.1.getD i ad) (-n)).2=0) then((wM (s.B.1.getD i ad) (-n)).2,s)
 else bif decide (s.to-n>1152921504606846976) then(8,s)
 else(0,Lt s i (wM (s.B.1.getD i ad) (-n)).1 (s.to-n))
def Hd (s:qG)(i:Nat)(n:Int):Int×qG:=
 bif !decide ((wM (s.B.1.getD i ad) n).2=0) then((wM (s.B.1.getD i ad) n).2,s)
 else bif decide (s.to+n>1152921504606846976) then(8,s)
 else(0,Lt s i (wM (s.B.1.getD i ad) n).1 (s.to+n))
def iG (r:qS)(s:qG)(kd to n:Int):Int×qG:=
 bif !(decide (to≥0)&&decide (to≤r.1-1)) then(1,s)
 else bif !(decide (n≥1)&&decide (n≤1099511627776)) then(1,s)
 else bif decide (kd=11) then Hc s to.toNat n else Hd s to.toNat n
theorem yY8 {k}(hk:1000≤k){r}(hr:wT r){s}(h:yO r s) who kd to n:
    ∃d,CL k (eW r s who) kd to n=some ((iG r s kd to n).1,d)∧((iG r s kd to n).1=0→d=dk r (iG r s kd to n).2 who []):=by
  have hp:=hr.pa;have hn:=h.n;have ht:=h.tot;have w1:zA (r.1-1)=r.1-1:=zN (by omega) (by omega);have eD:CL k (eW r s who) kd to n=(yW k to 0 (zA (r.1-1))).bind fun x0=>
    bif !x0 then some (1,dk r s who [])
    else(yW k n 1 1099511627776).bind fun x1=>
    bif !x1 then some (1,dk r s who [])
    else bif zC to s.B.1.length then ((CM k (s.B.1.getD to.toNat (0,0,0)) n).bind fun x2=>
      bif decide (kd = 11) then ((CN k (s.B.1.getD to.toNat (0,0,0)) n 3).bind fun x3=>
       (CO k (s.B.1.getD to.toNat (0,0,0)) 3).bind fun x4=>
       bif decide (x4<n) then some (9,dk r s who [])
       else bif decide ((zA (s.to-n))<0) then some (9,dk r s who [])
       else bif !(decide (x3.2=0)) then some (x3.2,dk r s who [])
       else bif decide ((zA (s.to-n))>1152921504606846976) then some (8,dk r s who [])
       else(eP k s.B.1 s.B.2.1 s.B.2.2.1 s.B.2.2.2).bind fun x5=>
       bif zC to x5.1.length then some (0,dk r {s with B:=(x5.1.set to.toNat x3.1,x5.2.1,x5.2.2.1,x5.2.2.2),to:=zA (s.to-n)} who [])
       else none)
      else bif !(decide (x2.2=0)) then some (x2.2,dk r s who [])
      else bif decide ((zA (s.to+n))>1152921504606846976) then some (8,dk r s who [])
      else(eP k s.B.1 s.B.2.1 s.B.2.2.1 s.B.2.2.2).bind fun x6=>
      bif zC to x6.1.length then some (0,dk r {s with B:=(x6.1.set to.toNat x2.1,x6.2.1,x6.2.2.1,x6.2.2.2),to:=zA (s.to+n)} who [])
      else none)
    else none:=rfl
  rw[eD,w1,kK,kK,FL (by omega) h.bk.toSized];simp only[ak];unfold iG;cases hc:decide (to≥0)&&decide (to≤r.1-1) with
  |false=>exact by simp
  |true=>
  simp only[bJ,bO] at hc;cases hm:decide (n≥1)&&decide (n≤1099511627776) with
  |false=>exact by simp
  |true=>
  simp only[bJ,bO] at hm;obtain⟨i,rfl⟩:=Int.eq_ofNat_of_zero_le hc.1;have hi:i<s.B.1.length:=by omega
  have hb:=h.bk.nums.bal i hi;have ir:=h.bk.nums.res i hi;have hcr:=h.most i hi;have Ru:0≤(s.B.1.getD i ad).2.1:=by rw[h.cred i hi];exact BV (h.laid i hi)
  have b0:zC (i:Int) s.B.1.length=true:=by rw[zW,ag hi]
  have He:CM k (s.B.1.getD i (0,0,0)) n=some (wM (s.B.1.getD i ad) n):=by
    unfold CM;rw[ySp hb (by omega)];rfl
  have Hf:CN k (s.B.1.getD i (0,0,0)) n 3=some (wM (s.B.1.getD i ad) (-n)):=by
    unfold CN;rw[show zA (0-n)= -n by rw[zN (by omega) (by omega)];omega,ySp hb (by omega)];simp
  have tG:CO k (s.B.1.getD i (0,0,0)) 3=some ((s.B.1.getD i ad).1+(s.B.1.getD i ad).2.1-(s.B.1.getD i ad).2.2):=by
    unfold CO;have d1:decide ((3:Int)=3)=true:=rfl;rw[d1,av];have q1:zA ((s.B.1.getD i (0,0,0)).1+(s.B.1.getD i (0,0,0)).2.1)=(s.B.1.getD i ad).1+(s.B.1.getD i ad).2.1:=zN (by simp only[ad] at*;omega) (by simp only[ad] at*;omega);rw[q1];exact congrArg some (zN (by simp only[ad] at*;omega) (by simp only[ad] at*;omega))
  have q2:zA (s.to-n)=s.to-n:=zN (by omega) (by omega);have q3:zA (s.to+n)=s.to+n:=zN (by omega) (by omega);simp only[bG,ay,b0,av,aC,He,Hf,tG,ak,q2,q3];clear He Hf tG eD;cases decide (kd=11) with
  |true=>
    simp only[av];unfold Hc;cases decide ((s.B.1.getD i ad).1+(s.B.1.getD i ad).2.1-(s.B.1.getD i ad).2.2<n) with
    |true=>exact by simp
    |false=>
    cases decide (s.to-n<0) with
    |true=>exact by simp
    |false=>
    cases hz:decide ((wM (s.B.1.getD i ad) (-n)).2=0) with
    |false=>exact by simp
    |true=>
    cases decide (s.to-n>1152921504606846976) with
    |true=>exact by simp
    |false=>exact⟨_,rfl,fun _=>rfl⟩
  |false=>
    simp only[ay];unfold Hd;cases hz:decide ((wM (s.B.1.getD i ad) n).2=0) with
    |false=>exact by simp
    |true=>
    cases decide (s.to+n>1152921504606846976) with
    |true=>exact by simp
    |false=>exact⟨_,rfl,fun _=>rfl⟩
def jV (sa:List mh)(pr:AC)(ho:wH)(j:Nat):Int:=gM sa pr (ho.getD j [])
def qp (sa:List mh)(pr:AC)(ho:wH)(a:List qQ):List qQ:=(List.range a.length).map fun j=>((a.getD j ad).1,jV sa pr ho j,(a.getD j ad).2.2)
def CP (r:qS)(s:qG)(pr:AC):Int×qG:=
 bif qA (fun j=> !decide (jV r.2.1 pr s.ho j>1152921504606846976)) s.B.1.length 0 then(0,{s with B:=(qp r.2.1 pr s.ho s.B.1,s.B.2.1,s.B.2.2.1,s.B.2.2.2),pr:=pr}) else(8,s)
def iH (r:qS)(s:qG)(a p:Int):Int×qG:=
 bif !(decide (a≥0)&&decide (a≤(r.2.1.length:Int)-1)) then(1,s)
 else bif !(decide (p≥0)&&decide (p≤1048576)) then(1,s)
 else CP r s (s.pr.set a.toNat p)
theorem Rv sa pr ho a:(qp sa pr ho a).length=a.length:=by simp[qp]
theorem Rw sa pr ho a {j}(hj:j<a.length):(qp sa pr ho a).getD j ad=((a.getD j ad).1,jV sa pr ho j,(a.getD j ad).2.2):=by
 unfold qp;simp_all
theorem yWh {k:Nat}(hk:1000≤k){r:qS}{s:qG}(who:Int){pr:AC}(hL:∀i,i<s.B.1.length→gO r.2.1 pr (s.ho.getD i []))(hol:s.ho.length=s.B.1.length)(eQ:s.B.1.length≤6):
  (qA (fun j=> !decide (jV r.2.1 pr s.ho j>1152921504606846976)) s.B.1.length 0=true∧qq k k s.ho s.ho.length 0 (eW r s who) pr s.B.1 s.B.2.1 s.B.2.2.1 s.B.2.2.2=some (.inl (eW r s who,pr,qp r.2.1 pr s.ho s.B.1,s.B.2.1,s.B.2.2.1,s.B.2.2.2)))∨
  (qA (fun j=> !decide (jV r.2.1 pr s.ho j>1152921504606846976)) s.B.1.length 0=false∧qq k k s.ho s.ho.length 0 (eW r s who) pr s.B.1 s.B.2.1 s.B.2.2.1 s.B.2.2.2=some (.inr (8,eW r s who))):=by
 rw[hol];have:=Km (L:=fun n i (a:List qQ)=>qq k n s.ho s.B.1.length i (eW r s who) pr a s.B.2.1 s.B.2.2.1 s.B.2.2.2) (N:=s.B.1.length) (fun j=> !decide (jV r.2.1 pr s.ho j>1152921504606846976))
  (fun a=>.inl (eW r s who,pr,a,s.B.2.1,s.B.2.2.1,s.B.2.2.2)) (.inr (8,eW r s who))
  (fun i a => a.length = s.B.1.length ∧ ∀ j, j < s.B.1.length → a.getD j ad = if j < i then ((s.B.1.getD j ad).1, jV r.2.1 pr s.ho j, (s.B.1.getD j ad).2.2) else s.B.1.getD j ad) (fun n a _=>by
   show CQ k _ s.ho s.B.1.length s.B.1.length (eW r s who) pr a s.B.2.1 s.B.2.2.1 s.B.2.2.2=_;unfold CQ;simp only [qM, ai (Nat.lt_irrefl _), ay]) (fun n i a hi ha=>by
   have hv:=QV (k:=k) (hL i hi) (by omega);have aH:qq k (n+1) s.ho s.B.1.length i (eW r s who) pr a s.B.2.1 s.B.2.2.1 s.B.2.2.2=bif decide (jV r.2.1 pr s.ho i>1152921504606846976) then some (.inr (8,eW r s who)) else qq k n s.ho s.B.1.length ((i+1:Nat):Int) (eW r s who) pr (a.set i ((a.getD i ad).1,jV r.2.1 pr s.ho i,(a.getD i ad).2.2)) s.B.2.1 s.B.2.2.1 s.B.2.2.2:=by
    show CQ k _ s.ho s.B.1.length i (eW r s who) pr a s.B.2.1 s.B.2.2.1 s.B.2.2.2=_;unfold CQ;have fS:oE k (eW r s who).2.1 pr (s.ho.getD i [])=some (jV r.2.1 pr s.ho i,true):=hv;simp only[qM,zW,aC,ag hi,ag (show i<s.ho.length by omega),ag (show i<a.length by rw[ha.1];exact hi),av,fS,ak,bG,ay,qD hi (show s.B.1.length<9223372036854775808 by omega)];rfl
   refine⟨fun ho=>?_,fun ho=>?_⟩
   ·have h1:decide (jV r.2.1 pr s.ho i>1152921504606846976)=false:=by simpa using ho
    refine⟨_,by rw[aH,h1];rfl,by rw[List.length_set];exact ha.1,fun j hj=>?_⟩;rw[jD];by_cases e:i=j
    ·subst e;rw[if_pos ⟨rfl,by rw[ha.1];exact hi⟩,if_pos (by omega),ha.2 i hi,if_neg (Nat.lt_irrefl _)]
    ·rw[if_neg (by omega),ha.2 j hj];by_cases h:j<i
     ·rw[if_pos h,if_pos (by omega)]
     ·rw[if_neg h,if_neg (by omega)]
   ·have h1:decide (jV r.2.1 pr s.ho i>1152921504606846976)=true:=by simpa using ho
    rw[aH,h1];rfl) s.B.1.length 0 k s.B.1 (by omega) (by omega) ⟨rfl,fun j _=>by rw[if_neg (Nat.not_lt_zero _)]⟩
 rcases this with⟨h1,a,h2,h3,h4⟩|⟨h1,h2⟩
 ·refine .inl ⟨h1,?_⟩;have e:a=qp r.2.1 pr s.ho s.B.1:=Av ad (by rw[h3,Rv]) fun j hj=>by
   rw[h3] at hj;rw[h4 j hj,if_pos hj,Rw _ _ _ _ hj]
  rw[←e];exact h2
 ·exact .inr ⟨h1,h2⟩
theorem vJg {k:Nat}(hk:1000≤k){r:qS}(hr:wT r){s:qG}(h:yO r s)(who a p:Int):
  ∃d,Lu k (eW r s who) a p=some ((iH r s a p).1,d)∧((iH r s a p).1=0→d=dk r (iH r s a p).2 who []):=by
 have h3:=hr.n3;have eQ:=h.bk.n6;have kC:=h.bk.n1;have w1:zA ((r.2.1.length:Int)-1)=(r.2.1.length:Int)-1:=zN (by omega) (by omega);have eD:Lu k (eW r s who) a p=((yW k a 0 (zA ((r.2.1.length:Int)-1))).bind fun x0=>some x0).bind fun x0=>
  bif !x0 then some (1,dk r s who [])
  else(yW k p 0 1048576).bind fun x1=>
  bif !x1 then some (1,dk r s who [])
  else(nj k s.pr a p).bind fun x2=>
  (eP k s.B.1 s.B.2.1 s.B.2.2.1 s.B.2.2.2).bind fun x3=>
  (qq k k s.ho (s.ho.length:Int) 0 (eW r s who) x2 x3.1 x3.2.1 x3.2.2.1 x3.2.2.2).bind fun z=>
  match z with
  |.inl z1=>some (0,(wJ z1.1 (xj z1 (z1.2.1,(Rx z1.1 [])))))
  |.inr z2=>some (jL z2 []):=rfl
 rw[eD,w1,kK,kK,FL (by omega) h.bk.toSized];simp only[ak];unfold iH;cases hc:decide (a≥0)&&decide (a≤(r.2.1.length:Int)-1) with
 |false=>exact⟨_,rfl,fun e=>by cases e⟩
 |true=>
 simp only[bJ,bO] at hc;cases hm:decide (p≥0)&&decide (p≤1048576) with
 |false=>exact⟨_,rfl,fun e=>by cases e⟩
 |true=>
 simp only[bJ,bO] at hm;obtain⟨i,rfl⟩:=Int.eq_ofNat_of_zero_le hc.1;have hi:i<r.2.1.length:=by omega
 have L0:=h.laid 0 (by omega);have j8:nj k s.pr (i:Int) p=some (s.pr.set i p):=by
  have:=yL4 (k:=k) (l:=s.pr) (by rw[L0.pl];omega) (i:=(i:Int)) (by omega) (by rw[L0.pl];omega) p;rw[aC] at this;exact this
 simp only[bG,ay,j8,ak,aC];unfold CP;rcases yWh (r:=r) (s:=s) hk who (pr:=s.pr.set i p) (fun j hj=>(h.laid j hj).setP hi ⟨by omega,by omega⟩) h.hol eQ with⟨g1,g2⟩|⟨g1,g2⟩
 ·rw[g2,g1];exact⟨_,rfl,fun _=>rfl⟩
 ·rw[g2,g1];exact⟨_,rfl,fun e=>by cases e⟩
theorem Hg {q p}:vV q p=true↔q.2.1<p.2.1∨(q.2.1=p.2.1∧q.2.2.2.2.1≤p.2.2.2.2.1):=by
 unfold vV;simp
theorem Ry {q p}:gL q p=true↔q.2.1<p.2.1∨(q.2.1=p.2.1∧q.2.2.2.2.1<p.2.2.2.2.1):=by
 unfold gL;simp
theorem yL1 {a b c}(h:vV a b=true)(g:vV b c=true):vV a c=true:=by
 rw[Hg] at*;omega
theorem yW1 {a b}(h:¬vV a b=true):vV b a=true:=by
 rw[Hg] at*;omega
theorem vFm {a b}(h:gL a b=true):vV a b=true:=by
 rw[Ry] at h;rw[Hg];omega
theorem vKv {a b}(h:¬gL a b=true):vV b a=true:=by
 rw[Ry] at h;rw[Hg];omega
theorem yCz f l (p:zG):List.Perm (l.takeWhile f++(p::l.dropWhile f)) (p::l):=by
 have:=List.perm_middle (a:=p) (l₁:=l.takeWhile f) (l₂:=l.dropWhile f);simp_all
theorem qY1 {l:List zG}(hs:kJ l)(p:zG)(f:zG→Bool)(h1:∀q,f q=true→vV q p=true)(h2:∀q,¬f q=true→vV p q=true):kJ (l.takeWhile f++(p::l.dropWhile f)):=by
 have uR:=hs;unfold kJ at hs uR⊢;rw[←List.takeWhile_append_dropWhile (p:=f) (l:=l)] at hs;obtain⟨a1,a2,a3⟩:=List.pairwise_append.1 hs;have Rz:∀q∈l.takeWhile f,f q=true:=fun q hq=>List.all_eq_true.1 (List.all_takeWhile (p:=f) (l:=l)) q hq
 have RA:∀q∈l.dropWhile f,vV p q=true:=by
  cases hd:l.dropWhile f with
  |nil=>intro q hq;cases hq
  |cons x m=>
   have hx:¬f x=true:=by
    have bj:l.dropWhile f≠[]:=by rw[hd];simp
    have:=List.head_dropWhile_not f bj;have e:(l.dropWhile f).head bj=x:=by simp only[hd,List.head_cons]
    rw[e] at this;simp[this]
   intro q hq;rcases List.mem_cons.1 hq with rfl|hq
   ·exact h2 _ hx
   ·rw[hd] at a2;exact yL1 (h2 x hx) ((List.pairwise_cons.1 a2).1 q hq)
 refine List.pairwise_append.2 ⟨a1,List.pairwise_cons.2 ⟨RA,a2⟩,fun a ha b hb=>?_⟩;rcases List.mem_cons.1 hb with rfl|hb
 ·exact h1 a (Rz a ha)
 ·exact a3 a ha b hb
theorem RB {l}(hs:kJ l) p:kJ (mf l p):=qY1 hs p _ (by simp) (fun _ h=>yW1 h)
theorem vNx {l}(hs:kJ l) p:kJ (Gr l p):=qY1 hs p _ (fun _ h=>vFm h) (fun _ h=>vKv h)
theorem RD l p:List.Perm (mf l p) (p::l):=yCz _ l p
theorem vFe l p:List.Perm (Gr l p) (p::l):=yCz _ l p
theorem kJ.cut {l}(h:kJ l) x:kJ (qU l x):=List.Pairwise.sublist (qa l x) h
theorem vAb {l:AC}(ha:ng l){id:Int}(hn:id∉l):ng (nh l id):=by
 unfold nh;have nG:=ha;unfold ng at ha nG⊢;rw[←List.takeWhile_append_dropWhile (p:=fun x=>decide (x<id)) (l:=l)] at ha;obtain⟨a1,a2,a3⟩:=List.pairwise_append.1 ha;have Rz:∀q∈l.takeWhile (fun x=>decide (x<id)),q<id:=fun q hq=>by simpa using List.all_eq_true.1 (List.all_takeWhile (p:=fun x=>decide (x<id)) (l:=l)) q hq
 have RA:∀q∈l.dropWhile (fun x=>decide (x<id)),id<q:=by
  cases hd:l.dropWhile (fun x=>decide (x<id)) with
  |nil=>intro q hq;cases hq
  |cons x m=>
   have uQ:x∈l:=(List.dropWhile_sublist _).subset (by rw[hd];exact List.mem_cons_self ..);have hx:¬x<id:=by
    have bj:l.dropWhile (fun x=>decide (x<id))≠[]:=by rw[hd];simp
    have:=List.head_dropWhile_not (fun x=>decide (x<id)) bj;have e:(l.dropWhile (fun x=>decide (x<id))).head bj=x:=by simp only[hd,List.head_cons]
    rw[e] at this
    simpa using this
   have bj:x≠id:=fun e=>hn (e▸uQ)
   intro q hq;rcases List.mem_cons.1 hq with rfl|hq
   ·omega
   ·rw[hd] at a2;have:=(List.pairwise_cons.1 a2).1 q hq;omega
 refine List.pairwise_append.2 ⟨a1,List.pairwise_cons.2 ⟨RA,a2⟩,fun a ha b hb=>?_⟩;rcases List.mem_cons.1 hb with rfl|hb
 ·exact Rz a ha
 ·exact a3 a ha b hb
theorem yTi l id:List.Perm (nh l id) (id::l):=by
 have:=List.perm_middle (a:=id) (l₁:=l.takeWhile (fun x=>decide (x<id))) (l₂:=l.dropWhile (fun x=>decide (x<id)))
 rwa [List.takeWhile_append_dropWhile] at this
theorem gP.sub {n m m' ids}(h:gP n m ids)(hs:List.Sublist m' m):gP n m' ids:=
 ⟨List.Pairwise.sublist hs h.dist,by have:=hs.length_le;have:=h.len;omega,List.Pairwise.sublist hs h.sort,fun p hp=>h.may p (by grind),fun p hp=>h.time p (by grind),fun p hp=>h.were p (by grind),h.asc,h.pos,h.idl⟩
theorem gP.turn {n:Nat}{m:List zG}{ids:AC}(h:gP n m ids){x:Nat}(hx:x<m.length){p:zG}{m':List zG}(hp:List.Perm m' (p::qU m x))(hs:kJ m')(h1:p.1=(m.getD x pd).1)
  (h2:qY n p) (h3:0≤p.2.2.2.2.2.1∧p.2.2.2.2.2.1≤p.2.2.2.2.2.2∧p.2.2.2.2.2.2≤1048576):gP n m' ids:=by
 have hc:=qa m x;have hl:=lv hx;have hd:qI (p::qU m x):=by
  refine List.pairwise_cons.2 ⟨fun q hq=>?_,h.dist.cut x⟩;rw[h1];have hd:=h.dist;unfold qI at hd;rw[KC m x pd hx] at hd;have Gu:=List.pairwise_append.1 hd;have QP:=List.pairwise_cons.1 Gu.2.1;unfold qU at hq;rcases List.mem_append.1 hq with hq|hq
  ·exact fun e=>Gu.2.2 _ hq _ (List.mem_cons_self ..) e.symm
  ·exact QP.1 _ hq
 have hlen:=hp.length_eq;rw[List.length_cons] at hlen;refine⟨hd.perm hp,by have:=h.len;omega,hs,fun q hq=>?_,fun q hq=>?_,fun q hq=>?_,h.asc,h.pos,h.idl⟩;all_goals rcases List.mem_cons.1 (hp.subset hq) with rfl|mg
 ·exact h2
 ·exact h.may q (hc.subset mg)
 ·exact h3
 ·exact h.time q (hc.subset mg)
 ·rw[h1];exact h.were _ (eO hx)
 ·exact h.were q (hc.subset mg)
theorem vPj {r:qS}{s:qG}(hr:wT r)(h:yO r s){who:Int}{f:jG}(h0:(gf r s who f).1=0):gP s.B.1.length (gf r s who f).2.1 (gf r s who f).2.2:=by
 have hw:=h.waits;have hn:=h.n;have ht:=h.tk;unfold gf at h0⊢;cases hc:decide (f.2.2.1≥0)&&decide (f.2.2.1≤r.1-1) with
 |false=>rw[hc] at h0;cases h0
 |true=>
 cases cU:decide (f.2.2.2.2.1≥1)&&decide (f.2.2.2.2.1≤3) with
 |false=>rw[hc,cU] at h0;cases h0
 |true=>
 cases dB:decide (kL r s.t (jQ who f)=0) with
 |false=>rw[hc,cU,dB] at h0;exact absurd h0 (oq dB)
 |true=>
 cases fg:decide (f.2.1∈s.ids) with
 |true=>rw[hc,cU,dB,fg] at h0;cases h0
 |false=>
 cases kD:decide (200≤s.ids.length) with
 |true=>rw[hc,cU,dB,fg,kD] at h0;cases h0
 |false=>
 cases An:(vE s.m f.2.1).isSome with
 |true=>rw[hc,cU,dB,fg,kD,An] at h0;cases h0
 |false=>
 cases Ao:decide (40≤s.m.length) with
 |true=>rw[hc,cU,dB,fg,kD,An,Ao] at h0;cases h0
 |false=>
 show gP s.B.1.length (mf s.m (jQ who f)) (nh s.ids f.2.1);have Jc:f.2.1∉s.ids:=oq fg;have hi:=oq kD;have hm:=oq Ao;have xk:=PZ dB;have RE:iC r.1 s.t (jQ who f)=true:=by
  unfold kL at xk;cases hb:iC r.1 s.t (jQ who f) with
  |true=>rfl
  |false=>rw[hb] at xk;cases xk
 unfold iC at RE;simp only[bJ,bO,Bool.not_eq_true',decide_eq_false_iff_not] at RE;obtain⟨⟨p1,p2⟩,⟨p3,p4⟩,p5,p6,p7,p8,p9,pN,p11,p12,p13,p14⟩:=RE;have tE:=RD s.m (jQ who f);have Lv:=yTi s.ids f.2.1;have hlen:=tE.length_eq;have mS:=Lv.length_eq;rw[List.length_cons] at hlen mS;have bK:qY s.B.1.length (jQ who f):=⟨p1,by omega,p3,by omega,p9,p6,p7,p8,pN⟩;have dZ:∀x,x∈s.ids→x∈nh s.ids f.2.1:=fun x hx=>Lv.symm.subset (List.mem_cons_of_mem _ hx)
 have Hh:qI (jQ who f::s.m):=List.pairwise_cons.2 ⟨fun q hq e=>Jc (by have:=hw.were q hq;rw[←e] at this;exact this),hw.dist⟩;refine⟨Hh.perm tE,by omega,RB hw.sort _,fun q hq=>?_,fun q hq=>?_,fun q hq=>?_,vAb hw.asc Jc,fun x hx=>?_,by omega⟩
 ·rcases List.mem_cons.1 (tE.subset hq) with rfl|mg
  ·exact bK
  ·exact hw.may q mg
 ·rcases List.mem_cons.1 (tE.subset hq) with rfl|mg
  ·exact⟨p11,p12,p14⟩
  ·exact hw.time q mg
 ·rcases List.mem_cons.1 (tE.subset hq) with rfl|mg
  ·exact Lv.symm.subset (List.mem_cons_self ..)
  ·exact dZ _ (hw.were q mg)
 ·rcases List.mem_cons.1 (Lv.subset hx) with rfl|mE
  ·exact p5
  ·exact hw.pos x mE
theorem vLu {r s}(h:yO r s){who f}(h0:(iD r s who f).1=0):gP s.B.1.length (iD r s who f).2.1 s.ids:=by
 have hw:=h.waits;unfold iD at h0⊢;cases hx:vE s.m f.2.1 with
 |none=>omega
 |some x=>
 rw[hx] at h0;have cS:=(iz hx).1;have dD:s.m.getD x pd∈s.m:=by grind
 have hm:=hw.may _ dD;have ht:=hw.time _ dD;simp only at h0⊢;cases hc:decide ((s.m.getD x pd).2.1=who) with
 |false=>simp_all
 |true=>
 cases cU:decide (f.1=2) with
 |true=>exact hw.sub (qa _ _)
 |false=>
 cases dB:decide (f.1=4) with
 |true=>
  cases fg:decide (f.2.2.1≥1)&&decide (f.2.2.1≤3) with
  |false=>simp_all
  |true=>
  cases kD:decide (np r.2.2.1 r.2.2.2.1 s.t f.2.2.1=0) with
  |false=>simp_all
  |true=>
  simp  at fg;obtain⟨m1,m2,m3,m4,m5,m6,m7,m8,m9⟩:=hm;exact hw.turn cS (RD _ _) (RB (hw.sort.cut x) _) rfl ⟨m1,m2,m3,m4,m5,m6,m7,fg.1,fg.2⟩ ht
 |false=>
  cases fg:decide (f.2.2.1=0) with
  |true=>exact hw.turn cS (vFe _ _) (vNx (hw.sort.cut x) _) rfl hm ht
  |false=>
   cases kD:decide (f.2.2.1=1) with
   |true=>exact hw.turn cS (RD _ _) (RB (hw.sort.cut x) _) rfl hm ht
   |false=>simp_all
theorem yDx {n}(h:-1≤n∧n≤1152921504606846976):vZ n=true:=by
 unfold vZ;grind
theorem oN {a}:jE a=true↔(-4611686018427387904<a.1∧a.1<4611686018427387904)∧(0≤a.2.1∧a.2.1≤2305843009213693952)∧(0≤a.2.2∧a.2.2≤2305843009213693952):=by
 unfold jE;grind
theorem wB.setBil {a}{b:wH}{m}{p:wH}(h:wB a b m p){w i}(hw:w<a.length)(hi:i<a.length){n}(hn:-1≤n∧n≤1152921504606846976):wB a (b.set w ((b.getD w []).set i n)) m p:=
  { h with
    bl:=by rw[List.length_set];exact h.bl
    br:=fun j hj=>by
      rw[jD];split
      · rw[List.length_set];exact h.br w hw
      · exact h.br j hj
    bil:=fun j hj k hk=>by
      unfold cell;rw[jD];split
      · rw[jD];split
        · exact yDx hn
        · exact h.bil w hw k hk
      · exact h.bil j hj k hk}
theorem wB.setMul {a}{b:wH}{m}{p:wH}(h:wB a b m p) w {n}(hn:-1≤n∧n≤1152921504606846976):wB a b (m.set w n) p:=
  { h with
    ml:=by rw[List.length_set];exact h.ml
    mul:=fun j hj=>by
      rw[jD];split
      · exact yDx hn
      · exact h.mul j hj}
theorem wB.setAcct {a}{b:wH}{m}{p:wH}(h:wB a b m p){a'}(hl:a'.length=a.length)(ha:∀i,i<a.length→jE (a'.getD i ad)=true):wB a' b m p where
 n1:=by rw[hl];exact h.n1
 n6:=by rw[hl];exact h.n6
 bl:=by rw[hl];exact h.bl
 br:=by rw[hl];exact h.br
 ml:=by rw[hl];exact h.ml
 pl:=by rw[hl];exact h.pl
 pr:=by rw[hl];exact h.pr
 mul:=by rw[hl];exact h.mul
 bil:=by rw[hl];exact h.bil
 acct:=by simp_all
 net:=by rw[hl];exact h.net
 turn:=by rw[hl];exact h.turn
theorem yUw {n g i}(hi:i<n) d:qE (fun j=>if j=i then g j+d else g j) n=qE g n+d:=by
 have e:qE (fun j=>if j=i then g j+d else g j) n=qE (fun j=>g j+(if j=i then d else 0)) n:=by grind
 rw[e,Au,vz,if_pos hi]
theorem yO.books {r s}(h:yO r s){B}(hb:qL B)(hl:B.1.length=s.B.1.length)(nc:∀i,i<s.B.1.length→(B.1.getD i ad).1=(s.B.1.getD i ad).1)(hc:∀i,i<s.B.1.length→(B.1.getD i ad).2.1=(s.B.1.getD i ad).2.1):yO r {s with B:=B} where
 tk:=h.tk
 bk:=hb
 n:=by rw[hl];exact h.n
 hol:=by rw[hl];exact h.hol
 laid:=by rw[hl];exact h.laid
 cred:=by rw[hl];intro i hi;rw[hc i hi];exact h.cred i hi
 most:=by rw[hl];intro i hi;rw[hc i hi];exact h.most i hi
 waits:=by rw[hl];exact h.waits
 sum:=by rw[hl,ou nc];exact h.sum
 tot:=h.tot
 over:=h.over
 none:=h.none
theorem yO.queue {r s}(h:yO r s)(ho:s.ov=false){m ids}(hw:gP s.B.1.length m ids):yO r {s with m:=m,ids:=ids} where
 tk:=h.tk
 bk:=h.bk
 n:=h.n
 hol:=h.hol
 laid:=h.laid
 cred:=h.cred
 most:=h.most
 waits:=hw
 sum:=h.sum
 tot:=h.tot
 over:=h.over
 none:=by grind
theorem vDn {r:qS}{s:qG}(h:yO r s){who:Int}(hw:0≤who∧who<r.1){f:jG}(h0:(iE r s who f).1=0):yO r (iE r s who f).2:=by
 have hn:=h.n;have hb:wB s.B.1 s.B.2.1 s.B.2.2.1 s.B.2.2.2:=h.bk;obtain⟨w,rfl⟩:=Int.eq_ofNat_of_zero_le hw.1;have eS:w<s.B.1.length:=by omega
 unfold iE at h0⊢;cases hc:decide (f.1=5) with
 |true=>
  rw[hc] at h0;simp only[av] at h0⊢;cases cU:decide (f.2.1≥0)&&decide (f.2.1≤r.1-1) with
  |false=>rw[cU] at h0;cases h0
  |true=>
  cases dB:decide (f.2.1=(w:Int)) with
  |true=>rw[cU,dB] at h0;cases h0
  |false=>
  cases fg:decide (f.2.2.1≥-1)&&decide (f.2.2.1≤1152921504606846976) with
  |false=>rw[cU,dB,fg] at h0;cases h0
  |true=>
  simp only[bJ,bO] at cU fg;exact h.books (B:=(s.B.1,s.B.2.1.set w ((s.B.2.1.getD w []).set f.2.1.toNat f.2.2.1),s.B.2.2.1,s.B.2.2.2)) (hb.setBil eS (by omega) (by grind)) rfl (by simp) (by simp)
 |false=>
  rw[hc] at h0;simp only[ay] at h0⊢;cases cU:decide (f.1=6) with
  |true=>
   rw[cU] at h0;simp only[av] at h0⊢;cases dB:decide (f.2.1≥-1)&&decide (f.2.1≤1152921504606846976) with
   |false=>rw[dB] at h0;cases h0
   |true=>
   simp only[bJ,bO] at dB;exact h.books (B:=(s.B.1,s.B.2.1,s.B.2.2.1.set w f.2.1,s.B.2.2.2)) (hb.setMul w (by grind)) rfl (fun _ _=>rfl) (by simp)
  |false=>
   rw[cU] at h0;simp only[ay] at h0⊢;cases dB:decide (f.2.1≥0)&&decide (f.2.1≤1152921504606846976) with
   |false=>rw[dB] at h0;cases h0
   |true=>
   have hg:∀i,(s.B.1.set w ((s.B.1.getD w ad).1,(s.B.1.getD w ad).2.1,f.2.1)).getD i ad=if i=w then((s.B.1.getD w ad).1,(s.B.1.getD w ad).2.1,f.2.1) else s.B.1.getD i ad:=by grind
   refine h.books (B:=(s.B.1.set w ((s.B.1.getD w ad).1,(s.B.1.getD w ad).2.1,f.2.1),s.B.2.1,s.B.2.2.1,s.B.2.2.2)) (hb.setAcct (by rw[List.length_set]) fun i hi=>?_) (by simp) (fun i hi=>?_) (fun i hi=>?_)
   ·rw[hg];split
    ·have:=oN.1 (hb.acct w eS);rw[oN];grind
    ·exact hb.acct i hi
   all_goals grind
theorem vRv {r}(hr:wT r){s}(h:yO r s){who}(hw:0≤who∧who<r.1){a many}(h0:(iF r s who a many).1=0):yO r (iF r s who a many).2:=by
  have hn:=h.n;have hb:wB s.B.1 s.B.2.1 s.B.2.2.1 s.B.2.2.2:=h.bk;obtain⟨w,rfl⟩:=Int.eq_ofNat_of_zero_le hw.1;have eS:w<s.B.1.length:=by omega
  have hol:=h.hol;unfold iF at h0⊢;simp only[aC] at h0⊢;cases hc:decide (a≥0)&&decide (a≤(r.2.1.length:Int)-1) with
  |false=>simp_all
  |true=>
  cases cU:decide (many≥0)&&decide (many≤1099511627776) with
  |false=>simp_all
  |true=>
  rw[hc,cU] at h0;simp only[bG,ay] at h0⊢;simp  at hc cU;have L2:=(h.laid w eS).set (i:=a.toNat) (by omega) (v:=many) (by grind);have uJ:=BV L2;obtain⟨n,bj⟩:∃n,n=gM r.2.1 s.pr ((s.ho.getD w []).set a.toNat many):=by simp
  rw[←bj] at h0 uJ⊢;unfold Cy at h0⊢;cases dB:decide (n>1152921504606846976) with
  |true=>simp_all
  |false=>
  cases fg:decide (n<(s.B.1.getD w ad).2.1)&&decide ((s.B.1.getD w ad).1+n<0) with
  |true=>simp_all
  |false=>
  have dB:=oq dB;have hg:∀i,(s.B.1.set w ((s.B.1.getD w ad).1,n,(s.B.1.getD w ad).2.2)).getD i ad=if i=w then((s.B.1.getD w ad).1,n,(s.B.1.getD w ad).2.2) else s.B.1.getD i ad:=by grind
  have hgh:∀i,(s.ho.set w ((s.ho.getD w []).set a.toNat many)).getD i []=if i=w then(s.ho.getD w []).set a.toNat many else s.ho.getD i []:=by grind
  simp only[ay];have eX:(s.B.1.set w ((s.B.1.getD w ad).1,n,(s.B.1.getD w ad).2.2)).length=s.B.1.length:=by simp
  exact{
    tk:=h.tk
    bk:=hb.setAcct eX fun i hi=>by
      rw[hg];split
      · have:=oN.1 (hb.acct w eS);rw[oN];grind
      · exact hb.acct i hi
    n:=by simp_all
    hol:=by simp_all
    laid:=by
      rw[eX];intro i hi;rw[hgh];split
      · exact L2
      · exact h.laid i hi
    cred:=by
      rw[eX];intro i hi;rw[hg,hgh];split
      · exact bj
      · exact h.cred i hi
    most:=by
      rw[eX];intro i hi;rw[hg];split
      · show n≤_;omega
      · exact h.most i hi
    waits:=by rw[eX];exact h.waits
    sum:=by
      rw[eX,ou (h:=fun i=>(s.B.1.getD i ad).1) (by grind)];exact h.sum
    tot:=h.tot
    over:=h.over
    none:=h.none}
theorem yF4 {r s}(h:yO r s){i}(hi:i<s.B.1.length){n}(hz:(wM (s.B.1.getD i ad) n).2=0)(ht:0≤s.to+n∧s.to+n≤1152921504606846976):
    yO r (Lt s i (wM (s.B.1.getD i ad) n).1 (s.to+n)):=by
  have hb:wB s.B.1 s.B.2.1 s.B.2.2.1 s.B.2.2.2:=h.bk;unfold wM at hz⊢;cases hc:jE ((s.B.1.getD i ad).1+n,(s.B.1.getD i ad).2.1,(s.B.1.getD i ad).2.2) with
  |false=>simp_all
  |true=>
  simp only[av];have hg:∀j,(s.B.1.set i ((s.B.1.getD i ad).1+n,(s.B.1.getD i ad).2.1,(s.B.1.getD i ad).2.2)).getD j ad=if j=i then((s.B.1.getD i ad).1+n,(s.B.1.getD i ad).2.1,(s.B.1.getD i ad).2.2) else s.B.1.getD j ad:=by grind
  have eX:(s.B.1.set i ((s.B.1.getD i ad).1+n,(s.B.1.getD i ad).2.1,(s.B.1.getD i ad).2.2)).length=s.B.1.length:=by simp
  unfold Lt;exact{
    tk:=h.tk
    bk:=hb.setAcct eX fun j hj=>by
      rw[hg];split
      · exact hc
      · exact hb.acct j hj
    n:=by rw[eX];exact h.n
    hol:=by rw[eX];exact h.hol
    laid:=by rw[eX];exact h.laid
    cred:=by
      rw[eX];intro j hj;rw[hg];split
      · rename_i e;rw[e];exact h.cred i hi
      · exact h.cred j hj
    most:=by
      rw[eX];intro j hj;rw[hg];split
      · exact h.most i hi
      · exact h.most j hj
    waits:=by rw[eX];exact h.waits
    sum:=by
      rw[eX,ou (h:=fun j=>if j=i then(s.B.1.getD j ad).1+n else(s.B.1.getD j ad).1) (by grind),yUw hi,h.sum]
    tot:=ht
    over:=h.over
    none:=h.none}
theorem yT2 {r s}(h:yO r s){kd to n}(h0:(iG r s kd to n).1=0):yO r (iG r s kd to n).2∧(iG r s kd to n).2.to=s.to+(if kd=11 then-n else n)∧(iG r s kd to n).2.m=s.m∧(iG r s kd to n).2.ids=s.ids∧(iG r s kd to n).2.t=s.t:=by
 have hn:=h.n;have ht:=h.tot;unfold iG at h0⊢;cases hc:decide (to≥0)&&decide (to≤r.1-1) with
 |false=>rw[hc] at h0;cases h0
 |true=>
 cases cU:decide (n≥1)&&decide (n≤1099511627776) with
 |false=>simp_all
 |true=>
 rw[hc,cU] at h0;simp  at hc cU;have hi:to.toNat<s.B.1.length:=by omega
 by_cases hk:kd=11
 ·rw[ag hk] at h0⊢;rw[if_pos hk];unfold Hc at h0⊢;cases dB:decide ((s.B.1.getD to.toNat ad).1+(s.B.1.getD to.toNat ad).2.1-(s.B.1.getD to.toNat ad).2.2<n) with
  |true=>rw[dB] at h0;cases h0
  |false=>
  cases fg:decide (s.to-n<0) with
  |true=>simp_all
  |false=>
  cases hz:decide ((wM (s.B.1.getD to.toNat ad) (-n)).2=0) with
  |false=>grind
  |true=>
  cases kD:decide (s.to-n>1152921504606846976) with
  |true=>grind
  |false=>
  have fg:=oq fg;have:=yF4 h hi (n:= -n) (by grind) (by omega);exact⟨this,rfl,rfl,rfl,rfl⟩
 ·rw[ai hk] at h0⊢;rw[if_neg hk];unfold Hd at h0⊢;cases hz:decide ((wM (s.B.1.getD to.toNat ad) n).2=0) with
  |false=>simp_all
  |true=>
  cases kD:decide (s.to+n>1152921504606846976) with
  |true=>simp_all
  |false=>
  have kD:=oq kD;exact⟨yF4 h hi (by grind) (by omega),rfl,rfl,rfl,rfl⟩
theorem vL8 {r s}(h:yO r s){a p}(h0:(iH r s a p).1=0):yO r (iH r s a p).2:=by
  have hb:wB s.B.1 s.B.2.1 s.B.2.2.1 s.B.2.2.2:=h.bk;unfold iH at h0⊢;cases hc:decide (a≥0)&&decide (a≤(r.2.1.length:Int)-1) with
  |false=>simp_all
  |true=>
  cases cU:decide (p≥0)&&decide (p≤1048576) with
  |false=>simp_all
  |true=>
  simp  at hc cU;have hL:∀i,i<s.B.1.length→gO r.2.1 (s.pr.set a.toNat p) (s.ho.getD i []):=fun i hi=>(h.laid i hi).setP (by omega) (by grind)
  generalize s.pr.set a.toNat p=pr at*
  unfold CP at h0⊢;cases dB:qA (fun j=> !decide (jV r.2.1 pr s.ho j>1152921504606846976)) s.B.1.length 0 with
  |false=>simp_all
  |true=>
  simp;have hle:∀i,i<s.B.1.length→jV r.2.1 pr s.ho i≤1152921504606846976:=fun i hi=>by
    have:=wI.1 dB i hi;simp_all
  have eX:=Rv r.2.1 pr s.ho s.B.1;have hg:=fun(j:Nat) (hj:j<s.B.1.length)=>Rw r.2.1 pr s.ho s.B.1 hj
  exact{
    tk:=h.tk
    bk:=hb.setAcct eX fun i hi=>by
      rw[hg i hi];have:=oN.1 (hb.acct i hi);have h1:=BV (hL i hi);rw[oN];exact⟨this.1,⟨h1,by grind⟩,this.2.2⟩
    n:=by rw[eX];exact h.n
    hol:=by rw[eX];exact h.hol
    laid:=by simp_all
    cred:=by
      rw[eX];intro i hi;rw[hg i hi];rfl
    most:=by
      simp_all
    waits:=by rw[eX];exact h.waits
    sum:=by
      rw[eX,ou (h:=fun i=>(s.B.1.getD i ad).1) (by grind)];exact h.sum
    tot:=h.tot
    over:=h.over
    none:=h.none}
abbrev MT:=Int×List mh×Int×Int×Int×Int×List qQ×wH×AC×wH×AC×wH×List zG×AC×Int×Bool×Int×Int
abbrev RF:=Int×List mh×Int×Int×Int×Int×List qQ×wH×AC×wH×AC×wH×List zG×AC×Int×Bool×Int×List yB×Int
def rk (r:qS)(s:qG)(who:Int):MT:=(r.1,r.2.1,r.2.2.1,r.2.2.2.1,r.2.2.2.2,s.t,s.B.1,s.B.2.1,s.B.2.2.1,s.B.2.2.2,s.pr,s.ho,s.m,s.ids,s.to,s.ov,who,0)
def qK (r:qS)(s:qG)(who:Int)(l:List yB)(paid:Int):RF:=(r.1,r.2.1,r.2.2.1,r.2.2.2.1,r.2.2.2.2,s.t,s.B.1,s.B.2.1,s.B.2.2.1,s.B.2.2.2,s.pr,s.ho,s.m,s.ids,s.to,s.ov,who,l,paid)
def CR (pa n:Int):Int:=bif decide (n<0) then-1 else bif decide (n≥pa) then-1 else n
theorem RG k r s who l p n:qs k (qK r s who l p) n=some (CR r.1 n):=by
 unfold qs CR;have e:(qK r s who l p).1=r.1:=rfl;grind
theorem RH {pa n}(h:0≤n∧n<pa):CR pa n=n:=by
 unfold CR;grind
theorem RI {pa n}(h:¬(0≤n∧n<pa)):CR pa n= -1:=by
 unfold CR;grind
theorem yIc k (r:qS) t c:CT k r t c=some (np r.2.2.1 r.2.2.2.1 t c):=by
 unfold CT np;grind
theorem yQc k (r:qS) t (p:zG):xl k r t p=some (kL r t p):=by
 unfold xl kL;rw[yIc];simp only[ak];have no:¬(p.2.1≥0∧p.2.1<r.1∧p.2.2.1≥0∧p.2.2.1<r.1∧p.1≥1∧p.2.2.2.1≥1∧p.2.2.2.1≤1099511627776∧p.2.2.2.2.1≥1∧¬p.2.1=p.2.2.1∧p.2.2.2.2.1≤3∧p.2.2.2.2.2.1≥0∧p.2.2.2.2.2.1≤p.2.2.2.2.2.2∧p.2.2.2.2.2.2≥t∧p.2.2.2.2.2.2≤1048576)→iC r.1 t p=false:=by
  intro h;cases e:iC r.1 t p with
  |false=>rfl
  |true=>
   unfold iC at e;grind
 by_cases c1:p.1<1
 ·rw[ag c1,no (fun⟨_,_,_,_,h,_⟩=>by omega)];rfl
 by_cases c2:p.2.1<0
 ·rw[ai c1,ag c2,no (fun⟨h,_⟩=>by omega)];rfl
 by_cases c3:p.2.1≥r.1
 ·rw[ai c1,ai c2,ag c3,no (fun⟨_,h,_⟩=>by omega)];rfl
 by_cases c4:p.2.2.1<0
 ·rw[ai c1,ai c2,ai c3,ag c4,no (fun⟨_,_,h,_⟩=>by omega)];rfl
 by_cases c5:p.2.2.1≥r.1
 ·rw[ai c1,ai c2,ai c3,ai c4,ag c5,no (fun⟨_,_,_,h,_⟩=>by omega)];rfl
 rw[ai c1,ai c2,ai c3,ai c4,ai c5];simp only[ay];by_cases c6:p.2.1=p.2.2.1
 ·rw[ag c6,no (fun⟨_,_,_,_,_,_,_,_,h,_⟩=>h c6)];rfl
 by_cases c7:p.2.2.2.1<1
 ·rw[ai c6,ag c7,no (fun⟨_,_,_,_,_,h,_⟩=>by omega)];rfl
 by_cases c8:p.2.2.2.1>1099511627776
 ·rw[ai c6,ai c7,ag c8,no (fun⟨_,_,_,_,_,_,h,_⟩=>by omega)];rfl
 by_cases c9:p.2.2.2.2.1<1
 ·rw[ai c6,ai c7,ai c8,ag c9,no (fun⟨_,_,_,_,_,_,_,h,_⟩=>by omega)];rfl
 by_cases KE:p.2.2.2.2.1>3
 ·rw[ai c6,ai c7,ai c8,ai c9,ag KE,no (by grind)];rfl
 rw[ai c6,ai c7,ai c8,ai c9,ai KE];simp only[ay];by_cases wq:p.2.2.2.2.2.1<0
 ·rw[ag wq,no (by grind)];rfl
 by_cases Lw:p.2.2.2.2.2.1>p.2.2.2.2.2.2
 ·rw[ai wq,ag Lw,no (by grind)];rfl
 by_cases RJ:p.2.2.2.2.2.2<t
 ·rw[ai wq,ai Lw,ag RJ,no (by grind)];rfl
 by_cases c14:p.2.2.2.2.2.2>1048576
 ·rw[ai wq,ai Lw,ai RJ,ag c14,no (by grind)];rfl
 rw[ai wq,ai Lw,ai RJ,ai c14];have e:iC r.1 t p=true:=by
  unfold iC;simp_all
 rw[e];rfl
def xm (k:Nat)(r:qS)(s:qG)(who:Int)(p:zG):Option (Int×RF):=
 (xl k r s.t p).bind fun x1=>
 bif !(decide (x1=0)) then some (x1,qK r s who [] 0)
 else(xi k s.ids p.1).bind fun x2=>
 bif !(decide (x2.2=0)) then some (x2.2,qK r s who [] 0)
 else(xg k s.m p.1 p.2.1 p.2.2.1 p.2.2.2.1 p.2.2.2.2.1 p.2.2.2.2.2.1 p.2.2.2.2.2.2).bind fun x3=>
 bif !(decide (x3.2=0)) then some (x3.2,qK r s who [] 0)
 else some (0,qK r {s with m:=x3.1,ids:=x2.1} who [] p.1)
theorem vRm {k}(hk:1000≤k){r}(hr:wT r){s}(h:gP s.B.1.length s.m s.ids) who f:
  ∃d,Lx k (rk r s who) f.2=some ((gf r s who f).1,d)∧((gf r s who f).1=0→d=qK r {s with m:=(gf r s who f).2.1,ids:=(gf r s who f).2.2} who [] f.2.1):=by
 have hp:=hr.pa;have hi:=h.idl;have hm:=h.len;have eD:Lx k (rk r s who) f.2=(qs k (qK r s who [] 0) f.2.2.1).bind fun x0=>
  bif decide (f.2.2.2.2.1 ≥ 1) then (bif decide (f.2.2.2.2.1≤3) then xm k r s who (f.2.1,who,x0,f.2.2.2)
   else xm k r s who (f.2.1,who,x0,f.2.2.2.1,0,f.2.2.2.2.2))
  else xm k r s who (f.2.1,who,x0,f.2.2.2.1,0,f.2.2.2.2.2):=rfl
 have bad:∀p:zG,iC r.1 s.t p=false→xm k r s who p=some (1,qK r s who [] 0):=by
  intro p hp;unfold xm;rw[yQc];unfold kL;rw[hp];rfl
 have aaq:∀p:zG,¬(p.2.2.1≥0∧p.2.2.2.2.1≥1)→iC r.1 s.t p=false:=by
  intro p hn;cases e:iC r.1 s.t p with
  |false=>rfl
  |true=>
   unfold iC at e;simp  at e;obtain⟨_,⟨a3,_⟩,_,_,_,a8,_⟩:=e;exact absurd ⟨a3,a8⟩ hn
 rw[eD,RG];simp only[ak];unfold gf;by_cases RK:0≤f.2.2.1∧f.2.2.1<r.1
 ·rw[RH RK,ag (show f.2.2.1≥0 by omega),ag (show f.2.2.1≤r.1-1 by omega)];by_cases hc:f.2.2.2.2.1≥1∧f.2.2.2.2.1≤3
  ·rw[ag hc.1,ag hc.2];simp only[Bool.and_self,bG,ay,av];have ep:((f.2.1,who,f.2.2.1,f.2.2.2):zG)=jQ who f:=rfl;rw[ep];unfold xm;rw[yQc];simp only[ak];by_cases hz:kL r s.t (jQ who f)=0
   ·rw[ag hz];have e1:(jQ who f).1=f.2.1:=rfl;simp only[bG,ay];rw[e1,vD0 (by omega) (by omega)];simp only[ak];by_cases h1:f.2.1∈s.ids
    ·rw[ag h1];exact⟨_,rfl,fun e=>by cases e⟩
    ·rw[ai h1];by_cases h2:200≤s.ids.length
     ·rw[ag h2];exact⟨_,rfl,fun e=>by cases e⟩
     ·rw[ai h2];have e3:=vRd (k:=k) (l:=s.m) (by omega) (by omega) (jQ who f);rw[e1] at e3;simp only[ay,decide_true,bG];rw[e3];simp only[ak];cases(vE s.m f.2.1).isSome with
      |true=>exact⟨_,rfl,fun e=>by cases e⟩
      |false=>
       by_cases h3:40≤s.m.length
       ·rw[ag h3];exact⟨_,rfl,fun e=>by cases e⟩
       ·rw[ai h3];exact⟨_,rfl,fun _=>rfl⟩
   ·rw[ai hz];exact⟨_,rfl,fun e=>absurd e hz⟩
  ·have e0:=bad (f.2.1,who,f.2.2.1,f.2.2.2.1,0,f.2.2.2.2.2) (by grind);rw[e0];have g:(!(decide (f.2.2.2.2.1≥1)&&decide (f.2.2.2.2.1≤3)))=true:=by
    by_cases a:f.2.2.2.2.1≥1
    ·rw[ag a,ai (fun b=>hc ⟨a,b⟩)];rfl
    ·rw[ai a];rfl
   rw[g];refine⟨qK r s who [] 0,?_,fun e=>by cases e⟩;by_cases a:f.2.2.2.2.1≥1
   ·rw[ag a,ai (fun b=>hc ⟨a,b⟩)];rfl
   ·rw[ai a];rfl
 ·have g:(!(decide (f.2.2.1≥0)&&decide (f.2.2.1≤r.1-1)))=true:=by
   by_cases a:f.2.2.1≥0
   ·rw[ag a,ai (show¬f.2.2.1≤r.1-1 by omega)];rfl
   ·rw[ai a];rfl
  have q:∀x:Int×Int×Int×Int,xm k r s who (f.2.1,who,-1,x)=some (1,qK r s who [] 0):=by grind
  rw[g,RI RK,q,q];refine⟨qK r s who [] 0,?_,fun e=>by cases e⟩;cases decide (f.2.2.2.2.1≥1)<;>cases decide (f.2.2.2.2.1≤3)<;>rfl
theorem yTc {k}(hk:1000≤k){r s}(h:gP s.B.1.length s.m s.ids) who f (hf:f.1=2∨f.1=3∨f.1=4):
    ∃d,xn k (rk r s who) f.1 f.2=some ((iD r s who f).1,d)∧((iD r s who f).1=0→d=qK r {s with m:=(iD r s who f).2.1} who (iD r s who f).2.2 0):=by
  have hm:=h.len;have lU:qN s.m:=by unfold qN;omega
  have eD : xn k (rk r s who) f.1 f.2 = ((j6 k s.m f.2.1).bind fun x0=>
      bif decide (x0<0) then some (((0,0,0,0,0,0,0):zG),false)
      else bif zC x0 s.m.length then (bif !(decide ((s.m.getD x0.toNat (0,0,0,0,0,0,0)).2.1=who)) then some ((0,0,0,0,0,0,0),false)
        else bif zC x0 s.m.length then some ((s.m.getD x0.toNat (0,0,0,0,0,0,0)),true)
        else none)
      else none).bind fun x0=>
    bif !x0.2 then some (4,qK r s who [] 0)
    else bif decide (f.1 = 2) then ((lz k s.m f.2.1).bind fun x1=>
      (jA k 20 [f.2.1]).bind fun x2=>
      some (0,qK r {s with m:=x1.1} who [(who,x2)] 0))
    else bif decide (f.1 = 3) then (bif decide (f.2.2.1 = 0) then ((G8 k s.m f.2.1).bind fun x3=>
       some (0,qK r {s with m:=x3.1} who [] 0))
      else bif decide (f.2.2.1 = 1) then ((G7 k s.m f.2.1).bind fun x4=>
       some (0,qK r {s with m:=x4.1} who [] 0))
      else some (1,qK r s who [] 0))
    else bif decide (f.2.2.1<1) then some (1,qK r s who [] 0)
    else bif decide (f.2.2.1>3) then some (1,qK r s who [] 0)
    else(CT k r s.t f.2.2.1).bind fun x5=>
    bif !(decide (x5=0)) then some (x5,qK r s who [] 0)
    else(G6 k s.m f.2.1 f.2.2.1).bind fun x6=>
    some (0,qK r {s with m:=x6.1} who [] 0):=rfl
  rw[eD,Gl (by omega) (by omega)];unfold iD jU;cases hx:vE s.m f.2.1 with
  |none=>exact by simp
  |some x=>
    have cS:=iz hx;have e1:decide ((x:Int)<0)=false:=ai (by omega);simp only[ak,e1,ay,zW,ag cS.1,av,aC];by_cases hw:(s.m.getD x (0,0,0,0,0,0,0)).2.1=who
    · have sw:(s.m.getD x pd).2.1=who:=hw;rw[ag hw];simp only[bG,ay,ak];by_cases h2:f.1=2
      · rw[ag h2];obtain⟨n,rfl⟩:∃n,k=n+5:=⟨k-5,by omega⟩;have eo:jA (n+5) 20 [f.2.1]=some (20,f.2.1,0,0,0,0,0):=by kernel_rfl
        simp only[av,qo (show s.m.length<n+5 by omega) lU,ak,eo];unfold fJ;rw[hx];exact⟨_,rfl,fun _=>rfl⟩
      · rw[ai h2];simp only[ay];by_cases h3:f.1=3
        · rw[ag h3,ai (show¬f.1=4 by omega)];simp only[av,ay];by_cases h0:f.2.2.1=0
          · rw[ag h0];simp only[av,vQn (show s.m.length<k by omega) lU hx,ak];exact⟨_,rfl,fun _=>rfl⟩
          · rw[ai h0];simp only[ay];by_cases h1:f.2.2.1=1
            · rw[ag h1];simp only[av,vNs (show s.m.length<k by omega) lU hx,ak];exact⟨_,rfl,fun _=>rfl⟩
            · rw[ai h1];exact by simp
        · rw[ai h3,ag (show f.1=4 by omega)];simp only[ay,av,yIc,ak,yVw (show s.m.length<k by omega) lU hx];by_cases c1:f.2.2.1<1
          · rw[ag c1,ai (show¬f.2.2.1≥1 by omega)];exact⟨_,rfl,fun e=>by cases e⟩
          · rw[ai c1,ag (show f.2.2.1≥1 by omega)];by_cases c2:f.2.2.1>3
            · rw[ag c2,ai (show¬f.2.2.1≤3 by omega)];exact⟨_,rfl,fun e=>by cases e⟩
            · rw[ai c2,ag (show f.2.2.1≤3 by omega)];simp only[Bool.and_self,bG,ay];by_cases hc:np r.2.2.1 r.2.2.2.1 s.t f.2.2.1=0
              · rw[ag hc];exact⟨_,rfl,fun _=>rfl⟩
              · rw[ai hc];exact by simp
    · rw[ai hw];exact⟨_,rfl,fun e=>by cases e⟩
theorem vCg {k}(hk:1000≤k){r}(hr:wT r){s}(hb:qL s.B)(hn:(s.B.1.length:Int)=r.1){who}(hw:0≤who∧who<r.1) f:
    ∃d,xo k (rk r s who) f.1 f.2=some ((iE r s who f).1,d)∧((iE r s who f).1=0→d=qK r (iE r s who f).2 who [] 0):=by
  obtain⟨w,rfl⟩:=Int.eq_ofNat_of_zero_le hw.1;have eS:w<s.B.1.length:=by omega
  have eD:xo k (rk r s w) f.1 f.2=(mc k s.B.1 s.B.2.1 s.B.2.2.1 s.B.2.2.2).bind fun x0=>
    bif decide (f.1 = 5) then ((qs k (qK r s w [] 0) f.2.1).bind fun x1=>
      bif decide (x1<0) then some (1,qK r s w [] 0)
      else bif decide (x1=(w:Int)) then some (1,qK r s w [] 0)
      else bif decide (f.2.2.1<(-1)) then some (1,qK r s w [] 0)
      else bif decide (f.2.2.1>1152921504606846976) then some (1,qK r s w [] 0)
      else bif zC (w : Int) x0.2.1.length then (bif zC x1 (x0.2.1.getD (w:Int).toNat []).length then
        some (0,qK r {s with B:=(x0.1,(x0.2.1.set (w:Int).toNat ((x0.2.1.getD (w:Int).toNat []).set x1.toNat f.2.2.1)),x0.2.2.1,x0.2.2.2)} w [] 0)
       else none)
      else none)
    else bif decide (f.1 = 6) then (bif decide (f.2.1<(-1)) then some (1,qK r s w [] 0)
      else bif decide (f.2.1>1152921504606846976) then some (1,qK r s w [] 0)
      else bif zC (w:Int) x0.2.2.1.length then some (0,qK r {s with B:=(x0.1,x0.2.1,(x0.2.2.1.set (w:Int).toNat f.2.1),x0.2.2.2)} w [] 0)
      else none)
    else bif decide (f.2.1<0) then some (1,qK r s w [] 0)
    else bif decide (f.2.1>1152921504606846976) then some (1,qK r s w [] 0)
    else bif zC (w:Int) x0.1.length then some (0,qK r {s with B:=((x0.1.set (w:Int).toNat ((x0.1.getD (w:Int).toNat (0,0,0)).1,(x0.1.getD (w:Int).toNat (0,0,0)).2.1,f.2.1)),x0.2.1,x0.2.2.1,x0.2.2.2)} w [] 0)
    else none:=rfl
  rw[eD,FK (by omega) hb.toSized,RG];simp only[ak,zW,aC];have two:∀a b:Int,∀x:Int,decide (x<a)= !decide (x≥a)∧decide (x>b)= !decide (x≤b):=by
    intro a b x;constructor
    · by_cases h:x<a
      · rw[ag h,ai (show¬x≥a by omega)];rfl
      · rw[ai h,ag (show x≥a by omega)];rfl
    · by_cases h:x>b
      · rw[ag h,ai (show¬x≤b by omega)];rfl
      · rw[ai h,ag (show x≤b by omega)];rfl
  unfold iE;rw[aC,(two (-1) 1152921504606846976 f.2.2.1).1,(two (-1) 1152921504606846976 f.2.2.1).2,(two (-1) 1152921504606846976 f.2.1).1,(two (-1) 1152921504606846976 f.2.1).2,(two 0 0 f.2.1).1];by_cases h5:f.1=5
  · rw[ag h5];simp only[av];by_cases hc:0≤f.2.1∧f.2.1<r.1
    · rw[RH hc,ag (show f.2.1≥0 by omega),ag (show f.2.1≤r.1-1 by omega),ai (show¬f.2.1<0 by omega)];have b1:decide (w<s.B.2.1.length)=true:=ag (by rw[hb.bl];exact eS);have b2:zC f.2.1 (s.B.2.1.getD w []).length=true:=vx hc.1 (by rw[hb.br w eS];omega);rw[b1,b2];cases decide (f.2.1=(w:Int)) with
      |true=>exact⟨_,rfl,fun e=>by cases e⟩
      |false=>
        cases decide (f.2.2.1≥-1) with
        |false=>exact⟨_,rfl,fun e=>by cases e⟩
        |true=>
          cases decide (f.2.2.1≤1152921504606846976) with
          |false=>exact⟨_,rfl,fun e=>by cases e⟩
          |true=>exact⟨_,rfl,fun _=>rfl⟩
    · rw[RI hc];have g:(decide (f.2.1≥0)&&decide (f.2.1≤r.1-1))=false:=by
        by_cases a:f.2.1≥0
        · rw[ag a,ai (show¬f.2.1≤r.1-1 by omega)];rfl
        · rw[ai a];rfl
      rw[g];exact⟨_,rfl,fun e=>by cases e⟩
  · rw[ai h5];by_cases h6:f.1=6
    · rw[ag h6];have b1:decide (w<s.B.2.2.1.length)=true:=ag (by rw[hb.ml];exact eS);rw[b1];cases decide (f.2.1≥-1) with
      |false=>exact⟨_,rfl,fun e=>by cases e⟩
      |true=>
        cases decide (f.2.1≤1152921504606846976) with
        |false=>exact⟨_,rfl,fun e=>by cases e⟩
        |true=>exact⟨_,rfl,fun _=>rfl⟩
    · rw[ai h6];have b1:decide (w<s.B.1.length)=true:=ag eS;rw[b1];cases decide (f.2.1≥0) with
      |false=>exact⟨_,rfl,fun e=>by cases e⟩
      |true=>
        cases decide (f.2.1≤1152921504606846976) with
        |false=>exact⟨_,rfl,fun e=>by cases e⟩
        |true=>exact⟨_,rfl,fun _=>rfl⟩
theorem yF6 {k l}(hl:l.length≤1000){i:Nat}(h1:i<l.length) v:qt k l i v=some (l.set i v):=by
 unfold qt;rw[qT (n:=0+l.length) (by omega) (by omega),ag (by simp),ag (by grind),zW,ag h1,aC];rfl
theorem vRa {r}(hr:wT r){s}(h:yO r s){who}(hw:0≤who∧who<r.1) a many:
    ∃d,Ly 1000 (rk r s who) a many=some ((iF r s who a many).1,d)∧((iF r s who a many).1=0→d=qK r (iF r s who a many).2 who [] 0):=by
  have h3:=hr.n3;have hn:=h.n;have eQ:=h.bk.n6;have hol:=h.hol;obtain⟨w,rfl⟩:=Int.eq_ofNat_of_zero_le hw.1;have eS:w<s.B.1.length:=by omega
  have eD:Ly 1000 (rk r s w) a many=
    bif decide (a<0) then some (1,qK r s w [] 0)
    else bif decide (a≥(r.2.1.length:Int)) then some (1,qK r s w [] 0)
    else bif decide (many<0) then some (1,qK r s w [] 0)
    else bif decide (many>1099511627776) then some (1,qK r s w [] 0)
    else bif zC (w : Int) s.ho.length then ((qt 1000 (s.ho.getD (w:Int).toNat []) a many).bind fun x0=>
      (tF 1000 r.2.1 s.pr x0).bind fun x1=>
      bif !x1.2 then some (8,qK r s w [] 0)
      else bif decide (x1.1>1152921504606846976) then some (8,qK r s w [] 0)
      else(mc 1000 s.B.1 s.B.2.1 s.B.2.2.1 s.B.2.2.2).bind fun x2=>
      bif zC (w : Int) x2.1.length then (bif decide (x1.1 < (x2.1.getD (w : Int).toNat (0, 0, 0)).2.1) then (bif decide ((zA ((x2.1.getD (w:Int).toNat (0,0,0)).1+x1.1))<0) then some (9,qK r s w [] 0)
         else bif zC (w:Int) x2.1.length then(
          bif zR (0 + s.ho.length) 24 then (bif zC (w:Int) s.ho.length then
           some (0,qK r {s with B:=((x2.1.set (w:Int).toNat ((x2.1.getD (w:Int).toNat (0,0,0)).1,x1.1,(x2.1.getD (w:Int).toNat (0,0,0)).2.2)),x2.2.1,x2.2.2.1,x2.2.2.2),ho:=s.ho.set (w:Int).toNat x0} w [] 0)
           else none)
          else none)
         else none)
        else bif zC (w:Int) x2.1.length then(
         bif zR (0 + s.ho.length) 24 then (bif zC (w:Int) s.ho.length then
           some (0,qK r {s with B:=((x2.1.set (w:Int).toNat ((x2.1.getD (w:Int).toNat (0,0,0)).1,x1.1,(x2.1.getD (w:Int).toNat (0,0,0)).2.2)),x2.2.1,x2.2.2.1,x2.2.2.2),ho:=s.ho.set (w:Int).toNat x0} w [] 0)
          else none)
         else none)
        else none)
      else none)
    else none:=rfl
  rw[eD,FK (by omega) h.bk.toSized];simp only[ak,zW,aC];unfold iF;simp only[aC];by_cases c1:a<0
  · rw[ag c1,ai (show¬a≥0 by omega)];exact⟨_,rfl,fun e=>by cases e⟩
  rw[ai c1,ag (show a≥0 by omega)];by_cases c2:a≥(r.2.1.length:Int)
  · rw[ag c2,ai (show¬a≤(r.2.1.length:Int)-1 by omega)];exact⟨_,rfl,fun e=>by cases e⟩
  rw[ai c2,ag (show a≤(r.2.1.length:Int)-1 by omega)];by_cases c3:many<0
  · rw[ag c3,ai (show¬many≥0 by omega)];exact⟨_,rfl,fun e=>by cases e⟩
  rw[ai c3,ag (show many≥0 by omega)];by_cases c4:many>1099511627776
  · rw[ag c4,ai (show¬many≤1099511627776 by omega)];exact⟨_,rfl,fun e=>by cases e⟩
  rw[ai c4,ag (show many≤1099511627776 by omega)];obtain⟨i,rfl⟩:=Int.eq_ofNat_of_zero_le (show 0≤a by omega);have hi:i<r.2.1.length:=by omega
  have L:=h.laid w eS;have L2:=L.set hi (v:=many) ⟨by omega,by omega⟩;have b1:decide (w<s.ho.length)=true:=ag (by omega);have b2:decide (w<s.B.1.length)=true:=ag eS;have j8:qt 1000 (s.ho.getD w []) (i:Int) many=some ((s.ho.getD w []).set i many):=yF6 (by rw[L.hl];omega) (by rw[L.hl];omega) many;have hv:=Rs L2;have hb:=h.bk.nums.bal w eS;have uJ:=BV L2;have e24:zR (0+s.ho.length) 24=true:=qT (by omega) (by omega);simp only[Bool.and_self,bG,ay,b1,av,j8,ak,hv,b2,aC,e24];clear hv L2 eD;generalize gM r.2.1 s.pr ((s.ho.getD w []).set i many)=n at uJ⊢;unfold Cy;cases Rf:decide (n>1152921504606846976) with
  |true=>exact⟨_,rfl,fun e=>by cases e⟩
  |false=>
    have h8:¬n>1152921504606846976:=oq Rf;have w2:zA ((s.B.1.getD w (0,0,0)).1+n)=(s.B.1.getD w (0,0,0)).1+n:=zN (by have:=hb.1;simp only[ad] at this;omega) (by have:=hb.2;simp only[ad] at this;omega);simp only[w2,ay];cases decide (n<(s.B.1.getD w (0,0,0)).2.1) with
    |false=>exact⟨_,rfl,fun _=>rfl⟩
    |true=>
      cases decide ((s.B.1.getD w (0,0,0)).1+n<0) with
      |true=>exact⟨_,rfl,fun e=>by cases e⟩
      |false=>exact⟨_,rfl,fun _=>rfl⟩
theorem In9 {k}{a:qQ}(ha:-4611686018427387904<a.1∧a.1<4611686018427387904){n}(hn:1≤n∧n≤1099511627776):CU k a n=some (wM a n):=by
 unfold CU wM CE;rw[ag (by grind),zN (x:=9223372036854775807-n) (by omega) (by omega),ai (by grind),ai (by grind),zN (x:=a.1+n) (by omega) (by omega)];simp[P3];grind
theorem vDa {r}(hr:wT r){s}(h:yO r s) who kd to n (JL:kd=10∨kd=11):
    ∃d,CV 1000 (rk r s who) (decide (kd=10)) to n=some ((iG r s kd to n).1,d)∧((iG r s kd to n).1=0→d=qK r (iG r s kd to n).2 who [] 0):=by
  have hn:=h.n;have ht:=h.tot;have eD:CV 1000 (rk r s who) (decide (kd=10)) to n=(qs 1000 (qK r s who [] 0) to).bind fun x0=>
    bif decide (x0<0) then some (1,qK r s who [] 0)
    else bif decide (n<1) then some (1,qK r s who [] 0)
    else bif decide (n>1099511627776) then some (1,qK r s who [] 0)
    else(mc 1000 s.B.1 s.B.2.1 s.B.2.2.1 s.B.2.2.2).bind fun x1=>
    bif decide (kd = 10) then (bif zC x0 x1.1.length then ((CU 1000 (x1.1.getD x0.toNat (0,0,0)) n).bind fun x2=>
      bif decide ((zA (s.to+n))>1152921504606846976) then some (8,qK r s who [] 0)
      else bif !(decide (x2.2=0)) then some (8,qK r s who [] 0)
      else bif zC x0 x1.1.length then some (0,qK r {s with B:=((x1.1.set x0.toNat x2.1),x1.2.1,x1.2.2.1,x1.2.2.2),to:=zA (s.to+n)} who [] 0)
      else none)
     else none)
    else bif zC x0 x1.1.length then (bif decide ((zA ((zA ((x1.1.getD x0.toNat (0,0,0)).1+(x1.1.getD x0.toNat (0,0,0)).2.1))-(x1.1.getD x0.toNat (0,0,0)).2.2))<n) then some (9,qK r s who [] 0)
     else bif decide (s.to<n) then some (9,qK r s who [] 0)
     else bif zC x0 x1.1.length then
      some (0,qK r {s with B:=((x1.1.set x0.toNat ((zA ((x1.1.getD x0.toNat (0,0,0)).1-n)),(x1.1.getD x0.toNat (0,0,0)).2)),x1.2.1,x1.2.2.1,x1.2.2.2),to:=zA (s.to-n)} who [] 0)
     else none)
    else none:=rfl
  rw[eD,RG,FK (by omega) h.bk.toSized];simp only[ak];unfold iG;by_cases hc:0≤to∧to<r.1
  · rw[RH hc,ai (show¬to<0 by omega),ag (show to≥0 by omega),ag (show to≤r.1-1 by omega)];by_cases c1:n<1
    · rw[ag c1,ai (show¬n≥1 by omega)];exact⟨_,rfl,fun e=>by cases e⟩
    rw[ai c1,ag (show n≥1 by omega)];by_cases c2:n>1099511627776
    · rw[ag c2,ai (show¬n≤1099511627776 by omega)];exact⟨_,rfl,fun e=>by cases e⟩
    rw[ai c2,ag (show n≤1099511627776 by omega)];obtain⟨i,rfl⟩:=Int.eq_ofNat_of_zero_le hc.1;have hi:i<s.B.1.length:=by omega
    have hb:=h.bk.nums.bal i hi;have ir:=h.bk.nums.res i hi;have hcr:=h.most i hi;have Ru:0≤(s.B.1.getD i ad).2.1:=by rw[h.cred i hi];exact BV (h.laid i hi)
    have RM:=oN.1 (h.bk.acct i hi);have b0:zC (i:Int) s.B.1.length=true:=by rw[zW,ag hi]
    have q2:zA (s.to-n)=s.to-n:=zN (by omega) (by omega);have q3:zA (s.to+n)=s.to+n:=zN (by omega) (by omega);have He:CU 1000 (s.B.1.getD i (0,0,0)) n=some (wM (s.B.1.getD i ad) n):=In9 hb ⟨by omega,by omega⟩;simp only[Bool.and_self,bG,ay,b0,av,aC,He,ak,q2,q3];clear He eD;rcases JL with e|e
    · rw[ag e,ai (show¬kd=11 by omega)];simp only[av,ay];unfold Hd;cases hz:decide ((wM (s.B.1.getD i ad) n).2=0) with
      |false=>
        have e8:(wM (s.B.1.getD i ad) n).2=8:=by
          have:=oq hz;unfold wM at this⊢;cases hx:jE ((s.B.1.getD i ad).1+n,(s.B.1.getD i ad).2.1,(s.B.1.getD i ad).2.2) with
          |true=>rw[hx] at this;exact absurd rfl this
          |false=>rfl
        rw[e8];cases decide (s.to+n>1152921504606846976)<;>exact⟨_,rfl,fun e=>by cases e⟩
      |true=>
        cases decide (s.to+n>1152921504606846976) with
        |true=>exact⟨_,rfl,fun e=>by cases e⟩
        |false=>exact⟨_,rfl,fun _=>rfl⟩
    · rw[ai (show¬kd=10 by omega),ag e];simp only[av,ay];unfold Hc;have q1:zA ((s.B.1.getD i (0,0,0)).1+(s.B.1.getD i (0,0,0)).2.1)=(s.B.1.getD i ad).1+(s.B.1.getD i ad).2.1:=zN (by simp only[ad] at*;omega) (by simp only[ad] at*;omega);have q4:zA ((s.B.1.getD i ad).1+(s.B.1.getD i ad).2.1-(s.B.1.getD i (0,0,0)).2.2)=(s.B.1.getD i ad).1+(s.B.1.getD i ad).2.1-(s.B.1.getD i ad).2.2:=zN (by simp only[ad] at*;omega) (by simp only[ad] at*;omega);have q5:zA ((s.B.1.getD i (0,0,0)).1-n)=(s.B.1.getD i ad).1+-n:=by rw[zN (by simp only[ad] at*;omega) (by simp only[ad] at*;omega)];rfl
      simp only[q1,q4,q5];by_cases c5:(s.B.1.getD i ad).1+(s.B.1.getD i ad).2.1-(s.B.1.getD i ad).2.2<n
      · rw[ag c5];exact⟨_,rfl,fun e=>by cases e⟩
      rw[ai c5];by_cases c6:s.to<n
      · rw[ag c6,ag (show s.to-n<0 by omega)];exact⟨_,rfl,fun e=>by cases e⟩
      rw[ai c6,ai (show¬s.to-n<0 by omega),ai (show¬s.to-n>1152921504606846976 by omega)];have em:wM (s.B.1.getD i ad) (-n)=(((s.B.1.getD i ad).1+-n,(s.B.1.getD i ad).2.1,(s.B.1.getD i ad).2.2),0):=by
        unfold wM;have:jE ((s.B.1.getD i ad).1+-n,(s.B.1.getD i ad).2.1,(s.B.1.getD i ad).2.2)=true:=oN.2 ⟨by simp only;omega,RM.2⟩;rw[this];rfl
      rw[em];exact⟨_,rfl,fun _=>rfl⟩
  · rw[RI hc];have g:(decide (to≥0)&&decide (to≤r.1-1))=false:=by
      by_cases a:to≥0
      · rw[ag a,ai (show¬to≤r.1-1 by omega)];rfl
      · rw[ai a];rfl
    rw[g];exact⟨_,rfl,fun e=>by cases e⟩
theorem vOv {r s} who {pr}(hL:∀i,i<s.B.1.length→gO r.2.1 pr (s.ho.getD i []))(hol:s.ho.length=s.B.1.length)(eQ:s.B.1.length≤6):
  (qA (fun j=> !decide (jV r.2.1 pr s.ho j>1152921504606846976)) s.B.1.length 0=true∧qu 1000 1000 0 (rk r s who) pr s.B.1 s.B.2.1 s.B.2.2.1 s.B.2.2.2=some (.inl (rk r s who,pr,qp r.2.1 pr s.ho s.B.1,s.B.2.1,s.B.2.2.1,s.B.2.2.2)))∨
  (qA (fun j=> !decide (jV r.2.1 pr s.ho j>1152921504606846976)) s.B.1.length 0=false∧qu 1000 1000 0 (rk r s who) pr s.B.1 s.B.2.1 s.B.2.2.1 s.B.2.2.2=some (.inr (8,rk r s who))):=by
 have:=Km (L:=fun n i (a:List qQ)=>qu 1000 n i (rk r s who) pr a s.B.2.1 s.B.2.2.1 s.B.2.2.2) (N:=s.B.1.length) (fun j=> !decide (jV r.2.1 pr s.ho j>1152921504606846976))
  (fun a=>.inl (rk r s who,pr,a,s.B.2.1,s.B.2.2.1,s.B.2.2.2)) (.inr (8,rk r s who))
  (fun i a => a.length = s.B.1.length ∧ ∀ j, j < s.B.1.length → a.getD j ad = if j < i then ((s.B.1.getD j ad).1, jV r.2.1 pr s.ho j, (s.B.1.getD j ad).2.2) else s.B.1.getD j ad) (fun n a ha=>by
   show CW 1000 _ s.B.1.length (rk r s who) pr a s.B.2.1 s.B.2.2.1 s.B.2.2.2=_;unfold CW;simp_all) (fun n i a hi ha=>by
   have hv:=Rs (hL i hi);have aH:qu 1000 (n+1) i (rk r s who) pr a s.B.2.1 s.B.2.2.1 s.B.2.2.2=bif decide (jV r.2.1 pr s.ho i>1152921504606846976) then some (.inr (8,rk r s who)) else qu 1000 n ((i+1:Nat):Int) (rk r s who) pr (a.set i ((a.getD i ad).1,jV r.2.1 pr s.ho i,(a.getD i ad).2.2)) s.B.2.1 s.B.2.2.1 s.B.2.2.2:=by
    show CW 1000 _ i (rk r s who) pr a s.B.2.1 s.B.2.2.1 s.B.2.2.2=_;unfold CW;have fS:tF 1000 (rk r s who).2.1 pr (s.ho.getD i [])=some (jV r.2.1 pr s.ho i,true):=hv;have eh:(rk r s who).2.2.2.2.2.2.2.2.2.2.2.1=s.ho:=rfl;simp only[eh,qM,zW,aC,ag (show i<s.ho.length by omega),ag (show i<a.length by omega),av,fS,bG,ay,qD hi (by grind)];rfl
   grind) s.B.1.length 0 1000 s.B.1 (by omega) (by omega) (by simp)
 rcases this with⟨h1,a,h2,h3,h4⟩|⟨h1,h2⟩
 ·have e:a=qp r.2.1 pr s.ho s.B.1:=Av ad (by rw[h3,Rv]) fun j hj=>by
   rw[h3] at hj;rw[h4 j hj,if_pos hj,Rw _ _ _ _ hj]
  simp_all
 simp_all
theorem yXb {r}(hr:wT r){s}(h:yO r s) who a p:
  ∃d,LA 1000 (rk r s who) a p=some ((iH r s a p).1,d)∧((iH r s a p).1=0→d=qK r (iH r s a p).2 who [] 0):=by
 have h3:=hr.n3;have eQ:=h.bk.n6;have kC:=h.bk.n1;have eD:LA 1000 (rk r s who) a p=
  bif decide (a<0) then some (1,qK r s who [] 0)
  else bif decide (a≥(r.2.1.length:Int)) then some (1,qK r s who [] 0)
  else bif decide (p<0) then some (1,qK r s who [] 0)
  else bif decide (p>1048576) then some (1,qK r s who [] 0)
  else(qt 1000 s.pr a p).bind fun x0=>
  (mc 1000 s.B.1 s.B.2.1 s.B.2.2.1 s.B.2.2.2).bind fun x1=>
  (qu 1000 1000 0 (rk r s who) x0 x1.1 x1.2.1 x1.2.2.1 x1.2.2.2).bind fun z=>
  match z with
  |.inl z1=>some (0,(wJ z1.1 (xj z1 (z1.2.1,(qXn z1.1 ([],z1.1.2.2.2.2.2.2.2.2.2.2.2.2.2.2.2.2.2))))))
  |.inr z2=>some (yDd z2 ([],z2.2.2.2.2.2.2.2.2.2.2.2.2.2.2.2.2.2.2)):=rfl
 rw[eD,FK (by omega) h.bk.toSized];simp only[ak];unfold iH;by_cases c1:a<0
 ·rw[ag c1,ai (show¬a≥0 by omega)];exact by simp
 rw[ai c1,ag (show a≥0 by omega)];by_cases c2:a≥(r.2.1.length:Int)
 ·grind
 rw[ai c2,ag (show a≤(r.2.1.length:Int)-1 by omega)];by_cases c3:p<0
 ·rw[ag c3,ai (show¬p≥0 by omega)];exact by simp
 rw[ai c3,ag (show p≥0 by omega)];by_cases c4:p>1048576
 ·rw[ag c4,ai (show¬p≤1048576 by omega)];exact by simp
 rw[ai c4,ag (show p≤1048576 by omega)];obtain⟨i,rfl⟩:=Int.eq_ofNat_of_zero_le (show 0≤a by omega);have hi:i<r.2.1.length:=by omega
 have L0:=h.laid 0 (by omega);have j8:qt 1000 s.pr (i:Int) p=some (s.pr.set i p):=yF6 (by rw[L0.pl];omega) (by rw[L0.pl];omega) p;simp only[Bool.and_self,bG,ay,j8,ak,aC];unfold CP;rcases vOv (r:=r) (s:=s) who (pr:=s.pr.set i p) (fun j hj=>(h.laid j hj).setP hi ⟨by omega,by omega⟩) h.hol eQ with⟨g1,g2⟩|⟨g1,g2⟩
 ·rw[g2,g1];exact⟨_,rfl,fun _=>rfl⟩
 ·rw[g2,g1];exact⟨_,rfl,fun e=>by cases e⟩
theorem qU3 {m}(hd:qI m){i}(hi:i<m.length):jU m (m.getD i pd).1=(i:Int):=by
 obtain⟨x,hx⟩:=KD (eO (d:=pd) hi);have h:=iz hx;unfold jU;have:x=i:=by
  rcases Nat.lt_trichotomy x i with g|g|g
  ·have:=List.pairwise_iff_getElem.1 hd x i h.1 hi g;grind
  ·exact g
  ·have:=List.pairwise_iff_getElem.1 hd i x hi h.1 g;grind
 simp_all
theorem vIg {k}(hk:100<k){B}(h:qL B){l:List zG}(hl:l.length≤80):F0 k B.1 B.2.1 B.2.2.1 B.2.2.2 l=some (ta B l):=yZ8 hk h hl
theorem LB {k}(hk:100<k){B}(h:qL B){l:List zG}(hl:l.length≤80):
  ∃C:BT,qw k B.1 B.2.1 B.2.2.1 B.2.2.2 l=some (C.1,C.2.1,C.2.2.1,C.2.2.2,(fL k B l).isSome)∧(∀D,fL k B l=some D→D=C):=by
 obtain⟨r,h1,h2,h3⟩:=BW hk h hl;unfold qw fL;rw[h2,h1,vIg hk h hl];refine⟨(r.1,r.2.1,r.2.2.1,r.2.2.2.1),?_,?_⟩;all_goals grind
theorem yDu {k}(hk:100<k){B}(h:qL B)(m:List zG)(hm:m.length≤1000):∀c i n,i+c=m.length→c<n→
  Hi k n i B.1 B.2.1 B.2.2.1 B.2.2.2 0 0 0 0 0 0 0 m = some (match jT k B (m.drop i) with
   |some (p,C)=>.inr (true,p.1,p.2.1,p.2.2.1,p.2.2.2.1,p.2.2.2.2.1,p.2.2.2.2.2.1,p.2.2.2.2.2.2)
   |none=>.inl (0,0,0,0,0,0,0))
 |0,i,n,e,hn=>by
  obtain⟨n,rfl⟩:∃x,n=x+1:=⟨n-1,by omega⟩;have:i=m.length:=by omega
  subst this;show CX k _ m.length B.1 B.2.1 B.2.2.1 B.2.2.2 0 0 0 0 0 0 0 m=_;unfold CX;simp;rfl
 |c+1,i,n,e,hn=>by
  obtain⟨n,rfl⟩:∃x,n=x+1:=⟨n-1,by omega⟩;have hi:i<m.length:=by omega
  have ih:=yDu hk h m hm c (i+1) n (by omega) (by omega);show CX k _ i B.1 B.2.1 B.2.2.1 B.2.2.2 0 0 0 0 0 0 0 m=_;unfold CX;obtain⟨C,h1,h2⟩:=LB hk h (l:=[m.getD i pd]) (by simp);have c1:decide ((0:Int)≤(i:Int))=true:=by simp
  have c2:decide ((i:Int)≤((i+1:Nat):Int))=true:=by grind
  have c3:decide (((i+1:Nat):Int)≤(m.length:Int))=true:=by grind
  simp only[zW,qD hi (by grind),aC,yVn m i hi];rw[yAv k B hi];grind
theorem ySv {k} (hk : 100 < k) {B} (h : qL B) {l} (bI : l.length < k) (hl : qN l) t : LC k B.1 B.2.1 B.2.2.1 B.2.2.2 l t = some (match jT k B (vO l t) with
   |some (p,C)=>(p.1,p.2.1,p.2.2.1,p.2.2.2.1,p.2.2.2.2.1,p.2.2.2.2.2.1,p.2.2.2.2.2.2,true)
   |none=>(0,0,0,0,0,0,0,false)):=by
 unfold LC;rw[yJ7 bI hl];have BZ:=KS l t;unfold qN at hl;have:=yDu hk h (vO l t) (by omega) (vO l t).length 0 k (by omega) (by omega);grind
theorem yYm {k}(hk:100<k) t {B C l m done}(h:fj k t B l done C m):∀n (r:List zG),qL B→l.length≤100→l.length<n→r.length+l.length≤1000→
  Hj k n l t B.1 B.2.1 B.2.2.1 B.2.2.2 r=some (m,C.1,C.2.1,C.2.2.1,C.2.2.2,r++done):=by
 induction h with
 |@stop B l hx=>
  intro n r hb hl hn hr;obtain⟨n,rfl⟩:∃x,n=x+1:=⟨n-1,by omega⟩;have h2:=ySv hk hb (l:=l) (by omega) (by show l.length≤1000;omega) t;rw[hx] at h2;show CY k _ l t B.1 B.2.1 B.2.2.1 B.2.2.2 r=_;unfold CY;simp_all
 |@step B C D l m done p hx _ ih=>
  intro n r hb hl hn hr;obtain⟨n,rfl⟩:∃x,n=x+1:=⟨n-1,by omega⟩;have h2:=ySv hk hb (l:=l) (by omega) (by show l.length≤1000;omega) t;rw[hx] at h2;obtain⟨hp,hg⟩:=wz hx;have zl:=BX hp;obtain⟨pt,kZ⟩:=qc zl;obtain⟨mP,cU⟩:=oF hk hb (by simp) hg;have g2:=ih n (r++[p]) mP (by omega) (by omega) (by grind);show CY k _ l t B.1 B.2.1 B.2.2.1 B.2.2.2 r=_;unfold CY;rw[h2];obtain⟨C',e1,e2⟩:=LB hk hb (l:=[p]) (by simp);have:=e2 C hg;subst this;simp[qo (show l.length<k by omega) (show qN l by show l.length≤1000;omega),lu (show r.length≤1000 by omega)];rw[List.append_cons r p done,←g2];have Hk:qw k B.1 B.2.1 B.2.2.1 B.2.2.2 [(p.1,p.2.1,p.2.2.1,p.2.2.2.1,p.2.2.2.2.1,p.2.2.2.2.2.1,p.2.2.2.2.2.2)]=_:=e1;rw[Hk];rfl
theorem yOm {k}(hk:200≤k){B C}(hb:qL B){l m done}(hl:l.length≤100){t}(h:fj k t B l done C m):LD k B.1 B.2.1 B.2.2.1 B.2.2.2 l t=some (C.1,C.2.1,C.2.2.1,C.2.2.2,m,done):=by
 unfold LD;rw[yYm (by omega) t h k [] hb hl (by omega) (by grind)];rfl
def RN (x:Option (zG×zG×BT)):Int×Int×Int×Int×Int×Int×Int×Int×Int×Int×Int×Int×Int×Int×Bool:=match x with
 |some (p,q,C)=>(p.1,p.2.1,p.2.2.1,p.2.2.2.1,p.2.2.2.2.1,p.2.2.2.2.2.1,p.2.2.2.2.2.2,q.1,q.2.1,q.2.2.1,q.2.2.2.1,q.2.2.2.2.1,q.2.2.2.2.2.1,q.2.2.2.2.2.2,true)
 |none=>(0,0,0,0,0,0,0,0,0,0,0,0,0,0,false)
theorem yOd {k}(hk:100<k){B}(h:qL B)(m:List zG)(hm:m.length≤1000){j}(hj:j<m.length):∀c i n,i+c=m.length→c<n→
  Hl k n j i B.1 B.2.1 B.2.2.1 B.2.2.2 0 0 0 0 0 0 0 0 0 0 0 0 0 0 m = some (match mi k B (m.getD j pd) (m.drop i) with
   |some (q,C)=>.inr (true,(m.getD j pd).1,(m.getD j pd).2.1,(m.getD j pd).2.2.1,(m.getD j pd).2.2.2.1,(m.getD j pd).2.2.2.2.1,(m.getD j pd).2.2.2.2.2.1,(m.getD j pd).2.2.2.2.2.2,q.1,q.2.1,q.2.2.1,q.2.2.2.1,q.2.2.2.2.1,q.2.2.2.2.2.1,q.2.2.2.2.2.2)
   |none=>.inl ((j:Int),B.1,B.2.1,B.2.2.1,B.2.2.2,0,0,0,0,0,0,0,0,0,0,0,0,0,0,m))
 |0,i,n,e,hn=>by
  obtain⟨n,rfl⟩:∃x,n=x+1:=⟨n-1,by omega⟩;have:i=m.length:=by omega
  subst this;show CZ k _ j m.length B.1 B.2.1 B.2.2.1 B.2.2.2 0 0 0 0 0 0 0 0 0 0 0 0 0 0 m=_;unfold CZ;simp;rfl
 |c+1,i,n,e,hn=>by
  obtain⟨n,rfl⟩:∃x,n=x+1:=⟨n-1,by omega⟩;have hi:i<m.length:=by omega
  have ih:=yOd hk h m hm hj c (i+1) n (by omega) (by omega);show CZ k _ j i B.1 B.2.1 B.2.2.1 B.2.2.2 0 0 0 0 0 0 0 0 0 0 0 0 0 0 m=_;unfold CZ;obtain⟨C,h1,h2⟩:=LB hk h (l:=[m.getD j pd,m.getD i pd]) (by simp);simp[zW,qD hi (by grind),h1];rw[yQ9 k B _ hi];unfold nk;grind
theorem yEv {k}(hk:100<k){B}(h:qL B)(m:List zG)(hm:m.length≤1000)(GD:m.length<k):∀c i n,i+c=m.length→c<n→
  Hm k n i B.1 B.2.1 B.2.2.1 B.2.2.2 0 0 0 0 0 0 0 0 0 0 0 0 0 0 m = some (match oG k B m (m.drop i) with
   |some (p,q,C)=>.inr (true,p.1,p.2.1,p.2.2.1,p.2.2.2.1,p.2.2.2.2.1,p.2.2.2.2.2.1,p.2.2.2.2.2.2,q.1,q.2.1,q.2.2.1,q.2.2.2.1,q.2.2.2.2.1,q.2.2.2.2.2.1,q.2.2.2.2.2.2)
   |none=>.inl (0,0,0,0,0,0,0,0,0,0,0,0,0,0))
 |0,i,n,e,hn=>by
  obtain⟨n,rfl⟩:∃x,n=x+1:=⟨n-1,by omega⟩;have:i=m.length:=by omega
  subst this;show C3 k _ m.length B.1 B.2.1 B.2.2.1 B.2.2.2 0 0 0 0 0 0 0 0 0 0 0 0 0 0 m=_;unfold C3;simp;rfl
 |c+1,i,n,e,hn=>by
  obtain⟨n,rfl⟩:∃x,n=x+1:=⟨n-1,by omega⟩;have hi:i<m.length:=by omega
  have ih:=yEv hk h m hm GD c (i+1) n (by omega) (by omega);show C3 k _ i B.1 B.2.1 B.2.2.1 B.2.2.2 0 0 0 0 0 0 0 0 0 0 0 0 0 0 m=_;unfold C3;have dZ:=yOd hk h m hm hi m.length 0 k (by omega) GD;have e0:((0:Nat):Int)=0:=rfl;rw[e0,List.drop_zero] at dZ;simp[ag hi];rw[dZ];rw[yMt k B m hi];cases mi k B (m.getD i pd) m with
  |none=>
   simp[qD hi (by grind)];exact ih
  |some x=>rfl
theorem yC1 {k}(hk:100<k){B}(h:qL B){l}(bI:l.length<k)(hl:qN l) t:LF k B.1 B.2.1 B.2.2.1 B.2.2.2 l t=some (RN (jN k B l t)):=by
 unfold LF jN;rw[yJ7 bI hl];have BZ:=KS l t;unfold qN at hl;have:=yEv hk h (vO l t) (by omega) (by omega) (vO l t).length 0 k (by omega) (by omega);have e:((0:Nat):Int)=0:=rfl;rw[e,List.drop_zero] at this;simp;rw[this];cases oG k B (vO l t) (vO l t) with
 |none=>rfl
 |some x=>rfl
theorem vO3 {k}(hk:100<k) t {B C l m done}(h:wR k t B l done C m):∀n (r:List zG),qL B→qI l→l.length≤100→l.length<n→r.length+l.length≤900→
  Hn k n l t B.1 B.2.1 B.2.2.1 B.2.2.2 r=some (m,C.1,C.2.1,C.2.2.1,C.2.2.2,r++done):=by
 induction h with
 |@stop B l hx=>
  intro n r hb hd hl hn hr;obtain⟨n,rfl⟩:∃x,n=x+1:=⟨n-1,by omega⟩;have h2:=yC1 hk hb (l:=l) (by omega) (by show l.length≤1000;omega) t;rw[hx] at h2;show C4 k _ l t B.1 B.2.1 B.2.2.1 B.2.2.2 r=_;unfold C4;rw[h2];simp only[ak,RN,fZ,av,List.append_nil]
 |@step B C D l m done p q hx _ ih=>
  intro n r hb hd hl hn hr;obtain⟨n,rfl⟩:∃x,n=x+1:=⟨n-1,by omega⟩;have h2:=yC1 hk hb (l:=l) (by omega) (by show l.length≤1000;omega) t;rw[hx] at h2;obtain⟨hp,hq,mj,hg⟩:=B2 hx;obtain⟨pt,kZ⟩:=B3 hd hp hq mj;obtain⟨mP,cU⟩:=oF hk hb (by simp) hg;have oJ:(jB l p.1).length≤l.length:=(qc hp).2.length_le;have g2:=ih n (r++[p,q]) mP (List.Pairwise.sublist kZ hd) (by omega) (by omega) (by grind);have e2:r++[p,q]++done=r++p::q::done:=by rw[List.append_assoc];rfl
  show C4 k _ l t B.1 B.2.1 B.2.2.1 B.2.2.2 r=_;unfold C4;rw[h2];obtain⟨C',e1,e2'⟩:=LB hk hb (l:=[p,q]) (by simp);have:=e2' C hg;subst this;have Hk:qw k B.1 B.2.1 B.2.2.1 B.2.2.2 [(p.1,p.2.1,p.2.2.1,p.2.2.2.1,p.2.2.2.2.1,p.2.2.2.2.2.1,p.2.2.2.2.2.2),(q.1,q.2.1,q.2.2.1,q.2.2.2.1,q.2.2.2.2.1,q.2.2.2.2.2.1,q.2.2.2.2.2.2)]=_:=e1;have d1:=qo (show l.length<k by omega) (show qN l by show l.length≤1000;omega) p.1;have d2:=qo (k:=k) (l:=(fJ l p.1).1) (Nat.lt_of_le_of_lt oJ (by omega)) (Nat.le_trans oJ (by omega)) q.1;have e3:zR (r.length+2) 56=true:=qT (by omega) (by omega);simp only[ak,RN,Hk,d1,d2,e3];rw[←e2,←g2];rfl
theorem yFt {k}(hk:200≤k){B C}(hb:qL B){l m done}(hd:qI l)(hl:l.length≤100){t}(h:wR k t B l done C m):LG k B.1 B.2.1 B.2.2.1 B.2.2.2 l t=some (C.1,C.2.1,C.2.2.1,C.2.2.2,m,done):=by
 unfold LG;rw[vO3 (by omega) t h k [] hb hd hl (by omega) (by grind)];rfl
theorem RO {k l}(hk:l.length<k)(hl:qN l) many:C5 k l many=some (yX l many):=by
 unfold qN at hl;unfold C5;obtain ⟨s', h1, h2⟩ := yZ (L := fun n i s => C6 k n l many i s) (N := l.length) (fun s => s) (fun i s => s = kG l many i) (fun n s _=>by
  show C7 k _ l many l.length s=_;unfold C7;simp) (fun n i s hi hs=>by
  have dP:s.length≤i:=by rw[hs];exact Q0 l many i
  refine⟨bif oH l many i then s++[l.getD i pd] else s,?_,?_⟩
  ·show C7 k _ l many i s=_;unfold C7;have c1:decide ((0:Int)≤(i:Int))=true:=by simp
   have c2:decide ((i:Int)≤(l.length:Int))=true:=by grind
   have QC:=Ky (k:=k) (l:=l.take i) (by grind) (by show(l.take i).length≤1000;grind) (l.getD i pd).2.1;simp only[zW,qD hi (by grind),qM,aC,ag hi,lu (show s.length≤1000 by omega),c2,QC];unfold oH wQ;cases e1:decide ((l.getD i (0,(0,(0,(0,(0,(0,0))))))).2.1≥0) with
   |false=>rfl
   |true=>
    cases e2:decide ((l.getD i (0,(0,(0,(0,(0,(0,0))))))).2.1<(many.length:Int)) with
    |false=>rfl
    |true=>
     rw[bO] at e1 e2;have hb:zC (l.getD i (0,(0,(0,(0,(0,(0,0))))))).2.1 many.length=true:=vx e1 (by omega);grind
  ·show _=kG l many i++_;grind) (s:=[]) hk rfl
 have eL:C6 k k l many 0 []=some s':=h1;rw[eL,h2];rfl
theorem vJi {k}{B:BT}{l}(hk:l.length<k)(hl:qN l)(hn:B.1.length<k)(hn':B.1.length≤1000):
  xp k k 0 B.1 B.2.1 B.2.2.1 B.2.2.2 l []=some (B.1,B.2.1,B.2.2.1,B.2.2.2,l,fk l B.1.length):=by
 obtain ⟨s', h1, h2⟩ := yZ (L := fun n i (s : AC) => xp k n i B.1 B.2.1 B.2.2.1 B.2.2.2 l s) (N := B.1.length) (fun s => (B.1, B.2.1, B.2.2.1, B.2.2.2, l, s)) (fun i s => s = fk l i) (fun n s _=>by
  show C8 k _ B.1.length B.1 B.2.1 B.2.2.1 B.2.2.2 l s=_;unfold C8;simp) (fun n i s hi hs=>by
  refine⟨_,?_,(yEj l i).symm⟩;show C8 k _ i B.1 B.2.1 B.2.2.1 B.2.2.2 l s=_;unfold C8;have hr:zR (s.length+1) 8=true:=by rw[hs,tg];exact qT (by omega) (by omega)
  simp[ag hi,Ky hk hl,hr,qD hi (by grind)];rw[hs];rfl) (s:=[]) hn rfl
 simp_all
theorem vA2 {k}{B:BT}{l:List zG}{s m}(hk:s.length<k)(hs:s.length≤1000)(dZ:∀x∈s,0≤x∧x<(m.length:Int))(h0:mm m)(hm:∀i,m.getD i 0≤1000) bc:
  C9 k k bc 0 B.1 B.2.1 B.2.2.1 B.2.2.2 l m s=some (bc,B.1,B.2.1,B.2.2.1,B.2.2.2,l,wX s m):=by
 obtain ⟨s', h1, h2⟩ := yZ (L := fun n i (r : AC) => C9 k n bc i B.1 B.2.1 B.2.2.1 B.2.2.2 l r s) (N := s.length) (fun r => (bc, B.1, B.2.1, B.2.2.1, B.2.2.2, l, r)) (fun i r => r = wX (s.take i) m) (fun n r _=>by
  show Da k _ bc s.length B.1 B.2.1 B.2.2.1 B.2.2.2 l r s=_;unfold Da;simp) (fun n i r hi hr=>by
  refine⟨_,?_,(yLj s m i hi).symm⟩;show Da k _ bc i B.1 B.2.1 B.2.2.1 B.2.2.2 l r s=_;unfold Da;obtain⟨b1,b2⟩:=dZ _ (eO (d:=0) hi);have rZ:r.length=m.length:=by rw[hr,qe]
  have hb:zC (s.getD i 0) r.length=true:=vx b1 (by omega);have PY:=GI (s.take i) m (s.getD i 0).toNat;have EU:=h0 (s.getD i 0).toNat;have sD:=hm (s.getD i 0).toNat;have bd:(s.take i).length≤s.length:=by grind
  have hw:zA (r.getD (s.getD i 0).toNat 0-1)=r.getD (s.getD i 0).toNat 0-1:=by
   rw[hr];exact zN (by omega) (by omega)
  simp only[qM,zW,aC,ag hi,av,hb,hw,qD hi (by grind)];rw[hr]) (s:=m) hk rfl
 simp_all
theorem vR5 {k}(hk:100<k){B}(hb:qL B){l}(hl:∀q∈l,qY B.1.length q)(bT:l.length≤64){m f n}(h:iA B l m f n):
  ∀N (s7:Int),m.length=B.1.length→mm m→(∀i,m.getD i 0≤1000)→n<N→0≤s7→s7+n<1000000→
  Ho k N s7 B.1 B.2.1 B.2.2.1 B.2.2.2 l m=some (s7+n,f):=by
 induction h with
 |@stop m h=>
  intro N s7 hm h0 h1 hn hs uR;obtain⟨N,rfl⟩:∃x,N=x+1:=⟨N-1,by omega⟩;show Db k _ s7 B.1 B.2.1 B.2.2.1 B.2.2.2 l m=_;unfold Db;have hS:=yHh hk hb (GJ hl bT m);have lR:pW k B.1 B.2.1 B.2.2.1 B.2.2.2 (yX l m)=some (wS B (yX l m)):=hS;rw[RO (by omega) (show qN l by show l.length≤1000;omega)];simp_all
 |@step m f n h h' ih=>
  intro N s7 hm h0 h1 hn hs uR;obtain⟨N,rfl⟩:∃x,N=x+1:=⟨N-1,by omega⟩;have eQ:=hb.n6;show Db k _ s7 B.1 B.2.1 B.2.2.1 B.2.2.2 l m=_;unfold Db;have hS:=yHh hk hb (GJ hl bT m);have lR:pW k B.1 B.2.1 B.2.2.1 B.2.2.2 (yX l m)=some (wS B (yX l m)):=hS;rw[RO (by omega) (show qN l by show l.length≤1000;omega)];simp only[ak];rw[lR];simp only[ak];have w:zA (s7+1)=s7+1:=zN (by omega) (by omega);have bj : decide ((((wS B (yX l m)).length : Nat) : Int) = 0) = false := ai (by
   have:=List.length_pos_iff.2 h;omega)
  have dP:(wS B (yX l m)).length≤B.1.length:=by
   unfold wS pY;grind
  rw[bj];simp;rw[vA2 (by omega) (by omega) (by rw[hm];exact QZ) h0 h1];simp[w];have Q8:=KY hl hm h0;have:=ih N (s7+1) ((qe _ _).trans hm) Q8 (fun i=>by have:=(GI (wS B (yX l m)) m i).2;have:=h1 i;omega) (by omega) (by omega) (by omega);rw[this]
  congr 2
  omega
theorem vK7 {k}(hk:100<k){B}(hb:qL B){l}(hl:∀q∈l,qY B.1.length q)(bT:l.length≤64) t {f n}(hn:n≤l.length)(h:iA B (yQ l t) (fk (yQ l t) B.1.length) f n):
  LH k B.1 B.2.1 B.2.2.1 B.2.2.2 l t=some (f,((n+1:Nat):Int)):=by
 have eQ:=hb.n6;have hr:=th l t;have h1:=KZ (l:=yQ l t) (by omega) B.1.length;unfold LH;rw[QA (by omega) (by show l.length≤1000;omega)];simp;have e:xp k k 0 B.1 B.2.1 B.2.2.1 B.2.2.2 (l.filter (gK t)) []=_:=vJi (k:=k) (B:=B) (l:=yQ l t) (by omega) (by show(yQ l t).length≤1000;omega) (by omega) (by omega);rw[e];simp;rw[vR5 hk hb (GK hl) (by omega) h k 1 (tg _ _) h1.1 h1.2 (by omega) (by omega) (by omega)];grind
theorem yTh {k}{C:BT}{l hs:List zG}(hl:l.length<k)(dt:l.length≤1000)(hk:hs.length<k)(hh:hs.length≤1000):
  xq k k l 0 hs C.1 C.2.1 C.2.2.1 C.2.2.2=some (mn l hs,hs,C.1,C.2.1,C.2.2.1,C.2.2.2):=by
 obtain ⟨s', h1, h2⟩ := yZ (L := fun n i (s : List zG) => xq k n s i hs C.1 C.2.1 C.2.2.1 C.2.2.2) (N := hs.length) (fun s => (s, hs, C.1, C.2.1, C.2.2.1, C.2.2.2)) (fun i s => s = mn l (hs.take i)) (fun n s _=>by
  show Dc k _ s hs.length hs C.1 C.2.1 C.2.2.1 C.2.2.2=_;unfold Dc;simp) (fun n i s hi hr=>by
  refine⟨_,?_,(yK5 l hs i hi).symm⟩;show Dc k _ s i hs C.1 C.2.1 C.2.2.1 C.2.2.2=_;unfold Dc;have dP:=(K0 (hs.take i) l).1;rw[←hr] at dP⊢;simp[zW,ag hi,qo (show s.length<k by omega) (show qN s by show s.length≤1000;omega),qD hi (by grind)];rfl) (s:=l) hk rfl
 simp_all
theorem yZi {k}(hk:100<k){B}(hb:qL B){l}(hl:∀q∈l,qY B.1.length q)(bT:l.length≤64) t {f n}(hn:n≤l.length)(h:iA B (yQ l t) (fk (yQ l t) B.1.length) f n)
  {r:List qQ×EQ×AC×EQ×Int} (hr:we k B.1 B.2.1 B.2.2.1 B.2.2.2 (yX (yQ l t) f)=some r):Hq k B.1 B.2.1 B.2.2.1 B.2.2.2 l t=some (B7 B l (yX (yQ l t) f) r):=by
 have rZ:=th l t;have K2:=(tf (yQ l t) f).length_le;unfold Hq;rw[vK7 hk hb hl bT t hn h,QA (by omega) (by show l.length≤1000;omega)];simp;have e:C5 k (l.filter (gK t)) f=_:=RO (k:=k) (l:=yQ l t) (by omega) (by show(yQ l t).length≤1000;omega) f;rw[e];simp;rw[hr];simp;unfold B7;cases decide (r.2.2.2.2=0) with
 |false=>rfl
 |true=>
  have e2:xq k k l 0 (yX (yQ l t) f) r.1 r.2.1 r.2.2.1 r.2.2.2.1=_:=yTh (C:=(r.1,r.2.1,r.2.2.1,r.2.2.2.1)) (by omega) (by omega) (by omega) (by omega);simp_all
theorem fj.books {k}(hk:100<k){t B C l done m}(h:fj k t B l done C m)(hb:qL B)(hd:qI l):qL C∧C.1.length=B.1.length∧List.Sublist m l:=by
 induction h with
 |stop _=>simp_all
 |step h _ ih=>
  obtain⟨hp,hg⟩:=wz h;obtain⟨h1,h2⟩:=qc (BX hp);obtain⟨h3,h4⟩:=oF hk hb (by simp) hg;obtain⟨g1,g2,g3⟩:=ih h3 (List.Pairwise.sublist h2 hd);exact⟨g1,g2.trans h4,g3.trans h2⟩
theorem wR.books {k}(hk:100<k){t B C l done m}(h:wR k t B l done C m)(hb:qL B)(hd:qI l):qL C∧C.1.length=B.1.length∧List.Sublist m l:=by
 induction h with
 |stop _=>simp_all
 |step h _ ih=>
  obtain⟨hp,hq,mj,hg⟩:=B2 h;obtain⟨h1,h2⟩:=B3 hd hp hq mj;obtain⟨h3,h4⟩:=oF hk hb (by simp) hg;obtain⟨g1,g2,g3⟩:=ih h3 (List.Pairwise.sublist h2 hd);exact⟨g1,g2.trans h4,g3.trans h2⟩
theorem yUg {k}(hk:200≤k){t B C l m done}(h:j7 k t B l done C m):∀n (r:List zG),qL B→qI l→l.length≤100→l.length<n→r.length+l.length≤900→
  Hr k n l t B.1 B.2.1 B.2.2.1 B.2.2.2 r=some (m,C.1,C.2.1,C.2.2.1,C.2.2.2,r++done):=by
 induction h with
 |@stop B C l m d h1 h2=>
  intro n r hb hd hl hn hr;obtain⟨n,rfl⟩:∃x,n=x+1:=⟨n-1,by omega⟩;have p1:=h1.perm hd;have l1:=p1.length_eq;rw[List.length_append] at l1;obtain⟨g1,g2,g3⟩:=h1.books (by omega) hb hd;have f1:=yOm hk hb hl h1;have f2:=yFt hk g1 (List.Pairwise.sublist g3 hd) (by omega) (wR.stop (t:=t) h2);have r1:zR (r.length+d.length) 56=true:=qT (by omega) (by omega);show Dd k _ l t B.1 B.2.1 B.2.2.1 B.2.2.2 r=_;unfold Dd;grind
 |@step B C D E l m n' o d e f h1 h2 ne h' ih=>
  intro n r hb hd hl hn hr;obtain⟨n,rfl⟩:∃x,n=x+1:=⟨n-1,by omega⟩;have p1:=h1.perm hd;have l1:=p1.length_eq;rw[List.length_append] at l1;obtain⟨g1,g2,g3⟩:=h1.books (by omega) hb hd;have hm:qI m:=List.Pairwise.sublist g3 hd;have p2:=h2.perm hm;have l2:=p2.length_eq;rw[List.length_append] at l2;obtain⟨k1,k2,k3⟩:=h2.books (by omega) g1 hm;have f1:=yOm hk hb hl h1;have f2:=yFt hk g1 hm (by omega) h2;have jn:=List.length_pos_iff.2 ne;have r1:zR (r.length+d.length) 56=true:=qT (by omega) (by omega);have r2:zR ((r++d).length+e.length) 56=true:=qT (by rw[List.length_append];omega) (by rw[List.length_append];omega);have:=ih n (r++d++e) k1 (List.Pairwise.sublist k3 hm) (by omega) (by omega) (by simp;omega);show Dd k _ l t B.1 B.2.1 B.2.2.1 B.2.2.2 r=_;unfold Dd;grind
theorem yLz {k}(hk:200≤k){t B C l m done}(hb:qL B)(hd:qI l)(hl:l.length≤100)(h:j7 k t B l done C m):
  Hs k B.1 B.2.1 B.2.2.1 B.2.2.2 l t=some (C.1,C.2.1,C.2.2.1,C.2.2.2,m,done):=by
 unfold Hs;rw[yUg hk h k [] hb hd hl (by omega) (by grind)];rfl
theorem vSd {k}(hk:200≤k){B}(hb:qL B){l:List zG}(hl:∀q∈l,qY B.1.length q)(bT:l.length≤64) t:
  ∃r,w7 k B.1 B.2.1 B.2.2.1 B.2.2.2 l t=some r∧Hq k B.1 B.2.1 B.2.2.1 B.2.2.2 l t=some r:=by
 obtain⟨f,n,h,hn⟩:=Q1 hb hl bT t;have rZ:=th l t;have K2:=(tf (yQ l t) f).length_le;obtain⟨r,h1,h2,h3⟩:=BW (k:=k) (by omega) hb (l:=yX (yQ l t) f) (by omega);exact⟨_,Q9 (k:=k) (by omega) hb hl bT t (by omega) h h1,yZi (k:=k) (by omega) hb hl bT t (by omega) h h2⟩
theorem vIi {k}(hk:200≤k){B}(hb:qL B){l}(hd:qI l)(hl:∀q∈l,qY B.1.length q)(bT:l.length≤64) t all:
  ∃(C:BT) (m done:List zG),tj k B.1 B.2.1 B.2.2.1 B.2.2.2 l t all=some (C.1,C.2.1,C.2.2.1,C.2.2.2,m,done)∧LI k B.1 B.2.1 B.2.2.1 B.2.2.2 l t all=some (C.1,C.2.1,C.2.2.1,C.2.2.2,m,done)∧
   qL C∧C.1.length=B.1.length∧List.Sublist m l∧List.Perm (done++m) l∧jT k C (vO m t)=none∧jN k C m t=none:=by
 obtain⟨C,m,d,f1,f2,f3,f4,f5⟩:=Ch hk hb hd (by omega) t;have fr:=yLz hk hb hd (by omega) f2;have p1:=f2.perm hd;have l1:=p1.length_eq;rw[List.length_append] at l1;unfold tj LI;rw[f1,fr];simp only[ak];cases all with
 |false=>exact⟨C,m,d,rfl,rfl,f3,f4,f5,p1,f2.final⟩
 |true=>
  have hm:qI m:=List.Pairwise.sublist f5 hd;have hmm:∀q∈m,qY C.1.length q:=by grind
  obtain⟨D,n,x,g1,g2,g3,g4,g5,g6⟩:=Ra hk f3 hm hmm (by omega) t;obtain⟨R,r1,r2⟩:=vSd hk f3 hmm (by omega) t;have hR:R=(D.1,D.2.1,D.2.2.1,D.2.2.2,n,x):=by rw[g1] at r1;exact(Option.some.inj r1).symm
  subst hR;have l2:=g5.length_eq;rw[List.length_append] at l2;rw[g1,r2];simp only[ak];cases x with
  |nil=>
   obtain⟨rfl,rfl⟩:=g6 rfl;exact⟨D,n,d,rfl,rfl,f3,f4,f5,p1,f2.final⟩
  |cons p x=>
   have e1:decide ((((p::x).length:Nat):Int)=0)=false:=ai (by simp;omega);rw[e1];have hn:qI n:=List.Pairwise.sublist g4 hm;obtain⟨E,o,y,k1,k2,k3,k4,k5⟩:=Ch hk g2 hn (by omega) t;have kr:=yLz hk g2 hn (by omega) k2;have p3:=k2.perm hn;have l3:=p3.length_eq;rw[List.length_append] at l3;have e2:zR (d.length+(p::x).length) 56=true:=qT (by simp at l2⊢;omega) (by simp at l2⊢;omega);have e3:zR ((d++(p::x)).length+y.length) 56=true:=qT (by simp at l2⊢;omega) (by simp at l2⊢;omega);rw[k1,kr];simp only[ak,e2,e3,av];refine⟨E,o,d++(p::x)++y,rfl,rfl,k3,k4.trans (g3.trans f4),k5.trans (g4.trans f5),?_,k2.final⟩;have e4:d++(p::x)++y++o=d++((p::x)++(y++o)):=by simp
   rw[e4];exact by grind
theorem qT4 {B:BT}(hb:qL B){m:List zG}(hd:qI m)(hm:∀q∈m,qY B.1.length q)(bT:m.length≤64)(t:Int)(pr:AC)(ho:EQ)(ids:AC)(to:Int)(ov all:Bool):
  ∃(C:BT) (m' d:List zG),qg 1000 t B.1 B.2.1 B.2.2.1 B.2.2.2 pr ho m ids to ov all=some (t,C.1,C.2.1,C.2.2.1,C.2.2.2,pr,ho,m',ids,to,ov,vD d)∧
   lA 1000 t B.1 B.2.1 B.2.2.1 B.2.2.2 pr ho m ids to ov all=some (t,C.1,C.2.1,C.2.2.1,C.2.2.2,pr,ho,m',ids,to,ov,vD d)∧qL C∧jO B C∧List.Sublist m' m∧List.Perm (d++m') m∧jT 1000 C (vO m' t)=none:=by
 obtain⟨C,m',d,f1,fr,f2,f3,f4,f5,f6,f7⟩:=vIi (k:=1000) (by decide) hb hd hm bT t all;have hlen:=f5.length_eq;rw[List.length_append] at hlen;refine⟨C,m',d,?_,?_,f2,yM3 (by decide) hb hd hm bT t all f1,f4,f5,f6⟩
 ·unfold qg;rw[f1];simp only[ak];rw[qVu (by omega) (by omega)];rfl
 ·unfold lA;rw[fr];simp only[ak];rw[yY2 (by omega) (by omega)];rfl
theorem LJ kd a:jA 1000 kd [a]=some (kd,a,0,0,0,0,0):=by rfl
theorem Of0 kd:jA 1000 kd []=some (kd,0,0,0,0,0,0):=by rfl
theorem Of5 kd a b c d e:jA 1000 kd [a,b,c,d,e]=some (kd,a,b,c,d,e,0):=by rfl
theorem yV4 (s:qG)(hm:s.m.length≤100)(b:Int×Int×Bool):tH 1000 1000 s.m 0 s.st b []=some (s.st,b,s.m.map (vS 22)):=by
 obtain ⟨s', h1, h2⟩ := yZ (L := fun n i (o : List yB) => tH 1000 n s.m i s.st b o) (N := s.m.length) (fun o => (s.st, b, o)) (fun i o => o = (s.m.take i).map (vS 22)) (fun n o _=>by
  show De 1000 (tH 1000 n) s.m s.m.length s.st b o=_;unfold De;simp) (fun n i o hi ho=>by
  refine⟨_,?_,(yLw (vS 22) s.m i pd hi).symm⟩;show De 1000 (tH 1000 n) s.m i s.st b o=_;unfold De;have dP:o.length≤900:=by grind
  rw[ag (by grind),zW,ag hi,aC,LJ,qD hi (by omega)];simp only[tl (show o.length≤1000 by omega)];rw[ho];rfl) (s:=[]) (show s.m.length<1000 by omega) rfl
 simp_all
theorem vRi (s:qG)(hB:s.B.1.length≤6)(b:Int×Int×Bool)(l:List yB)(hl:l.length≤100):tI 1000 1000 0 s.st b l=some (s.st,b,l++gd s.B s.B.1.length):=by
 have ea:s.st.2.1=s.B.1:=rfl;obtain ⟨s', h1, h2⟩ := yZ (L := fun n i (o : List yB) => tI 1000 n i s.st b o) (N := s.B.1.length) (fun o => (s.st, b, o)) (fun i o => o = l ++ gd s.B i) (fun n o _=>by
  show Df 1000 (tI 1000 n) s.B.1.length s.st b o=_;unfold Df;simp_all) (fun n i o hi ho=>by
  refine⟨_,?_,(show l++gd s.B i++[tp s.B i]=l++gd s.B (i+1) by rw[qWd,List.append_assoc])⟩;show Df 1000 (tI 1000 n) i s.st b o=_;unfold Df;have dP:o.length≤900:=by
   rw[ho,List.length_append];unfold gd;grind
  rw[ea,ag (by grind),zW,ag hi,aC,LJ,qD hi (by omega)];simp only[tl (show o.length≤1000 by omega)];rw[ho];rfl) (s:=l) (show s.B.1.length<1000 by omega) (by show _=_++[];simp)
 simp_all
theorem vCa {a b p}(hd:qI (a++p::b)):fJ (a++p::b) p.1=(a++b,p.1,p.2.1,p.2.2.1,p.2.2.2.1,p.2.2.2.2.1,p.2.2.2.2.2.1,p.2.2.2.2.2.2,0):=by
 have hl:a.length<(a++p::b).length:=by simp
 have hg:(a++p::b).getD a.length pd=p:=by simp
 have hp:=qU3 hd hl;rw[hg] at hp;unfold jU at hp;unfold fJ;cases hx:vE (a++p::b) p.1 with
 |none=>simp_all
 |some x=>
  rw[hx] at hp;simp only at hp;obtain rfl:x=a.length:=by omega
  unfold qU;simp
theorem vPh (r:qS)(s:qG)(hd:qI s.m)(hm:s.m.length≤100)(b:Int×Int×Bool):
  qx 1000 1000 s.m 0 r s.st b []=some (r,qG.st {s with m:=s.m.filter (fun p=> !yT s.t p)},b,(s.m.filter (yT s.t)).map (vS 21)):=by
 obtain ⟨s', h1, h2, h3⟩ := yZ (L := fun n i (x : List zG × List yB) => qx 1000 n s.m i r (qG.st { s with m := x.1 }) b x.2) (N := s.m.length) (fun x => (r, qG.st { s with m := x.1 }, b, x.2)) (fun i x => x.1 = (s.m.take i).filter (fun p => !yT s.t p) ++ s.m.drop i ∧ x.2 = ((s.m.take i).filter (yT s.t)).map (vS 21)) (fun n x _=>by
  show Dg 1000 (qx 1000 n) s.m s.m.length r _ b _=_;unfold Dg;rw [ai (Int.lt_irrefl _)]; rfl) (fun n i x hi hx=>by
  have f1:=wm (yT s.t) s.m i pd hi;have f2:=wm (fun p=> !yT s.t p) s.m i pd hi;have hdr:s.m.drop i=s.m.getD i pd::s.m.drop (i+1):=by rw[List.drop_eq_getElem_cons hi,j9 _ hi]
  have kZ:x.2.length≤900:=by
   rw[hx.2,List.length_map];have:=List.length_filter_le (yT s.t) (s.m.take i);rw[List.length_take] at this;omega
  have pt:x.1.length≤s.m.length:=by
   rw[hx.1,List.length_append,List.length_drop];have:=List.length_filter_le (fun p=> !yT s.t p) (s.m.take i);rw[List.length_take] at this;omega
  have cB:List.Sublist x.1 s.m:=by
   have h:=List.Sublist.append (List.filter_sublist (p:=fun p=> !yT s.t p) (l:=s.m.take i)) (List.Sublist.refl (s.m.drop i));rw[List.take_append_drop] at h;rw[hx.1];exact h
  have hdx:qI x.1:=List.Pairwise.sublist cB hd;have e0:∀p:zG,RP 1000 p.1 p.2.1 p.2.2.1 p.2.2.2.1 p.2.2.2.2.1 p.2.2.2.2.2.1 p.2.2.2.2.2.2 s.t=some (yT s.t p):=fun p=>rfl
  have ed:s.m.getD i (0,0,0,0,0,0,0)=s.m.getD i pd:=rfl;have et:(qG.st {s with m:=x.1}).1=s.t:=rfl;have em:(qG.st {s with m:=x.1}).2.2.2.2.2.2.2.1=x.1:=rfl;show∃s',Dg 1000 (qx 1000 n) s.m i r (qG.st {s with m:=x.1}) b x.2=_∧_;unfold Dg;rw[ag (show(i:Int)<s.m.length by omega),zW,ag hi,aC,ed,et,em,e0,LJ,qD hi (by omega),qo (by omega) (by unfold qN;omega)];simp only[av,ak,tl (show x.2.length≤1000 by omega)];cases hb:yT s.t (s.m.getD i pd) with
  |true=>
   have cS:=hx.1;rw[hdr] at cS;have e1:=vCa (a:=(s.m.take i).filter (fun p=> !yT s.t p)) (b:=s.m.drop (i+1)) (p:=s.m.getD i pd) (by rw[←cS];exact hdx);rw[←cS] at e1;rw[e1];refine⟨((s.m.take i).filter (fun p=> !yT s.t p)++s.m.drop (i+1),x.2++[vS 21 (s.m.getD i pd)]),rfl,?_,?_⟩
   ·show _=_;rw[f2,hb];simp
   ·show x.2++_=_;rw[f1,hb,hx.2];simp
  |false=>
   refine⟨x,rfl,?_,?_⟩
   ·rw[f2,hb,hx.1,hdr];simp
   ·rw[f1,hb,hx.2];simp) (s:=(s.m,[])) (show s.m.length<1000 by omega) ⟨by simp,rfl⟩
 rw[List.take_length,List.drop_length,List.append_nil] at h2;rw[List.take_length] at h3;have eL:qx 1000 1000 s.m 0 r s.st b []=_:=h1;rw[eL,h2,h3]
theorem vQg (r:qS){s:qG}(hb:qL s.B)(hd:qI s.m)(hm:∀q∈s.m,qY s.B.1.length q)(bT:s.m.length≤64)(ht:0≤s.t∧s.t<1099511627776)(GV:r.2.2.2.2≠0)(ho:s.ov=false):
  ∃x:Int×List qQ×wH×AC×wH×AC×wH×List zG×AC×Int×Bool×List yB,tq 1000 r.1 r.2.1 r.2.2.1 r.2.2.2.1 r.2.2.2.2 s.t s.B.1 s.B.2.1 s.B.2.2.1 s.B.2.2.2 s.pr s.ho s.m s.ids s.to s.ov=some x∧Dh 1000 r s.st=some (qR x,x.2.2.2.2.2.2.2.2.2.2.2):=by
 have eQ:=hb.n6;have w:zA (s.t+1)=s.t+1:=zN (by omega) (by omega);have eR:Dh 1000 r s.st=bif s.ov then some (s.st,[])
  else(LK 1000 r (zA (s.t+1))).bind fun x0=>
  bif x0 then ((tH 1000 1000 s.m 0 ((zA (s.t+1)),s.st.2) (0,0,false) []).bind fun z=>
   (tI 1000 1000 0 z.1 z.2.1 z.2.2).bind fun z1=>
   some ((gQ z1.1 ([],z1.1.2.2.2.2.2.2.2.2.1,z1.1.2.2.2.2.2.2.2.2.2.1,true)),z1.2.2))
  else(qx 1000 1000 s.m 0 r ((zA (s.t+1)),s.st.2) (0,0,false) []).bind fun z2=>
  (Ht 1000 z2.1 z2.2.1.1).bind fun x6=>
  (lA 1000 z2.2.1.1 z2.2.1.2.1 z2.2.1.2.2.1 z2.2.1.2.2.2.1 z2.2.1.2.2.2.2.1 z2.2.1.2.2.2.2.2.1 z2.2.1.2.2.2.2.2.2.1 z2.2.1.2.2.2.2.2.2.2.1 z2.2.1.2.2.2.2.2.2.2.2.1 z2.2.1.2.2.2.2.2.2.2.2.2.1 z2.2.1.2.2.2.2.2.2.2.2.2.2 x6).bind fun x7=>
  bif zR (z2.2.2.2.length+x7.2.2.2.2.2.2.2.2.2.2.2.length) 64 then some ((qR x7),(z2.2.2.2++x7.2.2.2.2.2.2.2.2.2.2.2))
  else none:=rfl
 have eT:((s.t+1,s.st.2):ql)=qG.st {s with t:=s.t+1}:=rfl;rw[eR,w,eT,ho];unfold tq xa LK;simp only[w,ay,ak];cases hc:decide (s.t+1=r.2.2.2.1) with
 |true=>
  simp only[av];rw[yBu eQ (by decide) (by omega)];have c0:=yV4 {s with t:=s.t+1,ov:=false} (by show s.m.length≤100;omega) (0,0,false);have c1:=vRi {s with t:=s.t+1,ov:=false} (by show s.B.1.length≤6;exact eQ) (0,0,false) (s.m.map (vS 22)) (by rw[List.length_map];omega);refine⟨_,rfl,?_⟩;refine(congrArg (fun z=>Option.bind z _) c0).trans ?_;refine(congrArg (fun z=>Option.bind z _) c1).trans ?_;rfl
 |false=>
  simp only[ay];rw[yAt (by decide) (by omega)];have c2:=vPh r {s with t:=s.t+1,ov:=false} hd (by show s.m.length≤100;omega) (0,0,false);have hs:∃x,Cw 1000 r.1 r.2.1 r.2.2.1 r.2.2.2.1 r.2.2.2.2 (s.t+1)=some x∧Ht 1000 r (s.t+1)=some x:=by
   unfold Cw Ht;cases decide (s.t+1>0) with
   |false=>exact⟨_,rfl,rfl⟩
   |true=>
    cases decide (s.t+1<r.2.2.2.1) with
    |false=>exact⟨_,rfl,rfl⟩
    |true=>
     have:decide (r.2.2.2.2=0)=false:=ai GV;rw[this];exact⟨_,rfl,rfl⟩
  obtain⟨x,hx,mE⟩:=hs;simp only[ak];rw[hx];have cB:List.Sublist (s.m.filter (fun p=> !yT (s.t+1) p)) s.m:=List.filter_sublist;have dP:=cB.length_le;have oJ:qI (s.m.filter (fun p=> !yT (s.t+1) p)):=List.Pairwise.sublist cB hd;obtain⟨C,m',d,f1,f1',f2,f3,f4,f5,f6⟩:=qT4 hb oJ (by grind) (by omega) (s.t+1) s.pr s.ho s.ids s.to false x;have hlen:=f5.length_eq;rw[List.length_append] at hlen;have hla:(s.m.filter (yT (s.t+1))).length≤s.m.length:=by grind
  have zr:=Ck d;have hr:zR (((s.m.filter (yT (s.t+1))).map (vS 21)).length+(vD d).length) 64=true:=qT (by rw[List.length_map];omega) (by rw[List.length_map];omega);simp only[ak];rw[f1];simp only[ak,hr,av];refine⟨_,rfl,?_⟩;refine(congrArg (fun z=>Option.bind z _) c2).trans ?_;simp only[ak];refine(congrArg (fun z=>Option.bind z _) mE).trans ?_;have RQ:lA 1000 (s.t+1) s.B.1 s.B.2.1 s.B.2.2.1 s.B.2.2.2 s.pr s.ho (s.m.filter (fun p=> !yT (s.t+1) p)) s.ids s.to false x=_:=f1';refine(congrArg (fun z=>Option.bind z _) RQ).trans ?_;grind
theorem yO.settled {r s}(h:yO r s)(ho:s.ov=false){C}(hc:qL C)(kc:jO s.B C){m}(hm:List.Sublist m s.m):yO r {s with B:=C,m:=m}:=by
  have hl:=kc.len;exact{
    tk:=h.tk
    bk:=hc
    n:=by rw[hl];exact h.n
    hol:=by rw[hl];exact h.hol
    laid:=by rw[hl];exact h.laid
    cred:=by rw[hl];intro i hi;rw[kc.cred i hi];exact h.cred i hi
    most:=by rw[hl];intro i hi;rw[kc.cred i hi];exact h.most i hi
    waits:=by rw[hl];exact h.waits.sub hm
    sum:=by rw[hl,kc.sum];exact h.sum
    tot:=h.tot
    over:=h.over
    none:=by grind}
theorem vE0 {k}(hk:1000≤k){r}(hr:wT r){s}(h:yO r s)(ho:s.ov=false):
    ∃(C:BT) (m':List zG) (ov:Bool) (o:List yB),tq k r.1 r.2.1 r.2.2.1 r.2.2.2.1 r.2.2.2.2 s.t s.B.1 s.B.2.1 s.B.2.2.1 s.B.2.2.2 s.pr s.ho s.m s.ids s.to s.ov=some (s.t+1,C.1,C.2.1,C.2.2.1,C.2.2.2,s.pr,s.ho,m',s.ids,s.to,ov,o)∧
      yO r {s with t:=s.t+1,B:=C,m:=m',ov:=ov}∧jO s.B C∧(ov=false→jT k C (vO m' (s.t+1))=none)∧o.length≤100∧
      ((ov=true∧m'=[]∧o=s.m.map (vS 22)++gd s.B s.B.1.length∧C=s.B)∨∃l d n,o=l.map (vS 21)++vD d∧List.Perm (l++n) s.m∧List.Perm (d++m') n∧ov=false):=by
  have Ev:=hr.cl;have GV:=hr.pe;have htk:=h.tk;have hn:=h.n;have bd:s.t≠r.2.2.2.1:=by
    have:=h.over;simp_all
  have Dl:=h.bk;have hm:=h.waits.len;rw[ho];obtain⟨C,m',ov,o,e1,e2,e3,e4,e5⟩:=vL6 (k:=k) (by omega) Dl h.waits.dist h.waits.may (by omega) r.1 r.2.1 r.2.2.1 r.2.2.2.1 r.2.2.2.2 s.t (by omega) (by omega) s.pr s.ho s.ids s.to;have hl:=e3.len;refine⟨C,m',ov,o,e1,?_,e3,e4,?_,e5⟩
  · exact{
      tk:=by grind
      bk:=e2.bk
      n:=by simp_all
      hol:=by rw[hl];exact h.hol
      laid:=by rw[hl];exact h.laid
      cred:=by rw[hl];intro i hi;rw[e3.cred i hi];exact h.cred i hi
      most:=by rw[hl];intro i hi;rw[e3.cred i hi];exact h.most i hi
      waits:=by rw[hl];exact h.waits.sub e2.sub
      sum:=by rw[hl,e3.sum];exact h.sum
      tot:=h.tot
      over:=e2.over
      none:=e2.none}
  · have:=e2.room;split at this<;>omega
abbrev qy:=Int×jG
theorem yV2 k kd:∃n,LL k kd=some n∧-1≤n∧n≤6:=by
 have c:∀(b:Bool) (x y:Option Int),(∃n,x=some n∧-1≤n∧n≤6)→(∃n,y=some n∧-1≤n∧n≤6)→∃n,(bif b then x else y)=some n∧-1≤n∧n≤6:=by
  simp_all
 iterate 23 (refine c _ _ _ (by simp) ?_)
 simp
theorem yPx {k}{s:AC}(hs:s.length≤6):∀n i,s.length<i+n→i≤s.length→∃x,qz k n s (s.length:Int) (i:Int)=some x
 |0,i,h,g=>by omega
 |n+1,i,h,g=>by
  show∃x,tJ k (qz k n) s (s.length:Int) (i:Int)=some x;unfold tJ;by_cases hi:i<s.length
  ·simp only[qM,ag hi,zW,aC];cases decide (s.getD i 0=0) with
   |false=>simp
   |true=>
    rw[qD hi (by omega)];exact yPx hs n (i+1) (by omega) hi
  ·simp only[qM,ai hi];simp
theorem yNd {k}(hk:10≤k)(f:jG):∃b,tK k f=some b:=by
 unfold tK;obtain⟨n,h1,h2,h3⟩:=yV2 k f.1;rw[h1];simp;by_cases h0:n<0
 ·simp_all
 ·rw[ai h0,ag (by grind),ag h3];have hl:(qW [f.2.1,f.2.2.1,f.2.2.2.1,f.2.2.2.2.1,f.2.2.2.2.2.1,f.2.2.2.2.2.2] n.toNat (6-n.toNat)).length≤6:=by
   unfold qW;simp
  obtain⟨x,hx⟩:=yPx (k:=k) hl k 0 (by omega) (by simp);rw[show((0:Nat):Int)=0 from rfl] at hx;rw[hx];cases x<;>exact by simp
theorem RR k a:LM k a=some (decide (a≥10)&&decide (a≤14)):=by
 unfold LM;grind
theorem RT k a:Hu k a=some (decide (a≥1)&&decide (a≤14)):=by
 unfold Hu;grind
def yJ3 (A B C D E F G b o:Bool):Int:=
 bif !(D&&C) then 5 else bif !b then 5 else bif B&&C then(bif !E then 5 else bif o&& !G then 7 else 0) else bif !(A&&F) then 5 else bif o&& !G then 7 else 0
theorem vBh:∀{A B C D E F G b o},yJ3 A B C D E F G b o=0→(D&&C&&((B&&E)||(!B&&A&&F))&&(!o||G))=true:=by
 intro A B C D E F G b o h;cases A<;>cases B<;>cases C<;>cases D<;>cases E<;>cases F<;>cases G<;>cases b<;>cases o<;>first|rfl|exact absurd h (by decide)
theorem yYl {k}(hk:10≤k)(r:qS)(s:qG)(c:qy):∃b,tL k r s.st c=some (yJ3 (decide (c.1≥0)) (decide (c.2.1≥10)) (decide (c.2.1≤14)) (decide (c.2.1≥1)) (decide (c.1= -1)) (decide (c.1<r.1)) (decide (c.2.1=9)) b s.ov):=by
 unfold tL;rw[RR,RT];obtain⟨b,hb⟩:=yNd hk c.2;rw[hb];have eo:s.st.2.2.2.2.2.2.2.2.2.2=s.ov:=rfl;rw[eo];refine⟨b,?_⟩;generalize decide (c.1≥0)=A;generalize decide (c.2.1≥10)=B;generalize decide (c.2.1≤14)=C;generalize decide (c.2.1≥1)=D;generalize decide (c.1= -1)=E;generalize decide (c.1<r.1)=F;generalize decide (c.2.1=9)=G;generalize s.ov=o;cases A<;>cases B<;>cases C<;>cases D<;>cases E<;>cases F<;>cases G<;>cases b<;>cases o<;>rfl
theorem yZa {k}(hk:10≤k)(r:qS)(s:qG)(c:qy):∃e,tL k r s.st c=some e∧
  (e=0→((10≤c.2.1∧c.2.1≤14∧c.1= -1)∨(1≤c.2.1∧c.2.1≤9∧0≤c.1∧c.1<r.1))∧(s.ov=true→c.2.1=9)):=by
 obtain⟨b,hb⟩:=yYl hk r s c;refine⟨_,hb,fun e=>?_⟩;have:=vBh e;grind
theorem vQ7 r s who f:(iE r s who f).2.t=s.t∧(iE r s who f).2.ov=s.ov∧(iE r s who f).2.to=s.to:=by
 unfold iE;cases decide (f.1=5) with
 |true=>
  cases !((decide (f.2.1≥0)&&decide (f.2.1≤r.1-1))&& !decide (f.2.1=who))<;>cases !(decide (f.2.2.1≥-1)&&decide (f.2.2.1≤1152921504606846976))<;>exact⟨rfl,rfl,rfl⟩
 |false=>
  cases decide (f.1=6) with
  |true=>cases !(decide (f.2.1≥-1)&&decide (f.2.1≤1152921504606846976))<;>exact⟨rfl,rfl,rfl⟩
  |false=>cases !(decide (f.2.1≥0)&&decide (f.2.1≤1152921504606846976))<;>exact⟨rfl,rfl,rfl⟩
theorem yZf r s who a n:(iF r s who a n).2.t=s.t∧(iF r s who a n).2.ov=s.ov∧(iF r s who a n).2.to=s.to:=by
 unfold iF;cases !(decide (a≥0)&&decide (a≤(r.2.1.length:Int)-1)) with
 |true=>simp
 |false=>
 cases !(decide (n≥0)&&decide (n≤1099511627776)) with
 |true=>simp
 |false=>
 unfold Cy;grind
theorem vCp r s a p:(iH r s a p).2.t=s.t∧(iH r s a p).2.ov=s.ov∧(iH r s a p).2.to=s.to:=by
 unfold iH;cases !(decide (a≥0)&&decide (a≤(r.2.1.length:Int)-1)) with
 |true=>simp
 |false=>
 cases !(decide (p≥0)&&decide (p≤1048576)) with
 |true=>simp
 |false=>
 unfold CP;grind
theorem vBg {r s kd to n}:(iG r s kd to n).2.ov=s.ov:=by
 unfold iG;cases !(decide (to≥0)&&decide (to≤r.1-1)) with
 |true=>rfl
 |false=>
 cases !(decide (n≥1)&&decide (n≤1099511627776)) with
 |true=>rfl
 |false=>
 cases decide (kd=11) with
 |true=>
  unfold Hc;cases decide ((s.B.1.getD to.toNat ad).1+(s.B.1.getD to.toNat ad).2.1-(s.B.1.getD to.toNat ad).2.2<n)<;>cases decide (s.to-n<0)<;>cases decide ((wM (s.B.1.getD to.toNat ad) (-n)).2=0)<;>cases decide (s.to-n>1152921504606846976)<;>rfl
 |false=>
  unfold Hd;cases decide ((wM (s.B.1.getD to.toNat ad) n).2=0)<;>cases decide (s.to+n>1152921504606846976)<;>rfl
theorem vQx {r s who f}:(iD r s who f).2.2.length≤1:=by
 unfold iD;grind
def Kd (o:List yB):Prop:=∀x∈o,x.2.1≠16∧x.2.1≠23
theorem tM:Kd []:=fun x h=>by grind
theorem RU {x}(h:x.2.1≠16∧x.2.1≠23):Kd [x]:=fun y hy=>by simp_all
theorem Kd.append {a b}(h:Kd a)(g:Kd b):Kd (a++b):=fun x hx=>(List.mem_append.1 hx).elim (h x) (g x)
theorem RV:∀d:List zG,Kd (vD d)
 |[]=>tM
 | p :: d => (show Kd [jH p.2.1 p,jH p.2.2.1 p] from fun x hx=>by
   rcases List.mem_cons.1 hx with rfl|hx
   ·exact⟨by nofun,by nofun⟩
   ·rw[List.mem_singleton.1 hx];exact⟨by nofun,by nofun⟩).append (RV d)
theorem yFp {kd}(hk:kd=21∨kd=22)(l:List zG):Kd (l.map (vS kd)):=fun x hx=>by
 obtain⟨p,_,rfl⟩:=List.mem_map.1 hx;show kd≠16∧kd≠23;omega
theorem vF5 {r s who f}:Kd (iD r s who f).2.2:=by
 unfold iD;cases vE s.m f.2.1 with
 |none=>exact tM
 |some x=>
  simp only[];cases !decide ((s.m.getD x pd).2.1=who) with
  |true=>exact tM
  |false=>
  cases decide (f.1=2) with
  |true=>exact RU ⟨by nofun,by nofun⟩
  |false=>
  cases decide (f.1=4) with
  |true=>
   cases !(decide (f.2.2.1≥1)&&decide (f.2.2.1≤3))<;>cases !decide (np r.2.2.1 r.2.2.2.1 s.t f.2.2.1=0)<;>exact tM
  |false=>
  cases decide (f.2.2.1=0)<;>cases decide (f.2.2.1=1)<;>exact tM
def lB (o:List yB):Prop:=∀x∈o,x.2.1≠16
theorem Kd.ne {o}(h:Kd o):lB o:=fun x hx=>(h x hx).1
theorem lB.append {a b}(h:lB a)(g:lB b):lB (a++b):=fun x hx=>(List.mem_append.1 hx).elim (h x) (g x)
theorem vI5 B n:lB (gd B n):=fun x hx=>by
 obtain⟨i,_,rfl⟩:=List.mem_map.1 hx
 nofun
theorem vOi {r:qS}{s:qG}{who:Int}{f:jG}(h:(gf r s who f).1=0):∀x∈(gf r s who f).2.2,x∈s.ids∨x=f.2.1:=by
 unfold gf at h⊢;cases h1:decide (f.2.2.1≥0)&&decide (f.2.2.1≤r.1-1) with
 |false=>exact fun _ h=>.inl h
 |true=>
 cases h2:decide (f.2.2.2.2.1≥1)&&decide (f.2.2.2.2.1≤3) with
 |false=>exact fun _ h=>.inl h
 |true=>
 cases decide (kL r s.t (jQ who f)=0) with
 |false=>exact fun _ h=>.inl h
 |true=>
 cases decide (f.2.1∈s.ids) with
 |true=>exact fun _ h=>.inl h
 |false=>
 cases decide (200≤s.ids.length) with
 |true=>exact fun _ h=>.inl h
 |false=>
 cases(vE s.m f.2.1).isSome with
 |true=>exact fun _ h=>.inl h
 |false=>
 cases decide (40≤s.m.length) with
 |true=>exact fun _ h=>.inl h
 |false=>
  intro x hx;have hx:x∈nh s.ids f.2.1:=hx;unfold nh at hx;have e:=List.takeWhile_append_dropWhile (p:=fun x=>decide (x<f.2.1)) (l:=s.ids);rcases List.mem_append.1 hx with hx|hx
  ·exact .inl (e▸List.mem_append_left _ hx)
  ·rcases List.mem_cons.1 hx with hx|hx
   ·exact .inr hx
   ·exact .inl (e▸List.mem_append_right _ hx)
theorem yYh (r:qS)(s:qG)(who:Int)(f:jG):(iE r s who f).2.ids=s.ids:=by
 unfold iE;cases decide (f.1=5) with
 |true=>cases !((decide (f.2.1≥0)&&decide (f.2.1≤r.1-1))&& !decide (f.2.1=who))<;>cases !(decide (f.2.2.1≥-1)&&decide (f.2.2.1≤1152921504606846976))<;>rfl
 |false=>
  cases decide (f.1=6) with
  |true=>cases !(decide (f.2.1≥-1)&&decide (f.2.1≤1152921504606846976))<;>rfl
  |false=>cases !(decide (f.2.1≥0)&&decide (f.2.1≤1152921504606846976))<;>rfl
theorem yWp (r:qS)(s:qG)(who a n:Int):(iF r s who a n).2.ids=s.ids:=by
 unfold iF;cases !(decide (a≥0)&&decide (a≤(r.2.1.length:Int)-1)) with
 |true=>rfl
 |false=>
 cases !(decide (n≥0)&&decide (n≤1099511627776)) with
 |true=>rfl
 |false=>
 simp only[ay];unfold Cy;generalize (s.ho.getD who.toNat []).set a.toNat n=h;cases decide (gM r.2.1 s.pr h>1152921504606846976) with
 |true=>rfl
 |false=>cases decide (gM r.2.1 s.pr h<(s.B.1.getD who.toNat ad).2.1)&&decide ((s.B.1.getD who.toNat ad).1+gM r.2.1 s.pr h<0)<;>rfl
theorem vKh (r:qS)(s:qG)(a p:Int):(iH r s a p).2.ids=s.ids:=by
 unfold iH;cases !(decide (a≥0)&&decide (a≤(r.2.1.length:Int)-1)) with
 |true=>rfl
 |false=>
 cases !(decide (p≥0)&&decide (p≤1048576)) with
 |true=>rfl
 |false=>
 simp only[ay];unfold CP;cases qA (fun j=> !decide (jV r.2.1 (s.pr.set a.toNat p) s.ho j>1152921504606846976)) s.B.1.length 0<;>rfl
def RW (m:jG)(i:Nat):Int:=[m.2.1,m.2.2.1,m.2.2.2.1,m.2.2.2.2.1,m.2.2.2.2.2.1,m.2.2.2.2.2.2].getD i 0
theorem yTw (x:Int)(m:jG){n:Nat}(hn:n≤6):Dm 1000 1000 x n m=some (bif qA (fun j=>decide (RW m j=0)) (6-n) n then .inl x else .inr false):=
 P0 (L := fun n i => Dm 1000 n x i m) (N := 6) (fun j => decide (RW m j = 0)) (.inl x) (.inr false) (fun n => rfl) (fun n i hi=>by
  show RX 1000 (Dm 1000 n) x i m=_;have:i=0∨i=1∨i=2∨i=3∨i=4∨i=5:=by omega
  rcases this with rfl|rfl|rfl|rfl|rfl|rfl
  ·show(bif !(decide (m.2.1=0)) then _ else _)=bif decide (m.2.1=0) then _ else _
   cases decide (m.2.1=0)<;>rfl
  ·show(bif !(decide (m.2.2.1=0)) then _ else _)=bif decide (m.2.2.1=0) then _ else _
   cases decide (m.2.2.1=0)<;>rfl
  ·show(bif !(decide (m.2.2.2.1=0)) then _ else _)=bif decide (m.2.2.2.1=0) then _ else _
   cases decide (m.2.2.2.1=0)<;>rfl
  ·show(bif !(decide (m.2.2.2.2.1=0)) then _ else _)=bif decide (m.2.2.2.2.1=0) then _ else _
   cases decide (m.2.2.2.2.1=0)<;>rfl
  ·show(bif !(decide (m.2.2.2.2.2.1=0)) then _ else _)=bif decide (m.2.2.2.2.2.1=0) then _ else _
   cases decide (m.2.2.2.2.2.1=0)<;>rfl
  ·show(bif !(decide (m.2.2.2.2.2.2=0)) then _ else _)=bif decide (m.2.2.2.2.2.2=0) then _ else _
   cases decide (m.2.2.2.2.2.2=0)<;>rfl) (6-n) n 1000 (by omega) (by omega)
theorem kN (m:jG)(n:Nat)(hn:n≤6)(h1:LL 1000 m.1=some (n:Int))(h2:RY 1000 m.1=some (n:Int)):Dn 1000 m=tK 1000 m:=by
 unfold Dn tK;rw[h1,h2];have e1:vi false (n:Int) 0=(n:Int):=by
  rfl
 simp only[ak];rw[e1,yTw _ m hn,ai (by simp),ag (by simp),ag (by grind),aC];have hl:(qW [m.2.1,m.2.2.1,m.2.2.2.1,m.2.2.2.2.1,m.2.2.2.2.2.1,m.2.2.2.2.2.2] n (6-n)).length=6-n:=by
  unfold qW;simp
 have := jK (L := fun k i => qz 1000 k (qW [m.2.1, m.2.2.1, m.2.2.2.1, m.2.2.2.2.1, m.2.2.2.2.2.1, m.2.2.2.2.2.2] n (6 - n)) ((6 - n : Nat) : Int) i) (N := 6 - n) (fun j => decide ((qW [m.2.1, m.2.2.1, m.2.2.2.1, m.2.2.2.2.1, m.2.2.2.2.2.1, m.2.2.2.2.2.2] n (6 - n)).getD j 0 = 0)) (.inl ()) (.inr false) (fun k=>by
  show tJ 1000 (qz 1000 k) _ _ _=_;unfold tJ;simp) (fun k i hi=>by
  show tJ 1000 (qz 1000 k) _ _ _=_;unfold tJ;rw[ag (by grind),zW,hl,ag hi,aC,qD hi (by omega)];simp) (n:=1000) (by omega)
 have h':qz 1000 1000 (qW [m.2.1,m.2.2.1,m.2.2.2.1,m.2.2.2.2.1,m.2.2.2.2.2.1,m.2.2.2.2.2.2] n (6-n)) ((6-n:Nat):Int) 0=_:=this;have ea:qA (fun j=>decide (RW m j=0)) (6-n) n=qA (fun j=>decide ((qW [m.2.1,m.2.2.1,m.2.2.2.1,m.2.2.2.2.1,m.2.2.2.2.2.1,m.2.2.2.2.2.2] n (6-n)).getD j 0=0)) (6-n) 0:=by
  have:n=0∨n=1∨n=2∨n=3∨n=4∨n=5∨n=6:=by omega
  rcases this with rfl|rfl|rfl|rfl|rfl|rfl|rfl<;>rfl
 grind
theorem vAj (kd a b c d e f:Int)(h:1≤kd∧kd≤14):Dn 1000 (kd,a,b,c,d,e,f)=tK 1000 (kd,a,b,c,d,e,f):=by
 have:kd=1∨kd=2∨kd=3∨kd=4∨kd=5∨kd=6∨kd=7∨kd=8∨kd=9∨kd=10∨kd=11∨kd=12∨kd=13∨kd=14:=by omega
 rcases this with rfl|rfl|rfl|rfl|rfl|rfl|rfl|rfl|rfl|rfl|rfl|rfl|rfl|rfl
 ·exact kN _ 6 (by decide) rfl rfl
 ·exact kN _ 1 (by decide) rfl rfl
 ·exact kN _ 2 (by decide) rfl rfl
 ·exact kN _ 2 (by decide) rfl rfl
 ·exact kN _ 2 (by decide) rfl rfl
 ·exact kN _ 1 (by decide) rfl rfl
 ·exact kN _ 1 (by decide) rfl rfl
 ·exact kN _ 2 (by decide) rfl rfl
 ·exact kN _ 0 (by decide) rfl rfl
 ·exact kN _ 2 (by decide) rfl rfl
 ·exact kN _ 2 (by decide) rfl rfl
 ·exact kN _ 2 (by decide) rfl rfl
 ·exact kN _ 0 (by decide) rfl rfl
 ·exact kN _ 0 (by decide) rfl rfl
theorem vMb (r:qS)(s:qG)(c:qy){X:Type}(bad:Int→X)(Q:X):∃e,tL 1000 r s.st c=some e∧
  (e=0→((10≤c.2.1∧c.2.1≤14∧c.1= -1)∨(1≤c.2.1∧c.2.1≤9∧0≤c.1∧c.1<r.1))∧(s.ov=true→c.2.1=9))∧
  ((xr 1000 r c).bind fun x0=>some (bif !x0 then bad 5 else bif s.ov then(bif !(decide (c.2.1=9)) then bad 7 else Q) else Q))=some (bif decide (e=0) then Q else bad e):=by
 obtain⟨e,he,hm⟩:=yZa (k:=1000) (by decide) r s c;refine⟨e,he,hm,?_⟩;have hA:LN 1000 c.2.1=some (decide (c.2.1≥1)&&decide (c.2.1≤14)):=by
  unfold LN;cases decide (c.2.1≥1)<;>rfl
 have hH:LO 1000 c.2.1=some (decide (c.2.1≥10)&&decide (c.2.1≤14)):=by
  unfold LO;cases decide (c.2.1≥10)<;>rfl
 by_cases hk:1≤c.2.1∧c.2.1≤14
 ·obtain⟨b,hb⟩:=yNd (k:=1000) (by decide) c.2;have bD:Dn 1000 c.2=some b:=(vAj _ _ _ _ _ _ _ hk).trans hb;have eo:s.st.2.2.2.2.2.2.2.2.2.2=s.ov:=rfl;unfold tL at he;rw[RR,RT,hb,eo] at he;simp only[ak] at he;unfold xr;rw[hA,hH,bD];simp only[ak];clear hm hA hH hb bD;generalize decide (c.1≥0)=A at he⊢;generalize decide (c.2.1≥10)=B at he⊢;generalize decide (c.2.1≤14)=C at he⊢;generalize decide (c.2.1≥1)=D at he⊢;generalize decide (c.1= -1)=E at he⊢;generalize decide (c.1<r.1)=F at he⊢;generalize decide (c.2.1=9)=G at he⊢;generalize s.ov=o at he⊢;cases A<;>cases B<;>cases C<;>cases D<;>cases E<;>cases F<;>cases G<;>cases b<;>cases o<;>(cases he;rfl)
 ·have g:(decide (c.2.1≥1)&&decide (c.2.1≤14))=false:=by
   by_cases a:c.2.1≥1
   ·rw[ag a,ai (fun b=>hk ⟨a,b⟩)];rfl
   ·rw[ai a];rfl
  have e5:e=5:=by
   unfold tL at he;rw[RR,RT,g] at he;simp only[ak] at he;cases hd:decide (c.1≥0)<;>rw[hd] at he<;>(cases he;rfl)
  subst e5;unfold xr;rw[hA,g];rfl
structure Dlt (r:qS) (s:qG) (f:jG) (t:qG) (l:List yB):Prop where
 inv:yO r t
 ov:t.ov=s.ov
 few:l.length≤2
 kd:Kd l
 ids:∀x∈t.ids,x∈s.ids∨x=f.2.1
structure xu (r:qS) (s:qG) (f:jG) (t:qG) (o:List yB) (e:Int):Prop where
 inv:yO r t
 bad:e≠0→t=s∧o=[]
 ne:lB o
 few:o.length≤200
 ids:∀x∈t.ids,x∈s.ids∨x=f.2.1
theorem xu.none {r:qS}{s:qG}{f:jG}(h:yO r s)(e:Int):xu r s f s [] e:=⟨h,fun _=>⟨rfl,rfl⟩,fun x hx=>absurd hx List.not_mem_nil,Nat.zero_le _,fun _ h=>.inl h⟩
theorem kn (who a:Int)(kd:Int)(h:kd≠16∧kd≠23):Kd [kM who kd a]:=RU h
structure Dp (r:qS) (s:qG) (who:Int) (f:jG) (t:qG) (l l':List yB) (paid:Int):Prop where
 dealt:Dlt r s f t l
 told:l=(if who= -1 then l' else kM who 15 0::l')
 paid:paid=if f.1=1 then f.2.1 else 0
 pos:f.1=1→0<f.2.1
theorem vBq {r:qS}{s:qG}{who:Int}{f:jG}(h:(gf r s who f).1=0):0<f.2.1:=by
 unfold gf at h;cases h1:decide (f.2.2.1≥0)&&decide (f.2.2.1≤r.1-1) with
 |false=>rw[h1] at h;cases h
 |true=>
 cases h2:decide (f.2.2.2.2.1≥1)&&decide (f.2.2.2.2.1≤3) with
 |false=>rw[h1,h2] at h;cases h
 |true=>
 rw[h1,h2] at h;simp only[bG,ay] at h;by_cases hc:kL r s.t (jQ who f)=0
 ·unfold kL at hc;cases hb:iC r.1 s.t (jQ who f) with
  |false=>rw[hb] at hc;cases hc
  |true=>
   unfold iC at hb;simp only[bJ,bO] at hb;have:(jQ who f).1≥1:=hb.2.2.1;have e:(jQ who f).1=f.2.1:=rfl;omega
 ·rw[ai hc] at h;exact absurd h hc
theorem yTz {r:qS}(hr:wT r){s:qG}(h:yO r s)(ho:s.ov=false){who:Int}(hw:0≤who∧who<r.1){f:jG}(hf:1≤f.1∧f.1≤8):
  ∃e d d',LP 1000 (dk r s who [kM who 15 0]) f=some (e,d)∧tN 1000 (rk r s who) f=some (e,d')∧(e=0→∃t l l' paid,d=dk r t who l∧d'=qK r t who l' paid∧Dp r s who f t l l' paid):=by
 unfold LP tN;have nX:¬who= -1:=by omega
 have kn:=kn who 0 15 (by decide);by_cases h1:f.1=1
 ·rw[ag h1];obtain⟨d,e1,e2⟩:=vO8 (k:=1000) (by decide) hr h.waits who [kM who 15 0] f;obtain⟨d',q1,q2⟩:=vRm (k:=1000) (by decide) hr h.waits who f;simp only[av];rw[e1,q1];exact⟨_,d,d',rfl,rfl,fun e=>⟨_,_,_,_,e2 e,q2 e,⟨h.queue ho (vPj hr h e),rfl,by simp,kn,vOi e⟩,(if_neg nX).symm,(if_pos h1).symm,fun _=>vBq e⟩⟩
 rw[ai h1];by_cases hq:f.1=2∨f.1=3∨f.1=4
 ·obtain⟨d,e1,e2⟩:=vH6 (k:=1000) (by decide) h.waits who (l:=[kM who 15 0]) (by simp) f;obtain⟨d',q1,q2⟩:=yTc (k:=1000) (by decide) (r:=r) h.waits who f hq;have g:∃e d d',(xd 1000 (dk r s who [kM who 15 0]) f).bind (fun x=>some (x.1,x.2))=some (e,d)∧(xn 1000 (rk r s who) f.1 f.2).bind (fun x=>some (x.1,x.2))=some (e,d')∧(e=0→∃t l l' paid,d=dk r t who l∧d'=qK r t who l' paid∧Dp r s who f t l l' paid):=by
   rw[e1,q1];refine⟨_,d,d',rfl,rfl,fun e=>⟨_,_,_,_,e2 e,q2 e,⟨h.queue ho (vLu h e),rfl,?_,kn.append vF5,fun _ h=>.inl h⟩,?_,(if_neg h1).symm,fun e'=>absurd e' h1⟩⟩
   ·have:=vQx (r:=r) (s:=s) (who:=who) (f:=f);rw[List.length_append];simp;omega
   ·rw[if_neg nX];rfl
  rcases hq with e|e|e
  ·rw[ag e];exact g
  ·rw[ai (show¬f.1=2 by omega),ag e];exact g
  ·rw[ai (show¬f.1=2 by omega),ai (show¬f.1=3 by omega),ag e];exact g
 rw[ai (show¬f.1=2 by omega),ai (show¬f.1=3 by omega),ai (show¬f.1=4 by omega)];by_cases hq:f.1=5∨f.1=6∨f.1=7
 ·obtain⟨d,e1,e2⟩:=vGj (k:=1000) (by decide) hr h.bk h.n hw [kM who 15 0] f;obtain⟨d',q1,q2⟩:=vCg (k:=1000) (by decide) hr h.bk h.n hw f;have g:∃e d d',(xe 1000 (dk r s who [kM who 15 0]) f).bind (fun x=>some (x.1,x.2))=some (e,d)∧(xo 1000 (rk r s who) f.1 f.2).bind (fun x=>some (x.1,x.2))=some (e,d')∧(e=0→∃t l l' paid,d=dk r t who l∧d'=qK r t who l' paid∧Dp r s who f t l l' paid):=by
   rw[e1,q1];have bS:=vQ7 r s who f;exact⟨_,d,d',rfl,rfl,fun e=>⟨_,_,_,_,e2 e,q2 e,⟨vDn h hw e,bS.2.1,by simp,kn,by rw[yYh];exact fun _ h=>.inl h⟩,(if_neg nX).symm,(if_neg h1).symm,fun e'=>absurd e' h1⟩⟩
  rcases hq with e|e|e
  ·rw[ag e];exact g
  ·rw[ai (show¬f.1=5 by omega),ag e];exact g
  ·rw[ai (show¬f.1=5 by omega),ai (show¬f.1=6 by omega),ag e];exact g
 rw[ai (show¬f.1=5 by omega),ai (show¬f.1=6 by omega),ai (show¬f.1=7 by omega),ag (show f.1=8 by omega)];obtain⟨d,e1,e2⟩:=vEv (k:=1000) (by decide) hr h hw [kM who 15 0] f.2.1 f.2.2.1;obtain⟨d',q1,q2⟩:=vRa hr h hw f.2.1 f.2.2.1;simp only[av,ay];rw[e1,q1];have bS:=yZf r s who f.2.1 f.2.2.1;exact⟨_,d,d',rfl,rfl,fun e=>⟨_,_,_,_,e2 e,q2 e,⟨vRv hr h hw e,bS.2.1,by simp,kn,by rw[yWp];exact fun _ h=>.inl h⟩,(if_neg nX).symm,(if_neg h1).symm,fun e'=>absurd e' h1⟩⟩
theorem vQ9 {r:qS}(hr:wT r){s:qG}(h:yO r s){f:jG}(hf:10≤f.1∧f.1≤13):
  ∃e d d',Dq 1000 (eW r s (-1)) f=some (e,d)∧tN 1000 (rk r s (-1)) f=some (e,d')∧(e=0→∃t l l' paid,d=dk r t (-1) l∧d'=qK r t (-1) l' paid∧Dp r s (-1) f t l l' paid):=by
 unfold Dq tN;have h1:¬f.1=1:=by omega
 rw[ai h1,ai (show¬f.1=2 by omega),ai (show¬f.1=3 by omega),ai (show¬f.1=4 by omega),ai (show¬f.1=5 by omega),ai (show¬f.1=6 by omega),ai (show¬f.1=7 by omega),ai (show¬f.1=8 by omega)];by_cases hq:f.1=10∨f.1=11
 ·obtain⟨d,e1,e2⟩:=yY8 (k:=1000) (by decide) hr h (-1) f.1 f.2.1 f.2.2.1;obtain⟨d',q1,q2⟩:=vDa hr h (-1) f.1 f.2.1 f.2.2.1 hq;have g:∃e d d',(CL 1000 (eW r s (-1)) f.1 f.2.1 f.2.2.1).bind (fun x=>some (x.1,x.2))=some (e,d)∧(CV 1000 (rk r s (-1)) (decide (f.1=10)) f.2.1 f.2.2.1).bind (fun x=>some (x.1,x.2))=some (e,d')∧(e=0→∃t l l' paid,d=dk r t (-1) l∧d'=qK r t (-1) l' paid∧Dp r s (-1) f t l l' paid):=by
   rw[e1,q1];refine⟨_,d,d',rfl,rfl,fun e=>?_⟩;obtain⟨g1,g2,g3,g4,g5⟩:=yT2 h e;exact⟨_,_,_,_,e2 e,q2 e,⟨g1,vBg,by simp,tM,by rw[g4];exact fun _ h=>.inl h⟩,rfl,(if_neg h1).symm,fun e'=>absurd e' h1⟩
  rcases hq with e|e
  ·have e1:decide (f.1=10)=true:=ag e;rw[e1] at g⊢;exact g
  ·have e1:decide (f.1=10)=false:=ai (by omega);rw[e1] at g⊢;rw[ag e];exact g
 rw[ai (show¬f.1=10 by omega),ai (show¬f.1=11 by omega)];by_cases hp:f.1=12
 ·rw[ag hp];obtain⟨d,e1,e2⟩:=vJg (k:=1000) (by decide) hr h (-1) f.2.1 f.2.2.1;obtain⟨d',q1,q2⟩:=yXb hr h (-1) f.2.1 f.2.2.1;simp only[av,ay];rw[e1,q1];have bS:=vCp r s f.2.1 f.2.2.1;exact⟨_,d,d',rfl,rfl,fun e=>⟨_,_,_,_,e2 e,q2 e,⟨vL8 h e,bS.2.1,by simp,tM,by rw[vKh];exact fun _ h=>.inl h⟩,rfl,(if_neg h1).symm,fun e'=>absurd e' h1⟩⟩
 ·rw[ai hp];exact⟨_,_,_,rfl,rfl,fun _=>⟨s,[],[],0,rfl,rfl,⟨h,rfl,by simp,tM,fun _ h=>.inl h⟩,rfl,(if_neg h1).symm,fun e'=>absurd e' h1⟩⟩
def LQ (who kd:Int)(x4:Int×RF):Option (ql×List yB×Int):=
  bif !(decide (who = (-1))) then ((jA 1000 15 []).bind fun x5=>
   (lA 1000 x4.2.2.2.2.2.2.1 x4.2.2.2.2.2.2.2.1 x4.2.2.2.2.2.2.2.2.1 x4.2.2.2.2.2.2.2.2.2.1 x4.2.2.2.2.2.2.2.2.2.2.1 x4.2.2.2.2.2.2.2.2.2.2.2.1 x4.2.2.2.2.2.2.2.2.2.2.2.2.1 x4.2.2.2.2.2.2.2.2.2.2.2.2.2.1 x4.2.2.2.2.2.2.2.2.2.2.2.2.2.2.1 x4.2.2.2.2.2.2.2.2.2.2.2.2.2.2.2.1 x4.2.2.2.2.2.2.2.2.2.2.2.2.2.2.2.2.1 (decide (kd=13))).bind fun x6=>
   bif zR (1 + x4.2.2.2.2.2.2.2.2.2.2.2.2.2.2.2.2.2.2.1.length) 64 then (let y0:List yB:=([(who,x5)]++x4.2.2.2.2.2.2.2.2.2.2.2.2.2.2.2.2.2.2.1)
    bif zR (y0.length + x6.2.2.2.2.2.2.2.2.2.2.2.length) 64 then (bif decide (x4.2.2.2.2.2.2.2.2.2.2.2.2.2.2.2.2.2.2.2 > 0) then ((j6 1000 x6.2.2.2.2.2.2.2.1 x4.2.2.2.2.2.2.2.2.2.2.2.2.2.2.2.2.2.2.2).bind fun x7=>
      bif decide (x7 ≥ 0) then ((jA 1000 19 [x4.2.2.2.2.2.2.2.2.2.2.2.2.2.2.2.2.2.2.2]).bind fun x8=>
       bif zR ((y0 ++ x6.2.2.2.2.2.2.2.2.2.2.2).length + 1) 64 then (let y1:List yB:=((y0++x6.2.2.2.2.2.2.2.2.2.2.2)++[(who,x8)])
        some ((qR x6),y1,0))
       else none)
      else some ((qR x6),(y0++x6.2.2.2.2.2.2.2.2.2.2.2),0))
     else some ((qR x6),(y0++x6.2.2.2.2.2.2.2.2.2.2.2),0))
    else none)
   else none)
  else(lA 1000 x4.2.2.2.2.2.2.1 x4.2.2.2.2.2.2.2.1 x4.2.2.2.2.2.2.2.2.1 x4.2.2.2.2.2.2.2.2.2.1 x4.2.2.2.2.2.2.2.2.2.2.1 x4.2.2.2.2.2.2.2.2.2.2.2.1 x4.2.2.2.2.2.2.2.2.2.2.2.2.1 x4.2.2.2.2.2.2.2.2.2.2.2.2.2.1 x4.2.2.2.2.2.2.2.2.2.2.2.2.2.2.1 x4.2.2.2.2.2.2.2.2.2.2.2.2.2.2.2.1 x4.2.2.2.2.2.2.2.2.2.2.2.2.2.2.2.2.1 (decide (kd=13))).bind fun x9=>
  bif zR x4.2.2.2.2.2.2.2.2.2.2.2.2.2.2.2.2.2.2.1.length 64 then (let y2:List yB:=x4.2.2.2.2.2.2.2.2.2.2.2.2.2.2.2.2.2.2.1
   bif zR (y2.length + x9.2.2.2.2.2.2.2.2.2.2.2.length) 64 then (bif decide (x4.2.2.2.2.2.2.2.2.2.2.2.2.2.2.2.2.2.2.2 > 0) then ((j6 1000 x9.2.2.2.2.2.2.2.1 x4.2.2.2.2.2.2.2.2.2.2.2.2.2.2.2.2.2.2.2).bind fun gg=>
     bif decide (gg ≥ 0) then ((jA 1000 19 [x4.2.2.2.2.2.2.2.2.2.2.2.2.2.2.2.2.2.2.2]).bind fun Hv=>
      bif zR ((y2 ++ x9.2.2.2.2.2.2.2.2.2.2.2).length + 1) 64 then (let y3:List yB:=((y2++x9.2.2.2.2.2.2.2.2.2.2.2)++[(who,Hv)])
       some ((qR x9),y3,0))
      else none)
     else some ((qR x9),(y2++x9.2.2.2.2.2.2.2.2.2.2.2),0))
    else some ((qR x9),(y2++x9.2.2.2.2.2.2.2.2.2.2.2),0))
   else none)
  else none
def xv (r:qS)(s:ql)(c:qy):Option (ql×List yB×Int):=
  bif decide (c.2.1 = 9) then (bif zC c.1 s.2.1.length then ((pZ 1000 s.2.2.2.2.2.2.2.1 c.1).bind fun x1=>
    (jA 1000 17 [(s.2.1.getD c.1.toNat (0,0,0)).1,(s.2.1.getD c.1.toNat (0,0,0)).2.1,(s.2.1.getD c.1.toNat (0,0,0)).2.2,(x1.length:Int),s.1]).bind fun x2=>
    some (s,[(c.1,x2)],0))
   else none)
  else bif decide (c.2.1 = 14) then ((Dh 1000 r s).bind fun x3=>
   some (x3.1,x3.2,0))
  else(tN 1000 (jZ r (jJ s (c.1,0))) c.2).bind fun x4=>
  bif !(decide (x4.1=0)) then some (s,[],x4.1)
  else LQ c.1 c.2.1 x4
theorem vHg (r:qS)(s:ql)(c:qy):Hw 1000 r s c=(xr 1000 r c).bind fun x0=>
  bif !x0 then some (s,[],5) else bif s.2.2.2.2.2.2.2.2.2.2 then(bif !(decide (c.2.1=9)) then some (s,[],7) else xv r s c) else xv r s c:=rfl
theorem qW8 {r:qS}(hr:wT r){s t:qG}(ho:s.ov=false){who:Int}{l l':List yB}{f:jG}{paid:Int}(hB:Dp r s who f t l l' paid):
    ∃ u o, ((qg 1000 t.t t.B.1 t.B.2.1 t.B.2.2.1 t.B.2.2.2 t.pr t.ho t.m t.ids t.to t.ov (decide (f.1=13))).bind fun x5=>
      bif zR (l.length + x5.2.2.2.2.2.2.2.2.2.2.2.length) 64 then (let y0:List yB:=(l++x5.2.2.2.2.2.2.2.2.2.2.2)
       bif decide (f.1 = 1) then ((me 1000 x5.2.2.2.2.2.2.2.1 f.2.1).bind fun x6=>
        bif decide (x6 ≥ 0) then ((tu 1000 (LR ((0:Int),dk r t who l) y0) 19 [f.2.1]).bind fun x7=>
         some ((qR x5),x7.2.2.2.2.2.2.2.2.2.2.2.2.2.2.2.2.2,(0:Int)))
        else some ((qR x5),y0,0))
       else some ((qR x5),y0,0))
      else none)=some (u.st,o,(0:Int))∧LQ who f.1 (0,qK r t who l' paid)=some (u.st,o,(0:Int))∧yO r u∧lB o∧o.length≤200∧u.ids=t.ids:=by
  have h:=hB.dealt.inv;have re:=hB.dealt.ov.trans ho;have hl:=hB.dealt.few;have hm:=h.waits.len;obtain⟨C,m',d,e1,Hk,e3,e4,e5,e6,e7⟩:=qT4 h.bk h.waits.dist h.waits.may (by omega) t.t t.pr t.ho t.ids t.to t.ov (decide (f.1=13));have hd:d.length≤40:=by
    have:=e6.length_eq;rw[List.length_append] at this;omega
  have sD:=e5.length_le;have zr:=Ck d;have hu:=h.settled re e3 e4 e5;have dt:l'.length≤2:=by
    have:=hB.told;by_cases hw:who= -1
    · rw[if_pos hw] at this;rw[←this];exact hl
    · rw[if_neg hw] at this;rw[this,List.length_cons] at hl;omega
  have key:LQ who f.1 (0,qK r t who l' paid)=bif decide (paid>0) then(bif decide (jU m' paid≥0) then some ((t.t,C.1,C.2.1,C.2.2.1,C.2.2.2,t.pr,t.ho,m',t.ids,t.to,t.ov),(l++vD d)++[kM who 19 paid],(0:Int)) else some ((t.t,C.1,C.2.1,C.2.2.1,C.2.2.2,t.pr,t.ho,m',t.ids,t.to,t.ov),l++vD d,0)) else some ((t.t,C.1,C.2.1,C.2.2.1,C.2.2.2,t.pr,t.ho,m',t.ids,t.to,t.ov),l++vD d,0):=by
    have es:lA 1000 (qK r t who l' paid).2.2.2.2.2.1 (qK r t who l' paid).2.2.2.2.2.2.1 (qK r t who l' paid).2.2.2.2.2.2.2.1 (qK r t who l' paid).2.2.2.2.2.2.2.2.1 (qK r t who l' paid).2.2.2.2.2.2.2.2.2.1 (qK r t who l' paid).2.2.2.2.2.2.2.2.2.2.1 (qK r t who l' paid).2.2.2.2.2.2.2.2.2.2.2.1 (qK r t who l' paid).2.2.2.2.2.2.2.2.2.2.2.2.1 (qK r t who l' paid).2.2.2.2.2.2.2.2.2.2.2.2.2.1 (qK r t who l' paid).2.2.2.2.2.2.2.2.2.2.2.2.2.2.1 (qK r t who l' paid).2.2.2.2.2.2.2.2.2.2.2.2.2.2.2.1 (decide (f.1=13))=_:=Hk;have eo:(qK r t who l' paid).2.2.2.2.2.2.2.2.2.2.2.2.2.2.2.2.2.1=l':=rfl;have ep:(qK r t who l' paid).2.2.2.2.2.2.2.2.2.2.2.2.2.2.2.2.2.2=paid:=rfl;have ef:j6 1000 m' paid=some (jU m' paid):=Gl (by omega) (by omega) paid;unfold LQ;simp only[es,eo,ep,Of0,LJ,ak];have ht:=hB.told;by_cases hw:who= -1
    · rw[if_pos hw] at ht;rw[ag hw,qT (n:=l'.length) (by omega) (by omega),qT (n:=l'.length+(vD d).length) (by omega) (by omega),qT (n:=(l'++vD d).length+1) (by rw[List.length_append];omega) (by rw[List.length_append];omega),ht];simp only[bG,ay,av];rw[ef];rfl
    · rw[if_neg hw] at ht;have er:[((who,(15,0,0,0,0,0,0)):yB)]++l'=l:=ht.symm;rw[ai hw,er,qT (n:=1+l'.length) (by omega) (by omega),qT (n:=l.length+(vD d).length) (by omega) (by omega),qT (n:=(l++vD d).length+1) (by rw[List.length_append];omega) (by rw[List.length_append];omega)];simp only[fZ,av];rw[ef];rfl
  rw[e1,key];simp only[ak];rw[qT (n:=l.length+(vD d).length) (by omega) (by omega)];simp only[av];have fin:∀(o:List yB) {x:Option (ql×List yB×Int)},o.length≤200→lB o→x=some (({t with B:=C,m:=m'}:qG).st,o,(0:Int))→∃u o',some (({t with B:=C,m:=m'}:qG).st,o,(0:Int))=some (u.st,o',(0:Int))∧x=some (u.st,o',(0:Int))∧yO r u∧lB o'∧o'.length≤200∧u.ids=t.ids:=fun o _ hl hk hx=>⟨{t with B:=C,m:=m'},o,rfl,hx,hu,hk,hl,rfl⟩
  have k1:Kd (l++vD d):=hB.dealt.kd.append (RV _);have b1:(l++vD d).length≤199:=by rw[List.length_append];omega
  have b2:∀x:yB,(l++vD d++[x]).length≤200:=fun x=>by rw[List.length_append];simp;rw[List.length_append] at b1;omega
  have hp:=hB.paid;by_cases h1:f.1=1
  · rw[if_pos h1] at hp;subst hp;rw[ag h1,ag (show f.2.1>0 from hB.pos h1)];simp only[av];rw[BC (by omega) (by omega)];simp only[ak];cases decide (jU m' f.2.1≥0) with
    |false=>exact fin _ (by omega) k1.ne rfl
    |true=>
      simp only[av];have ej:LR ((0:Int),dk r t who l) (l++vD d)=dk r t who (l++vD d):=rfl;rw[ej,yQo (by rw[List.length_append];omega)];exact fin _ (b2 _) (k1.append (kn _ _ _ (by decide))).ne rfl
  · rw[if_neg h1] at hp;subst hp;rw[ai h1,ai (show¬(0:Int)>0 by decide)];exact fin _ (by omega) k1.ne rfl
theorem vBx {r:qS}{s:qG}(h:yO r s){who:Int}(hw:0≤who∧who<r.1)(c:qy)(hc:c.1=who)(h9:c.2.1=9):
  ∃o,LS 1000 s.st who=some o∧xv r s.st c=some (s.st,o,0)∧o.length≤200∧lB o:=by
 have hm:=h.waits.len;have hn:=h.n;have hb:zC who s.B.1.length=true:=vx hw.1 (by omega);have e1:s.st.2.1=s.B.1:=rfl;have e2:s.st.2.2.2.2.2.2.2.1=s.m:=rfl;unfold LS xv;rw[ag h9,hc,e1,e2,hb,yMu (by omega) (by unfold qN;omega),Ky (by omega) (by unfold qN;omega)];simp only[av,ak,Of5];exact⟨_,rfl,rfl,by simp,(RU ⟨by simp,by simp⟩).ne⟩
theorem vCv {r:qS}(hr:wT r){s:qG}(h:yO r s)(c:qy):
  ∃t o e,Hy 1000 r s.st c=some (t.st,o,e)∧Hw 1000 r s.st c=some (t.st,o,e)∧xu r s c.2 t o e:=by
 obtain⟨e,he,hm,hb⟩:=vMb r s c (fun e=>(some (s.st,[],e):Option (ql×List yB×Int))) (xv r s.st c);have hR:Hw 1000 r s.st c=bif decide (e=0) then xv r s.st c else some (s.st,[],e):=by
  rw[vHg];have eo:s.st.2.2.2.2.2.2.2.2.2.2=s.ov:=rfl;rw[eo];cases hx:xr 1000 r c with
  |none=>rw[hx] at hb;cases hb
  |some x=>
   rw[hx] at hb;simp only[ak,Option.some.injEq] at hb;exact hb
 unfold Hy;rw[he,hR];simp only[ak];by_cases h0:e=0
 ·obtain⟨hw,re⟩:=hm h0;rw[ag h0];simp only[bG,ay,av];by_cases h9:c.2.1=9
  ·have sw:0≤c.1∧c.1<r.1:=by omega
   obtain⟨o,ho,jc,hol,ek⟩:=vBx h sw c rfl h9;rw[ag h9,jc];simp only[av];rw[ho];exact⟨s,o,0,rfl,rfl,h,fun e=>absurd rfl e,ek,hol,fun _ h=>.inl h⟩
  ·have ho:s.ov=false:=by
    cases g:s.ov with
    |false=>rfl
    |true=>exact absurd (re g) h9
   have fin:∀{t:qG} {x y:Option (ql×List yB×Int)},(∀x∈t.ids,x∈s.ids∨x=c.2.2.1)→(∃u o,x=some (u.st,o,(0:Int))∧y=some (u.st,o,(0:Int))∧yO r u∧lB o∧o.length≤200∧u.ids=t.ids)→∃t o e,x=some (t.st,o,e)∧y=some (t.st,o,e)∧xu r s c.2 t o e:=by
    intro t x y hi ⟨u,o,g1,wx,g2,g3,g4,g5⟩;exact⟨u,o,0,g1,wx,g2,fun e=>absurd rfl e,g3,g4,by rw[g5];exact hi⟩
   unfold xv;rw[ai h9];simp only[ay];by_cases hp:c.1= -1
   ·rw[ag hp];have hf:10≤c.2.1∧c.2.1≤14:=by omega
    have ed:jZ r (jJ s.st c.1)=eW r s (-1):=by rw[hp];rfl
    have er:jZ r (jJ s.st (c.1,0))=rk r s (-1):=by rw[hp];rfl
    simp only[bG,ay];rw[ed,er];by_cases RZ:c.2.1=14
    ·have g0:Dq 1000 (eW r s (-1)) c.2=some (0,dk r s (-1) []):=by
      unfold Dq;rw[RZ];rfl
     rw[g0];simp only[ak];rw[ag RZ];have bd:=h.tk;have Ev:=hr.cl;have GV:=hr.pe;obtain⟨x,x1,x2⟩:=vQg r h.bk h.waits.dist h.waits.may (by have:=h.waits.len;omega) ⟨by omega,by omega⟩ (by omega) ho;obtain⟨C,m',ov,o,y1,y2,_,_,y3,y4⟩:=vE0 (k:=1000) (by decide) hr h ho;rw[x1] at y1;have y1:=Option.some.inj y1;subst y1;refine⟨_,o,0,(congrArg (fun z=>Option.bind z _) x1).trans rfl,(congrArg (fun z=>Option.bind z _) x2).trans rfl,y2,fun e=>absurd rfl e,?_,by omega,fun _ h=>.inl h⟩;rcases y4 with⟨_,_,rfl,_⟩|⟨l,d,n,rfl,_,_,_⟩
     ·exact(yFp (.inr rfl) _).ne.append (vI5 _ _)
     ·exact((yFp (.inl rfl) _).append (RV _)).ne
    ·obtain⟨e,d,d',g1,wx,g2⟩:=vQ9 hr h (f:=c.2) (by omega);rw[g1,ai RZ,wx];simp only[ak,ay];by_cases hz:e=0
     ·obtain⟨t,l,l',paid,rfl,rfl,hd⟩:=g2 hz;rw[ag hz,hp];simp only[bG,ay];subst hz;exact fin hd.dealt.ids (qW8 hr ho hd)
     ·rw[ai hz];exact⟨s,[],e,rfl,rfl,xu.none h e⟩
   ·rw[ai hp,ai (show¬c.2.1=14 by omega)];have hf:1≤c.2.1∧c.2.1≤8:=by omega
    have sw:0≤c.1∧c.1<r.1:=by omega
    have ed:LU 1000 (jZ r (jJ s.st c.1)) 15 []=some (dk r s c.1 [kM c.1 15 0]):=rfl;have er:jZ r (jJ s.st (c.1,0))=rk r s c.1:=rfl;obtain⟨e,d,d',g1,wx,g2⟩:=yTz hr h ho sw (f:=c.2) hf;simp only[fZ,av,ay];rw[ed,er,wx];simp only[ak];rw[g1];simp only[ak];by_cases hz:e=0
    ·obtain⟨t,l,l',paid,rfl,rfl,hd⟩:=g2 hz;rw[ag hz];simp only[bG,ay];subst hz;exact fin hd.dealt.ids (qW8 hr ho hd)
    ·rw[ai hz];exact⟨s,[],e,rfl,rfl,xu.none h e⟩
 ·rw[ai h0];exact⟨s,[],e,rfl,rfl,xu.none h e⟩
def rf (s t:qG):Prop:=∀i,i<s.B.1.length→(t.B.1.getD i ad).1<(s.B.1.getD i ad).1→0≤(t.B.1.getD i ad).1+(t.B.1.getD i ad).2.1
theorem rf.same {s t}(h:∀i,i<s.B.1.length→(t.B.1.getD i ad).1=(s.B.1.getD i ad).1):rf s t:=fun i hi bd=>by simp_all
theorem rf.refl s:rf s s:=rf.same (by simp)
theorem rf.set {s t:qG}{j:Nat}{a:qQ}(h:t.B.1=s.B.1.set j a)(ha:a.1<(s.B.1.getD j ad).1→0≤a.1+a.2.1):rf s t:=fun i hi=>by
 rw[h,jD];split
 ·next h=>rw[←h.1];exact ha
 ·omega
structure vSg (r:qS) (s:qG) (f:jG) (t:qG) (l:List yB):Prop where
 inv:yO r t
 tk:t.t=s.t
 ov:t.ov=s.ov
 few:l.length≤2
 to:t.to=s.to+(if f.1=10 then f.2.2.1 else if f.1=11 then-f.2.2.1 else 0)
 fell:rf s t
 kd:Kd l
 ids:∀x∈t.ids,x∈s.ids∨x=f.2.1
structure Did (k:Nat) (r:qS) (s:qG) (c:qy) (t:qG) (o:List yB) (e:Int):Prop where
 inv:yO r t
 bad:e≠0→t=s∧o=[]
 to:e=0→t.to=s.to+(if c.2.1=10 then c.2.2.2.1 else if c.2.1=11 then-c.2.2.2.1 else 0)
 still:t=s∨(t.ov=false→jT k t.B (vO t.m t.t)=none)
 fell:rf s t
 ne:lB o
 few:o.length≤100
 ids:∀x∈t.ids,x∈s.ids∨x=c.2.2.1
theorem vFd {k:Nat}(hk:1000≤k){n:Nat}{m:List zG}{ids:AC}(h:gP n m ids):Hz k m=some true:=by
 have hm:=h.len;have e1 : xw k k m m (m.length : Int) 0 = some (.inl m) := G5 (L := fun n i => xw k n m m (m.length : Int) i) (fun n=>by
  show Dr k _ m m (m.length:Int) (m.length:Int)=_;unfold Dr;rw[ai (Int.lt_irrefl _)];rfl) (fun n i hi=>by
  show Dr k (xw k n) m m (m.length:Int) (i:Int)=_;unfold Dr;have e:m.getD i (0,0,0,0,0,0,0)=m.getD i pd:=rfl;rw[ag (show(i:Int)<m.length by omega),zW,ag hi,aC,e,BC (by omega) (by omega),qU3 h.dist hi,qD hi (by omega)];simp only[av,ak,decide_true,bG,ay]) (by omega)
 have e2:LV k m=some true:=by
  have down:∀(i n:Nat),i<n→i<m.length∨i=0→HA k n m (i:Int)=some (.inl ()):=by
   intro i
   induction i with
   |zero=>
    intro n hn _;obtain⟨n,rfl⟩:∃x,n=x+1:=⟨n-1,by omega⟩;rfl
   |succ i ih=>
    intro n hn hi;obtain⟨n,rfl⟩:∃x,n=x+1:=⟨n-1,by omega⟩;have bE:i+1<m.length:=by omega
    show LW k (HA k n) m ((i+1:Nat):Int)=_;unfold LW;have w:zA (((i+1:Nat):Int)-1)=(i:Int):=by rw[zN (by omega) (by omega)];omega
    rw[ag (show((i+1:Nat):Int)>0 by omega),w,zW,zW,ag bE,ag (show i<m.length by omega),aC,aC];simp only[av];obtain⟨x,x1,x2,x3⟩:=QL (k:=k) (by omega) (m.getD (i+1) pd) (m.getD i pd);have hs:=List.pairwise_iff_getElem.1 h.sort i (i+1) (by omega) bE (by omega);rw[←j9 (d:=pd) m (by omega),←j9 (d:=pd) m bE] at hs;have nx:¬x<0:=fun q=>by
     have:gL (m.getD (i+1) pd) (m.getD i pd)=true:=by rw[←x3];exact ag q
     rw[Ry] at this;rw[Hg] at hs;omega
    refine(congrArg (fun z=>Option.bind z _) x1).trans ?_;simp only[ak];rw[ai nx];exact ih n (by omega) (.inl (by omega))
  unfold LV;by_cases hz:m.length=0
  ·have:m=[]:=List.eq_nil_of_length_eq_zero hz;subst this;have w:zA (((([]:List zG).length:Nat):Int)-1)= -1:=by rw[zN (by decide) (by decide)];rfl
   rw[w];obtain⟨j,rfl⟩:∃x,k=x+1:=⟨k-1,by omega⟩;rfl
  ·have w:zA ((m.length:Int)-1)=((m.length-1:Nat):Int):=by rw[zN (by omega) (by omega)];omega
   rw[w,down (m.length-1) k (by omega) (.inl (by omega))];rfl
 unfold Hz;rw[e1];simp only[ak];rw[ag (show(m.length:Int)≤40 by omega),e2];rfl
theorem vJ4 {k:Nat}(hk:1000≤k){n:Nat}{m:List zG}{ids:AC}(h:gP n m ids):HB k ids=some true:=by
 have hl:=h.idl;obtain ⟨s, e1, _⟩ := yZ (L := fun n i (p : Int) => HC k n ids p ids (ids.length : Int) i) (N := ids.length) (fun _ => (.inl ids : AC ⊕ Bool)) (fun i p => p = if i = 0 then 0 else ids.getD (i - 1) 0) (fun n p _=>by
  show Ds k _ ids p ids (ids.length:Int) (ids.length:Int)=_;unfold Ds;rw[ai (Int.lt_irrefl _)];rfl) (fun n i p hi hp=>by
  refine⟨ids.getD i 0,?_,by rw[if_neg (by omega)];rfl⟩;show Ds k (HC k n) ids p ids (ids.length:Int) (i:Int)=_;unfold Ds;have bd:¬ids.getD i 0≤p:=by
   rw[hp];by_cases z:i=0
   ·rw[if_pos z];have:=h.pos _ (eO (d:=0) hi);omega
   ·rw[if_neg z];have:=List.pairwise_iff_getElem.1 h.asc (i-1) i (by omega) hi (by omega);rw[←j9 (d:=0) ids (by omega),←j9 (d:=0) ids hi] at this;omega
  rw[ag (show(i:Int)<ids.length by omega),zW,ag hi,aC,ai bd,qD hi (by omega)];rfl) (n:=k) (s:=0) (by omega) rfl
 unfold HB;rw[e1];simp only[ak];rw[ag (show(ids.length:Int)≤200 by omega)]
theorem yXp {k}(hk:1000≤k){r s}(h:yO r s):HD k s.st=some true:=by
 have hw:=h.waits;have hm:=hw.len;have e1:HD k s.st=(Hz k s.m).bind fun x0=>bif x0 then((HB k s.ids).bind fun x1=>bif x1 then((LX k s.m s.t s.B.1 s.B.2.1 s.B.2.2.1 s.B.2.2.2 s.pr s.ho s.m s.ids s.to s.ov).bind fun x2=>some (!x2)) else some false) else some false:=rfl
 rw[e1,vFd hk hw,vJ4 hk hw];have e2 : xx k k s.m (s.m.length : Int) 0 s.t s.B.1 s.B.2.1 s.B.2.2.1 s.B.2.2.2 s.pr s.ho s.m s.ids s.to s.ov = some (.inl ()) := G5 (L := fun n i => xx k n s.m (s.m.length : Int) i s.t s.B.1 s.B.2.1 s.B.2.2.1 s.B.2.2.2 s.pr s.ho s.m s.ids s.to s.ov) (fun n=>by
  show Dt k _ s.m (s.m.length:Int) (s.m.length:Int) s.t s.B.1 s.B.2.1 s.B.2.2.1 s.B.2.2.2 s.pr s.ho s.m s.ids s.to s.ov=_;unfold Dt;simp) (fun n i hi=>by
  show Dt k (xx k n) s.m (s.m.length:Int) (i:Int) s.t s.B.1 s.B.2.1 s.B.2.2.1 s.B.2.2.2 s.pr s.ho s.m s.ids s.to s.ov=_;unfold Dt;have dD:s.m.getD i pd∈s.m:=eO hi;have ht:=hw.time _ dD;have ah:=hw.were _ dD;have f1:LY k (s.m.getD i pd) (s.t,s.B.1,s.B.2.1,s.B.2.2.1,s.B.2.2.2,s.pr,s.ho,s.m,s.ids,s.to,s.ov)=some false:=by
   unfold LY;rw[J6];have bK:ll s.B.1.length (s.m.getD i pd)=true:=J5.2 (hw.may _ dD);have HE:ll s.B.1.length ((s.m.getD i pd).1,(s.m.getD i pd).2.1,(s.m.getD i pd).2.2.1,(s.m.getD i pd).2.2.2.1,(s.m.getD i pd).2.2.2.2.1,(s.m.getD i pd).2.2.2.2.2.1,(s.m.getD i pd).2.2.2.2.2.2)=true:=bK;rw[HE];rw[ai (by grind),kK,ag (by grind),ag (by grind)];have hI:=hw.idl;rw[vA7 (by omega) (by omega) hw.asc,ag ah];rfl
  have e:s.m.getD i (0,0,0,0,0,0,0)=s.m.getD i pd:=rfl;rw[ag (by grind),zW,ag hi,aC,e,f1,qD hi (by omega)];rfl) (by omega)
 unfold LX R0;simp_all
theorem vHj {k}(hk:1000≤k){r}(hr:wT r){s}(h:yO r s):HF k s.pr=some false:=by
 have kC:=h.bk.n1;have L:=h.laid 0 (by omega);have h3:=L.n3;have hp:=L.pl;have e2 : xy k k s.pr (s.pr.length : Int) 0 = some (.inl ()) := G5 (L := fun n i => xy k n s.pr (s.pr.length : Int) i) (fun n=>by
  show Du k _ s.pr (s.pr.length:Int) (s.pr.length:Int)=_;unfold Du;simp) (fun n i hi=>by
  show Du k (xy k n) s.pr (s.pr.length:Int) (i:Int)=_;unfold Du R1;have hv:=L.price i (by omega);rw[ag (by grind),zW,ag hi,aC,kK,ag (by grind),ag (by grind),qD hi (by omega)];rfl) (by omega)
 unfold HF R2;simp_all
theorem vQ0 {k}(hk:1000≤k){sa pr h}(L:gO sa pr h):LZ k h=some false:=by
 have h3:=L.n3;have hp:=L.hl;have e2 : xz k k h (h.length : Int) 0 = some (.inl ()) := G5 (L := fun n i => xz k n h (h.length : Int) i) (fun n=>by
  show Dv k _ h (h.length:Int) (h.length:Int)=_;unfold Dv;simp) (fun n i hi=>by
  show Dv k (xz k n) h (h.length:Int) (i:Int)=_;unfold Dv R3;have hv:=L.hold i (by omega);rw[ag (by grind),zW,ag hi,aC,ai (by grind),qD hi (by omega)];rfl) (by omega)
 unfold LZ R4;simp_all
theorem vRz {k}(hk:1000≤k){r}(hr:wT r){s}(h:yO r s):HG k r s.st=some true:=by
 have kC:=h.bk.n1;have eQ:=h.bk.n6;have hn:=h.n;have hol:=h.hol;have L:=h.laid 0 (by omega);have e0:HG k r s.st=bif !(decide ((s.pr.length:Int)=(r.2.1.length:Int))) then some false
  else bif !(decide ((s.ho.length:Int)=r.1)) then some false
  else(HF k s.pr).bind fun x0=>
  bif x0 then some false
  else(tO k k s.ho (s.ho.length:Int) 0 r s.st).bind fun z=>
  match z with
  |.inl z1=>some true
  |.inr z2=>some z2:=rfl
 have e2 : tO k k s.ho (s.ho.length : Int) 0 r s.st = some (.inl ()) := G5 (L := fun n i => tO k n s.ho (s.ho.length : Int) i r s.st) (fun n=>by
  show Dw k (tO k n) s.ho (s.ho.length:Int) (s.ho.length:Int) r s.st=_;unfold Dw;simp) (fun n i hi=>by
  show Dw k (tO k n) s.ho (s.ho.length:Int) (i:Int) r s.st=_;unfold Dw;have bE:i<s.B.1.length:=by omega
  have Li:=h.laid i bE;have hc:(s.B.1.getD i ad).2.1=_:=h.cred i bE;have hm:(s.B.1.getD i ad).2.1≤_:=h.most i bE;have ep:s.st.2.2.2.2.2.1=s.pr:=rfl;have ea:s.st.2.1=s.B.1:=rfl;have ed:s.B.1.getD i (0,0,0)=s.B.1.getD i ad:=rfl;rw[ag (by grind),zW,ag hi,aC,ep,QV Li (by omega),ea,zW,ag bE,ed,vQ0 hk Li,qD hi (by omega)];grind) (by omega)
 rw[e0,ag (show(s.pr.length:Int)=(r.2.1.length:Int) by rw[L.pl]),ag (by grind),vHj hk hr h,e2];rfl
theorem vKw (s:qG):gb ((List.range s.B.1.length).map fun j=>(s.B.1.getD j ad).1)=qE (fun j=>(s.B.1.getD j ad).1) s.B.1.length:=QU _ _
theorem vQt {k}(hk:1000≤k){r}(hr:wT r){s}(h:yO r s):L1 k r s.st=some true:=by
  have eQ:=h.bk.n6;have ht:=h.tk;have RK:=h.tot;have R5:v9 k s.B.1 s.B.2.1 s.B.2.2.1 s.B.2.2.2=some true:=by rw[yL2 (by omega),FJ.2 h.bk]
  obtain ⟨x, h1, h2⟩ := yZ (L := fun n j (x : AC) => Dx k n s.B.1 (s.B.1.length : Int) j r s.st x) (N := s.B.1.length) (fun x => (r, s.st, x)) (fun j x => x = (List.range j).map fun j => (s.B.1.getD j ad).1) (fun n x _=>by
    show Dy k _ s.B.1 (s.B.1.length:Int) (s.B.1.length:Int) r s.st x=_;unfold Dy;simp) (fun n j x hj hx=>by
    refine⟨x++[(s.B.1.getD j ad).1],?_,?_⟩
    · show Dy k (Dx k n) s.B.1 (s.B.1.length:Int) (j:Int) r s.st x=_;unfold Dy;have hl:x.length=j:=by simp_all
      rw[ag (by grind),zW,ag hj,qT (by omega) (by omega),aC,qD hj (by omega)];rfl
    · rw[hx,List.range_succ,List.map_append];rfl) (n:=k) (s:=[]) (by omega) rfl
  have hb:∀i,i<x.length→-9223372036854775808≤x.getD i 0∧x.getD i 0<9223372036854775808:=by
    intro i hi;have hm:x.getD i 0∈x:=eO hi;rw[h2] at hm;obtain⟨j,hj,e⟩:=List.mem_map.1 hm;have:=oN.1 (h.bk.acct j (List.mem_range.1 hj));grind
  have hlen:x.length=s.B.1.length:=by simp_all
  have rj:gb x=s.to:=by rw[h2,vKw];exact h.sum
  have dZ:sZ (gb x)=true:=by rw[rj];unfold sZ;grind
  have eU:L1 k r s.st=(yW k s.t 0 r.2.2.2.1).bind fun x0=>
     bif !x0 then some false
     else(v9 k s.B.1 s.B.2.1 s.B.2.2.1 s.B.2.2.2).bind fun x1=>
     bif !x1 then some false
     else bif !(decide ((s.B.1.length:Int)=r.1)) then some false
     else(HG k r s.st).bind fun x2=>
     bif !x2 then some false
     else(HD k s.st).bind fun x3=>
     bif !x3 then some false
     else(Dx k k s.B.1 (s.B.1.length:Int) 0 r s.st []).bind fun z=>
     (BP k z.2.2).bind fun x4=>
     bif !x4.2 then some false
     else bif !(decide (x4.1=z.2.1.2.2.2.2.2.2.2.2.2.1)) then some false
     else(yW k x4.1 0 1152921504606846976).bind fun x5=>
     bif !x5 then some false
     else(xa k z.1.1 z.1.2.1 z.1.2.2.1 z.1.2.2.2.1 z.1.2.2.2.2 z.2.1.1).bind fun x6=>
     bif gY z.2.1.2.2.2.2.2.2.2.2.2.2 x6 then (bif !z.2.1.2.2.2.2.2.2.2.2.2.2 then some true
      else some (decide ((z.2.1.2.2.2.2.2.2.2.1.length:Int)=0)))
     else some false:=rfl
  have ec:∀b:Bool,gY b b=true:=fun b=>by cases b<;>rfl
  have eo:s.st.2.2.2.2.2.2.2.2.2.2=s.ov:=rfl;have em:s.st.2.2.2.2.2.2.2.1=s.m:=rfl;have et:s.st.2.2.2.2.2.2.2.2.2.1=s.to:=rfl;have e1:s.st.1=s.t:=rfl;have ecl:xa k r.1 r.2.1 r.2.2.1 r.2.2.2.1 r.2.2.2.2 s.t=some (decide (s.t=r.2.2.2.1)):=rfl;rw[eU,kK,ag (by grind),ag (by grind),R5,ag h.n,vRz hk hr h,yXp hk h,h1];simp;rw[yBw (by omega) (by omega) hb,dZ,rj];simp;rw[et,ag (by simp),kK,ag (by grind),ag (by grind)];rw[e1,ecl,eo,em,←h.over];simp only[ak];rw[ec];cases ho:s.ov with
  |false=>rfl
  |true=>rw[h.none ho];rfl
instance xA:DecidableEq zG:=fun a b=>inferInstanceAs (Decidable (a=b))
theorem vP5 {k}{a b:List zG}(hk:a.length<k)(hl:a.length<9223372036854775808):HH k a b=some (decide (a=b)):=by
 unfold HH;by_cases hlen:a.length=b.length
 case neg=>
  have e:decide (((a.length:Nat):Int)=((b.length:Nat):Int))=false:=by grind
  have:a≠b:=by grind
  simp_all
 have e:decide (((a.length:Nat):Int)=((b.length:Nat):Int))=true:=by grind
 have := jK (L := fun n i => HI k n a b i) (N := a.length) (fun i => decide (a.getD i pd = b.getD i pd)) (.inl ()) (.inr false) (fun n=>by
  show Dz k _ a b a.length=_;unfold Dz;simp) (fun n i hi=>by
  show Dz k _ a b i=_;unfold Dz;have e7:=eq7 (a.getD i pd) (b.getD i pd);simp only[zW,qD hi hl];simp_all) hk
 rw[this,FM pd hlen];grind
theorem vPt {r s}(hr:wT r)(h:yO r s):L3 1000 s.st s.st=some true:=by
 have hb:wB s.B.1 s.B.2.1 s.B.2.2.1 s.B.2.2.2:=h.bk;have eQ:=h.bk.n6;have kC:=h.bk.n1;have hm:=h.waits.len;have hi:=h.waits.idl;have h3:=hr.n3;have hL:=h.laid 0 (by omega);have e1:FP 1000 s.B.1 s.B.2.1 s.B.2.2.1 s.B.2.2.2 s.B.1 s.B.2.1 s.B.2.2.1 s.B.2.2.2=some true:=by
  rw[vR6 (by decide) hb.toSized];simp
 have e2:pS 1000 s.pr s.pr=some true:=by rw[J4 (by rw[hL.pl];omega) (by rw[hL.pl];omega),ag rfl]
 have e3:wa 1000 s.ho s.ho=some true:=by
  have hol:=h.hol;rw [Qf (by omega) (by omega) (fun i hi=>by
   have:=(h.laid i (by omega)).hl;omega),ag rfl]
 have e4:HH 1000 s.m s.m=some true:=by rw[vP5 (by omega) (by omega),ag rfl]
 have e5:pS 1000 s.ids s.ids=some true:=by rw[J4 (by omega) (by omega),ag rfl]
 unfold L3;have f0:s.st.1=s.t:=rfl;have f9:s.st.2.2.2.2.2.2.2.2.2.1=s.to:=rfl;have f10:s.st.2.2.2.2.2.2.2.2.2.2=s.ov:=rfl;have q:gY s.ov s.ov=true:=by cases s.ov<;>rfl
 rw[f0,f9,f10,ag rfl,ag rfl,q];refine(congrArg (fun z=>Option.bind z _) e1).trans ?_;refine(congrArg (fun z=>Option.bind z _) e2).trans ?_;refine(congrArg (fun z=>Option.bind z _) e3).trans ?_;refine(congrArg (fun z=>Option.bind z _) e4).trans ?_;refine(congrArg (fun z=>Option.bind z _) e5).trans ?_;rfl
theorem yUm (k:Nat){h l n:Int}(hh:-4503599627370496≤h∧h≤4503599627370496)(hl:0≤l∧l<4294967296)(hn:-9223372036854775808≤n∧n<9223372036854775808):
  L4 k h l n=some ((h*4294967296+l+n)/4294967296,(h*4294967296+l+n)%4294967296):=by
 unfold L4;rw[yGt n,yL0 n,zN (x:=h+n/4294967296) (by omega) (by omega),zN (x:=l+n%4294967296) (by omega) (by omega),yL0,yGt,zN (by omega) (by omega)]
 congr 2
 ·omega
 ·omega
def DA (S:Int):Int×Bool:=if S/4294967296< -2147483648∨S/4294967296≥2147483648 then(0,false) else(S,true)
theorem vMy {k:Nat}{l:AC}(hk:l.length<k)(hl:l.length≤1000000)(hr:∀x∈l,-9223372036854775808≤x∧x<9223372036854775808):HJ k l=some (DA (zM (fun x=>x) l)):=by
 obtain ⟨s, h1, h2⟩ := yZ (L := fun c i (s : Int × Int) => HK k c l i s.1 s.2) (N := l.length) (fun s => s) (fun i s => s = (zM (fun x => x) (l.take i) / 4294967296, zM (fun x => x) (l.take i) % 4294967296)) (fun c s hs=>by
   show DB k _ l l.length s.1 s.2=_;unfold DB;simp only [qM, ai (Nat.lt_irrefl _), ay]) (fun c i s hi hs=>by
   refine⟨(zM (fun x=>x) (l.take (i+1))/4294967296,zM (fun x=>x) (l.take (i+1))%4294967296),?_,rfl⟩;show DB k _ l i s.1 s.2=_;have hb:=vy (g:=fun x:Int=>x) (A:=9223372036854775808) (l:=l.take i) fun x hx=>by have:=hr x (List.mem_of_mem_take hx);omega
   have hlen:((l.take i).length:Int)≤1000000:=by rw[List.length_take];omega
   have hb2:((l.take i).length:Int)*9223372036854775808≤1000000*9223372036854775808:=by omega
   have e:zM (fun x=>x) (l.take (i+1))=zM (fun x=>x) (l.take i)+l.getD i 0:=by
    rw[←ga l i 0 hi,iy];show _+(l.getD i 0+0)=_;omega
   unfold DB;simp only[zW,qD hi (show l.length<9223372036854775808 by omega),qM,aC,ag hi,av];rw[hs];dsimp only;rw[yUm k (by omega) (by omega) (hr _ (eO hi))];rw[e];have e2:zM (fun x=>x) (l.take i)/4294967296*4294967296+zM (fun x=>x) (l.take i)%4294967296=zM (fun x=>x) (l.take i):=by omega
   rw[e2];rfl) (s:=(0,0)) hk rfl
 rw[List.take_of_length_le (Nat.le_refl _)] at h2;unfold HJ;rw[h1,h2];simp only[ak];unfold DA;generalize zM (fun x=>x) l=S;by_cases c1:S/4294967296< -2147483648
 ·rw[ag c1,if_pos (.inl c1)];rfl
 ·rw[ai c1];by_cases c2:S/4294967296≥2147483648
  ·rw[ag c2,if_pos (.inr c2)];rfl
  ·rw[ai c2,if_neg (by omega),yWt,zN (x:=S/4294967296*4294967296) (by omega) (by omega),zN (by omega) (by omega)];simp only[ay]
   congr 2
   omega
def tP (m:List zG)(i:Nat):Bool:=decide (i=0)||vV (m.getD (i-1) pd) (m.getD i pd)
def DC (m:List zG):Bool:=qA (fun i=>decide (jU m (m.getD i pd).1=(i:Int))&&tP m i) m.length 0&&decide ((m.length:Int)≤40)
theorem vGb {m:List zG}(hm:m.length≤900):HL 1000 m=some (DC m):=by
 have l0 : tQ 1000 1000 m 0 = _ := jK (L := fun n i => tQ 1000 n m i) (N := m.length) (fun i => decide (jU m (m.getD i pd).1 = (i : Int)) && tP m i) (.inl m) (.inr false) (fun n=>by
  show DD 1000 (tQ 1000 n) m (m.length:Int)=_;unfold DD;rw[ai (Int.lt_irrefl _)];rfl) (fun n i hi=>by
  show DD 1000 (tQ 1000 n) m (i:Int)=_;unfold DD;have e:m.getD i (0,0,0,0,0,0,0)=m.getD i pd:=rfl;rw[ag (show(i:Int)<m.length by omega),zW,ag hi,aC,e,Gl (by omega) (by omega),qD hi (by omega)];simp only[av,ak];cases decide (jU m (m.getD i pd).1=(i:Int)) with
  |false=>rfl
  |true=>
   simp only[bG,ay,Bool.true_and];cases i with
   |zero=>rfl
   |succ i=>
    have w:zA (((i+1:Nat):Int)-1)=(i:Int):=by rw[zN (by omega) (by omega)];omega
    rw[ag (show((i+1:Nat):Int)>0 by omega),w,zW,ag (show i<m.length by omega),aC];simp only[av];refine(congrArg (fun z=>Option.bind z _) (Rr 1000 (m.getD i pd) (m.getD (i+1) pd))).trans ?_;have ea:tP m (i+1)=vV (m.getD i pd) (m.getD (i+1) pd):=by unfold tP;rw[ai (by omega)];rfl
    rw[ea];cases vV (m.getD i pd) (m.getD (i+1) pd)<;>rfl) (n:=1000) (by omega)
 unfold HL;rw[l0];unfold DC;cases qA (fun i=>decide (jU m (m.getD i pd).1=(i:Int))&&tP m i) m.length 0<;>rfl
theorem yVp {m:List zG}(h:DC m=true):qI m∧kJ m∧m.length≤40:=by
 unfold DC at h;rw[bJ,wI] at h;have h1:∀i,i<m.length→jU m (m.getD i pd).1=(i:Int)∧tP m i=true:=fun i hi=>by
  have:=h.1 i hi;rw[bJ,bO] at this;exact this
 have h2:=PZ h.2;refine⟨?_,?_,by omega⟩
 ·unfold qI;rw[List.pairwise_iff_getElem];intro i j hi hj jb e;have e1:=(h1 i hi).1;have e2:=(h1 j hj).1;rw[j9 (d:=pd) m hi] at e1;rw[j9 (d:=pd) m hj,←e] at e2;omega
 ·unfold kJ;rw[List.pairwise_iff_getElem];intro i j hi hj jb;have key:∀c,i+c+1<m.length→vV (m.getD i pd) (m.getD (i+c+1) pd)=true:=by
   intro c
   induction c with
   |zero=>
    intro hl;have:=(h1 (i+0+1) hl).2;unfold tP at this;rw[ai (by omega)] at this;exact this
   |succ c ih=>
    intro hl;have:=(h1 (i+(c+1)+1) hl).2;unfold tP at this;rw[ai (by omega)] at this;exact yL1 (ih (by omega)) this
  have:=key (j-i-1) (by omega);rw[show i+(j-i-1)+1=j by omega,j9 (d:=pd) m hi,j9 (d:=pd) m hj] at this;exact this
def HM (ids:AC)(i:Nat):Bool:= !decide (ids.getD i 0<1)&&(decide (i=0)|| !decide (ids.getD i 0≤ids.getD (i-1) 0))
def DE (ids:AC):Bool:=qA (HM ids) ids.length 0&&decide ((ids.length:Int)≤200)
theorem yWs {ids:AC}(hm:ids.length≤900):HN 1000 ids=some (DE ids):=by
 have l0 : xB 1000 1000 ids 0 = _ := jK (L := fun n i => xB 1000 n ids i) (N := ids.length) (HM ids) (.inl ids) (.inr false) (fun n=>by
  show DF 1000 (xB 1000 n) ids (ids.length:Int)=_;unfold DF;rw[ai (Int.lt_irrefl _)];rfl) (fun n i hi=>by
  show DF 1000 (xB 1000 n) ids (i:Int)=_;unfold DF HM;rw[ag (show(i:Int)<ids.length by omega),zW,ag hi,aC,qD hi (by omega)];simp only[av];cases decide (ids.getD i 0<1) with
  |true=>rfl
  |false=>
   simp only[ay,fZ,Bool.true_and];cases i with
   |zero=>rfl
   |succ i=>
    have w:zA (((i+1:Nat):Int)-1)=(i:Int):=by rw[zN (by omega) (by omega)];omega
    rw[ag (show((i+1:Nat):Int)>0 by omega),w,zW,ag (show i<ids.length by omega),aC,ai (show¬i+1=0 by omega)];simp only[av,Nat.add_sub_cancel,Bool.false_or];cases decide (ids.getD (i+1) 0≤ids.getD i 0)<;>rfl) (n:=1000) (by omega)
 unfold HN;rw[l0];unfold DE;cases qA (HM ids) ids.length 0<;>rfl
theorem vJp {ids:AC}(h:DE ids=true):ng ids∧(∀x∈ids,1≤x)∧ids.length≤200:=by
 unfold DE at h;rw[bJ,wI] at h;have h1:∀i,i<ids.length→1≤ids.getD i 0∧(i=0∨ids.getD (i-1) 0<ids.getD i 0):=fun i hi=>by
  have:=h.1 i hi;unfold HM at this;simp only[bJ,Bool.or_eq_true,Bool.not_eq_true',bO,decide_eq_false_iff_not] at this;omega
 have h2:=PZ h.2;refine⟨?_,fun x hx=>?_,by omega⟩
 ·unfold ng;rw[List.pairwise_iff_getElem];intro i j hi hj jb;have key:∀c,i+c+1<ids.length→ids.getD i 0<ids.getD (i+c+1) 0:=by
   intro c
   induction c with
   |zero=>
    intro hl;have:=(h1 (i+0+1) hl).2;rw[show i+0+1-1=i by omega] at this;omega
   |succ c ih=>
    intro hl;have:=(h1 (i+(c+1)+1) hl).2;rw[show i+(c+1)+1-1=i+c+1 by omega] at this;have:=ih (by omega);omega
  have:=key (j-i-1) (by omega);rw[show i+(j-i-1)+1=j by omega,j9 (d:=0) ids hi,j9 (d:=0) ids hj] at this;exact this
 ·obtain⟨i,hi,rfl⟩:=List.mem_iff_getElem.1 hx;have:=(h1 i hi).1;rw[j9 (d:=0) ids hi] at this;exact this
theorem vCc {ids:AC}(hl:ids.length≤900)(id:Int):xh 1000 ids id=some (decide (id∈ids)):=by
 have l0 : oL 1000 1000 ids id 0 = _ := jK (L := fun n i => oL 1000 n ids id i) (N := ids.length) (fun i => !decide (ids.getD i 0 = id)) (.inl ()) (.inr true) (fun n=>by
  show oM 1000 (oL 1000 n) ids id (ids.length:Int)=_;unfold oM;rw[ai (Int.lt_irrefl _)];rfl) (fun n i hi=>by
  show oM 1000 (oL 1000 n) ids id (i:Int)=_;unfold oM;rw[ag (show(i:Int)<ids.length by omega),zW,ag hi,aC,qD hi (by omega)];cases decide (ids.getD i 0=id)<;>rfl) (n:=1000) (by omega)
 unfold xh;rw[l0];by_cases h:id∈ids
 ·obtain⟨i,hi,e⟩:=List.mem_iff_getElem.1 h;have:qA (fun i=> !decide (ids.getD i 0=id)) ids.length 0=false:=by
   cases q:qA (fun i=> !decide (ids.getD i 0=id)) ids.length 0 with
   |false=>rfl
   |true=>
    have:=wI.1 q i hi;rw[j9 (d:=0) ids hi,e] at this;simp at this
  rw[this,ag h];rfl
 ·have:qA (fun i=> !decide (ids.getD i 0=id)) ids.length 0=true:=wI.2 fun i hi=>by
   rw[ai fun e=>h (by rw[←e];exact eO hi)];rfl
  rw[this,ai h];rfl
def DG (s:qG)(p:zG):Bool:=ll s.B.1.length p&&(!decide (p.2.2.2.2.2.1<0)&&(!decide (p.2.2.2.2.2.2<p.2.2.2.2.2.1)&&(!decide (p.2.2.2.2.2.2>1048576)&&decide (p.1∈s.ids))))
def DH (s:qG):Bool:=DC s.m&&(DE s.ids&&qA (fun i=>DG s (s.m.getD i pd)) s.m.length 0)
theorem yWd {s:qG}(hm:s.m.length≤900)(hi:s.ids.length≤900):HO 1000 s.st=some (DH s):=by
  have em:s.st.2.2.2.2.2.2.2.1=s.m:=rfl;have ei:s.st.2.2.2.2.2.2.2.2.1=s.ids:=rfl;have ea:s.st.2.1=s.B.1:=rfl;have l0 : tR 1000 1000 0 s.st = _ := jK (L := fun n i => tR 1000 n i s.st) (N := s.m.length) (fun i => DG s (s.m.getD i pd)) (.inl ()) (.inr false) (fun n=>by
    show DI 1000 (tR 1000 n) (s.m.length:Int) s.st=_;unfold DI;rw[em,ai (Int.lt_irrefl _)];rfl) (fun n i bE=>by
    show DI 1000 (tR 1000 n) (i:Int) s.st=_;unfold DI DG;have e:s.m.getD i (0,0,0,0,0,0,0)=s.m.getD i pd:=rfl;rw[em,ei,ea,ag (show(i:Int)<s.m.length by omega),zW,ag bE,aC,e,yIj,vCc hi,qD bE (by omega)];simp only[av,ak];have e':((s.m.getD i pd).1,(s.m.getD i pd).2.1,(s.m.getD i pd).2.2.1,(s.m.getD i pd).2.2.2.1,(s.m.getD i pd).2.2.2.2.1,(s.m.getD i pd).2.2.2.2.2.1,(s.m.getD i pd).2.2.2.2.2.2)=s.m.getD i pd:=rfl;rw[e'];cases ll s.B.1.length (s.m.getD i pd)<;>cases decide ((s.m.getD i pd).2.2.2.2.2.1<0)<;>cases decide ((s.m.getD i pd).2.2.2.2.2.2<(s.m.getD i pd).2.2.2.2.2.1)<;>cases decide ((s.m.getD i pd).2.2.2.2.2.2>1048576)<;>cases decide ((s.m.getD i pd).1∈s.ids)<;>rfl) (n:=1000) (by omega)
  have e0:HO 1000 s.st=(HL 1000 s.m).bind fun x0=>
     bif !x0 then some false
     else(HN 1000 s.ids).bind fun x1=>
     bif !x1 then some false
     else(tR 1000 1000 0 s.st).bind fun z=>
     match z with
     |.inl z1=>some true
     |.inr z2=>some z2:=rfl
  rw[e0,vGb hm,yWs hi,l0];unfold DH;cases DC s.m<;>cases DE s.ids<;>cases qA (fun i=>DG s (s.m.getD i pd)) s.m.length 0<;>rfl
theorem vE8 {s:qG}(h:DH s=true):gP s.B.1.length s.m s.ids:=by
 unfold DH at h;rw[bJ,bJ,wI] at h;obtain⟨h1,h2,h3⟩:=h;obtain⟨a1,a2,a3⟩:=yVp h1;obtain⟨b1,b2,b3⟩:=vJp h2;have h4:∀p∈s.m,DG s p=true:=fun p hp=>by
  obtain⟨i,hi,rfl⟩:=List.mem_iff_getElem.1 hp;have:=h3 i hi;rw[j9 (d:=pd) s.m hi] at this;exact this
 have h5:∀p∈s.m,qY s.B.1.length p∧(0≤p.2.2.2.2.2.1∧p.2.2.2.2.2.1≤p.2.2.2.2.2.2∧p.2.2.2.2.2.2≤1048576)∧p.1∈s.ids:=fun p hp=>by
  have:=h4 p hp;unfold DG at this;simp only[bJ,Bool.not_eq_true',bO,decide_eq_false_iff_not] at this;obtain⟨c1,c2,c3,c4,c5⟩:=this;exact⟨J5.1 c1,by omega,c5⟩
 exact⟨a1,a3,a2,fun p hp=>(h5 p hp).1,fun p hp=>(h5 p hp).2.1,fun p hp=>(h5 p hp).2.2,b1,b2,b3⟩
def DJ (s:qG)(i:Nat):Bool:= !decide (s.pr.getD i 0<0)&& !decide (s.pr.getD i 0>1048576)
def xC (h:AC)(j:Nat):Bool:= !decide (h.getD j 0<0)&& !decide (h.getD j 0>1099511627776)
def HP (r:qS)(s:qG)(i:Nat):Bool:=decide (((s.ho.getD i []).length:Int)=(r.2.1.length:Int))&&(qA (xC (s.ho.getD i [])) (s.ho.getD i []).length 0&&(!decide (gM r.2.1 s.pr (s.ho.getD i [])>1152921504606846976)&&decide ((s.B.1.getD i ad).2.1=gM r.2.1 s.pr (s.ho.getD i []))))
def HQ (r:qS)(s:qG):Bool:=decide ((s.pr.length:Int)=(r.2.1.length:Int))&&(decide ((s.ho.length:Int)=r.1)&&(qA (DJ s) s.pr.length 0&&qA (HP r s) s.B.1.length 0))
theorem yA5 {r:qS}(hr:wT r){s:qG}(hp:(s.pr.length:Int)=(r.2.1.length:Int))(h1:qA (DJ s) s.pr.length 0=true){h:AC}(hl:(h.length:Int)=(r.2.1.length:Int))(h2:qA (xC h) h.length 0=true):gO r.2.1 s.pr h:=by
 rw[wI] at h1 h2;refine⟨hr.n3,by omega,by omega,hr.cut,fun i hi=>?_,fun i hi=>?_⟩
 ·have:=h1 i (by omega);unfold DJ at this;simp only[bJ,Bool.not_eq_true',decide_eq_false_iff_not] at this;omega
 ·have:=h2 i (by omega);unfold xC at this;simp only[bJ,Bool.not_eq_true',decide_eq_false_iff_not] at this;omega
theorem yTt {r:qS}(hr:wT r){s:qG}(hn:(s.B.1.length:Int)=r.1):HR 1000 r s.st=some (HQ r s):=by
  have ep:s.st.2.2.2.2.2.1=s.pr:=rfl;have eh:s.st.2.2.2.2.2.2.1=s.ho:=rfl;have ea:s.st.2.1=s.B.1:=rfl;have h3:=hr.n3;have hpa:=hr.pa;have e0:HR 1000 r s.st=bif !(decide ((s.pr.length:Int)=(r.2.1.length:Int))) then some false
    else bif !(decide ((s.ho.length:Int)=r.1)) then some false
    else(tS 1000 1000 0 r s.st).bind fun z=>
    match z with
    |.inl z1=>(tT 1000 1000 0 z1.1 z1.2).bind fun z5=>
     match z5 with
     |.inl z6=>some true
     |.inr z7=>some z7
    |.inr z8=>some z8:=rfl
  rw[e0];unfold HQ;by_cases hp:(s.pr.length:Int)=(r.2.1.length:Int)
  case neg=>rw[ai hp];rfl
  by_cases ho:(s.ho.length:Int)=r.1
  case neg=>rw[ag hp,ai ho];rfl
  rw[ag hp,ag ho];simp only[bG,ay,Bool.true_and];have l0 : tS 1000 1000 0 r s.st = _ := jK (L := fun n i => tS 1000 n i r s.st) (N := s.pr.length) (DJ s) (.inl (r, s.st)) (.inr false) (fun n=>by
    show DK 1000 (tS 1000 n) (s.pr.length:Int) r s.st=_;unfold DK;rw[ep,ai (Int.lt_irrefl _)];rfl) (fun n i hi=>by
    show DK 1000 (tS 1000 n) (i:Int) r s.st=_;unfold DK DJ;rw[ep,ag (show(i:Int)<s.pr.length by omega),zW,ag hi,aC,qD hi (by omega)];cases decide (s.pr.getD i 0<0)<;>cases decide (s.pr.getD i 0>1048576)<;>rfl) (n:=1000) (by omega)
  rw[l0];cases hpb:qA (DJ s) s.pr.length 0 with
  |false=>rfl
  |true=>
  simp only[av,ak,Bool.true_and];have l2:∀i,i<s.ho.length→(s.ho.getD i []).length=r.2.1.length→xD 1000 1000 (i:Int) 0 r s.st=some (bif qA (xC (s.ho.getD i [])) (s.ho.getD i []).length 0 then .inl ((i:Int),r,s.st) else .inr false):=fun i jt hl=>
    jK (L := fun n j => xD 1000 n (i : Int) j r s.st) (N := (s.ho.getD i []).length) (xC (s.ho.getD i [])) (.inl ((i : Int), r, s.st)) (.inr false) (fun n=>by
      show DL 1000 (xD 1000 n) (i:Int) ((s.ho.getD i []).length:Int) r s.st=_;unfold DL;rw[eh,zW,ag jt,aC,ai (Int.lt_irrefl _)];rfl) (fun n j hj=>by
      show DL 1000 (xD 1000 n) (i:Int) (j:Int) r s.st=_;unfold DL xC;rw[eh,zW,ag jt,aC,aC,ag (show(j:Int)<(s.ho.getD i []).length by omega),zW,ag hj,qD hj (by omega)];cases decide ((s.ho.getD i []).getD j 0<0)<;>cases decide ((s.ho.getD i []).getD j 0>1099511627776)<;>rfl) (n:=1000) (by omega)
  have l1 : tT 1000 1000 0 r s.st = _ := jK (L := fun n i => tT 1000 n i r s.st) (N := s.B.1.length) (HP r s) (.inl ()) (.inr false) (fun n=>by
    show DM 1000 (tT 1000 n) (s.B.1.length:Int) r s.st=_;unfold DM;rw[ai (show¬(s.B.1.length:Int)<r.1 by omega)];rfl) (fun n i hi=>by
    show DM 1000 (tT 1000 n) (i:Int) r s.st=_;unfold DM HP;have jt:i<s.ho.length:=by omega
    have ed:s.B.1.getD i (0,0,0)=s.B.1.getD i ad:=rfl;rw[eh,ag (show(i:Int)<r.1 by omega),zW,ag jt,aC];by_cases hl:((s.ho.getD i []).length:Int)=(r.2.1.length:Int)
    case neg=>rw[ai hl];rfl
    rw[ag hl,l2 i jt (by omega)];simp only[av,ak,bG,ay,Bool.true_and];cases hh:qA (xC (s.ho.getD i [])) (s.ho.getD i []).length 0 with
    |false=>rfl
    |true=>
      have L:=yA5 hr hp hpb hl hh;simp only[av,Bool.true_and];rw[eh,ep,ea,zW,ag jt,aC,Rs L,zW,ag hi,ed,qD hi (by omega)];simp only[av,ak,bG,ay];cases decide (gM r.2.1 s.pr (s.ho.getD i [])>1152921504606846976)<;>cases decide ((s.B.1.getD i ad).2.1=gM r.2.1 s.pr (s.ho.getD i []))<;>rfl) (n:=1000) (by omega)
  rw[l1];cases qA (HP r s) s.B.1.length 0<;>rfl
def gT (s:qG):Int:=qE (fun i=>(s.B.1.getD i ad).1) s.B.1.length
def R6 (r:qS)(s:qG):Bool:=decide (gT s=s.to)&&(decide (gT s≥0)&&(decide (gT s≤1152921504606846976)&&(gY s.ov (decide (s.t=r.2.2.2.1))&&(!s.ov||decide ((s.m.length:Int)=0)))))
def HS (r:qS)(s:qG):Bool:= !decide (s.t<0)&&(!decide (s.t>r.2.2.2.1)&&(j5 s.B.1 s.B.2.1 s.B.2.2.1 s.B.2.2.2&&(decide ((s.B.1.length:Int)=r.1)&&(HQ r s&&(DH s&&R6 r s)))))
theorem yW2 {r:qS}(hr:wT r){s:qG}(hm:s.m.length≤900)(hi:s.ids.length≤900):L5 1000 r s.st=some (HS r s):=by
  have ea:s.st.2.1=s.B.1:=rfl;have eU:L5 1000 r s.st=bif decide (s.t<0) then some false
     else bif decide (s.t>r.2.2.2.1) then some false
     else(AB 1000 s.B.1 s.B.2.1 s.B.2.2.1 s.B.2.2.2).bind fun x0=>
     bif !x0 then some false
     else bif !(decide ((s.B.1.length:Int)=r.1)) then some false
     else(HR 1000 r s.st).bind fun x1=>
     bif !x1 then some false
     else(HO 1000 s.st).bind fun x2=>
     bif !x2 then some false
     else(xE 1000 1000 0 r s.st []).bind fun z=>
     (HJ 1000 z.2.2).bind fun x3=>
     bif x3.2 then (bif decide (x3.1 = z.2.1.2.2.2.2.2.2.2.2.2.1) then (bif decide (x3.1 ≥ 0) then (bif decide (x3.1 ≤ 1152921504606846976) then (bif gY z.2.1.2.2.2.2.2.2.2.2.2.2 (decide (z.2.1.1 = z.1.2.2.2.1)) then (bif !z.2.1.2.2.2.2.2.2.2.2.2.2 then some true
          else some (decide ((z.2.1.2.2.2.2.2.2.2.1.length:Int)=0)))
         else some false)
        else some false)
       else some false)
      else some false)
     else some false:=rfl
  rw[eU,yJv (by decide)];unfold HS;cases decide (s.t<0) with
  |true=>rfl
  |false=>
  cases decide (s.t>r.2.2.2.1) with
  |true=>rfl
  |false=>
  simp only[ay,fZ,Bool.true_and,ak];cases hb:j5 s.B.1 s.B.2.1 s.B.2.2.1 s.B.2.2.2 with
  |false=>rfl
  |true=>
  have Dl:=FJ.1 hb;have eQ:=Dl.n6;by_cases hn:(s.B.1.length:Int)=r.1
  case neg=>rw[ai hn];rfl
  rw[ag hn,yTt hr hn];simp only[bG,ay,ak,Bool.true_and];cases HQ r s with
  |false=>rfl
  |true=>
  rw[yWd hm hi];simp only[bG,ay,ak,Bool.true_and];cases DH s with
  |false=>rfl
  |true=>
  obtain ⟨x, h1, h2⟩ := yZ (L := fun n j (x : AC) => xE 1000 n j r s.st x) (N := s.B.1.length) (fun x => (r, s.st, x)) (fun j x => x = (List.range j).map fun j => (s.B.1.getD j ad).1) (fun n x _=>by
    show DN 1000 (xE 1000 n) (s.B.1.length:Int) r s.st x=_;unfold DN;rw[ai (show¬(s.B.1.length:Int)<r.1 by omega)];rfl) (fun n j x hj hx=>by
    refine⟨x++[(s.B.1.getD j ad).1],?_,?_⟩
    · show DN 1000 (xE 1000 n) (j:Int) r s.st x=_;unfold DN;have hl:x.length=j:=by rw[hx];simp
      rw[ea,ag (show(j:Int)<r.1 by omega),zW,ag hj,qT (by omega) (by omega),aC,qD hj (by omega)];rfl
    · rw[hx,List.range_succ,List.map_append];rfl) (n:=1000) (s:=[]) (by omega) rfl
  have nc:∀j,j<s.B.1.length→-4611686018427387904<(s.B.1.getD j ad).1∧(s.B.1.getD j ad).1<4611686018427387904:=fun j hj=>(oN.1 (Dl.acct j hj)).1
  have hbx:∀y∈x,-9223372036854775808≤y∧y<9223372036854775808:=by
    intro y hm;rw[h2] at hm;obtain⟨j,hj,e⟩:=List.mem_map.1 hm;have:=nc j (List.mem_range.1 hj);rw[←e];omega
  have hlen:x.length=s.B.1.length:=by rw[h2];simp
  have dP:∀(g:Nat→Int) (n:Nat),zM (fun x=>x) ((List.range n).map g)=qE g n:=fun g n=>by
    induction n with
    |zero=>rfl
    |succ n ih=>
      rw[List.range_succ,List.map_append,iy,ih];show qE g n+(g n+0)=qE g n+g n;omega
  have rj:zM (fun x=>x) x=gT s:=by rw[h2,dP];rfl
  rw[h1];simp only[bG,ay,ak,Bool.true_and];rw[vMy (by omega) (by omega) hbx,rj];have eo:s.st.2.2.2.2.2.2.2.2.2.2=s.ov:=rfl;have em:s.st.2.2.2.2.2.2.2.1=s.m:=rfl;have et:s.st.2.2.2.2.2.2.2.2.2.1=s.to:=rfl;have e1:s.st.1=s.t:=rfl;have hsw:(DA (gT s)).2=true∧(DA (gT s)).1=gT s∨(DA (gT s)).2=false∧(gT s<0∨gT s>1152921504606846976):=by
    unfold DA;split
    · exact .inr ⟨rfl,by omega⟩
    · exact .inl ⟨rfl,rfl⟩
  simp only[ak];rw[et,e1,eo,em];unfold R6;rcases hsw with⟨q1,q2⟩|⟨q1,q2⟩
  · rw[q1,q2];cases decide (gT s=s.to)<;>cases decide (gT s≥0)<;>cases decide (gT s≤1152921504606846976)<;>cases gY s.ov (decide (s.t=r.2.2.2.1))<;>cases s.ov<;>rfl
  · rw[q1];have:decide (gT s≥0)=false∨decide (gT s≤1152921504606846976)=false:=by
      rcases q2 with q|q
      · exact .inl (ai (by omega))
      · exact .inr (ai (by omega))
    rcases this with q|q
    · rw[q];cases decide (gT s=s.to)<;>rfl
    · rw[q];cases decide (gT s=s.to)<;>cases decide (gT s≥0)<;>rfl
theorem vLk {r:qS}(hr:wT r){s:qG}(h:HS r s=true):yO r s:=by
 unfold HS at h;simp only[bJ,Bool.not_eq_true',bO,decide_eq_false_iff_not] at h;obtain⟨h1,h2,h3,h4,h5,h6,h7⟩:=h;have Dl:=FJ.1 h3;unfold HQ at h5;simp only[bJ,bO] at h5;obtain⟨a1,a2,a3,a4⟩:=h5;have row:∀i,i<s.B.1.length→gO r.2.1 s.pr (s.ho.getD i [])∧gM r.2.1 s.pr (s.ho.getD i [])≤1152921504606846976∧(s.B.1.getD i ad).2.1=gM r.2.1 s.pr (s.ho.getD i []):=fun i hi=>by
  have:=wI.1 a4 i hi;unfold HP at this;simp only[bJ,Bool.not_eq_true',bO,decide_eq_false_iff_not] at this;obtain⟨b1,b2,b3,b4⟩:=this;exact⟨yA5 hr a1 a3 b1 b2,by omega,b4⟩
 unfold R6 at h7;simp only[bJ,bO] at h7;obtain⟨c1,c2,c3,c4,c5⟩:=h7;have re:s.ov=decide (s.t=r.2.2.2.1):=by
  cases hx:s.ov<;>cases hy:decide (s.t=r.2.2.2.1)<;>rw[hx,hy] at c4<;>first|rfl|cases c4
 refine⟨by omega,Dl,h4,by omega,fun i hi=>(row i hi).1,fun i hi=>(row i hi).2.2,fun i hi=>by rw[(row i hi).2.2];exact(row i hi).2.1,vE8 h6,c1,by rw[←c1];omega,re,fun e=>?_⟩;rw[e] at c5;have:((s.m.length:Int)=0):=by simpa using c5
 exact List.eq_nil_of_length_eq_zero (by omega)
end Go.Ab.Gi
