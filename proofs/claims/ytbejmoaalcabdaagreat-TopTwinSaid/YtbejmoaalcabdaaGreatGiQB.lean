/- Plain proofs, part 1. -/
import Derived.Test.YtbejmoaalcabdaaGreatGiQA
import Derived.Test.YtbejmoaalcabdaaGreatGiXS
set_option linter.unusedVariables false
set_option linter.unusedSimpArgs false
set_option maxRecDepth 100000
namespace Go.Ab.Gi
open Go.Ab
abbrev wQ:=EQ
abbrev qS:=Int×List j3×Int×Int×Int
abbrev jM:=Int×Int×Int×Int×Int×Int×Int
abbrev vT8:=Int×List j3×Int×Int×Int×Int×List qR×wQ×AC×wQ×AC×wQ×List zF×AC×Int×Bool×Int×List yA
structure qD where
 t:Int
 B:BT
 pr:AC
 ho:wQ
 m:List zF
 ids:AC
 to:Int
 ov:Bool
abbrev qu:=Int×List qR×wQ×AC×wQ×AC×wQ×List zF×AC×Int×Bool
def qD.st (s:qD):qu:=(s.t,s.B.1,s.B.2.1,s.B.2.2.1,s.B.2.2.2,s.pr,s.ho,s.m,s.ids,s.to,s.ov)
def dk (r:qS)(s:qD)(who:Int)(l:List yA):vT8:=(r.1,r.2.1,r.2.2.1,r.2.2.2.1,r.2.2.2.2,s.t,s.B.1,s.B.2.1,s.B.2.2.1,s.B.2.2.2,s.pr,s.ho,s.m,s.ids,s.to,s.ov,who,l)
structure jU (r:qS):Prop where
 pa:1≤r.1∧r.1≤6
 n3:r.2.1.length≤3
 price:∀i,i<r.2.1.length→0≤(r.2.1.getD i sV).1∧(r.2.1.getD i sV).1≤1048576
 cut:∀i,i<r.2.1.length→0≤(r.2.1.getD i sV).2∧(r.2.1.getD i sV).2≤10000
 cu:0≤r.2.2.1∧r.2.2.1≤r.2.2.2.1
 cl:1≤r.2.2.2.1∧r.2.2.2.1≤1048576
 pe:1≤r.2.2.2.2∧r.2.2.2.2≤1048576
def nL (m:List zF):Prop:=List.Pairwise (fun p q=>wW p q=true) m
structure gJ (n:Nat) (m:List zF) (ids:AC):Prop where
 dist:qO m
 len:m.length≤40
 sort:nL m
 may:∀p∈m,yI n p
 time:∀p∈m,0≤p.2.2.2.2.2.1∧p.2.2.2.2.2.1≤p.2.2.2.2.2.2∧p.2.2.2.2.2.2≤1048576
 were:∀p∈m,p.1∈ids
 asc:uZ ids
 pos:∀x∈ids,1≤x
 idl:ids.length≤200
structure yE (r:qS) (s:qD):Prop where
 tk:0≤s.t∧s.t≤r.2.2.2.1
 bk:qU s.B
 n:(s.B.1.length:Int)=r.1
 hol:s.ho.length=s.B.1.length
 laid:∀i,i<s.B.1.length→j4 r.2.1 s.pr (s.ho.getD i [])
 cred:∀i,i<s.B.1.length→(s.B.1.getD i ad).2.1=lZ r.2.1 s.pr (s.ho.getD i [])
 most:∀i,i<s.B.1.length→(s.B.1.getD i ad).2.1≤1152921504606846976
 waits:gJ s.B.1.length s.m s.ids
 sum:qK (fun i=>(s.B.1.getD i ad).1) s.B.1.length=s.to
 tot:0≤s.to∧s.to≤1152921504606846976
 over:s.ov=decide (s.t=r.2.2.2.1)
 none:s.ov=true→s.m=[]
theorem qw k a b c:vF k a b c=some (decide (a≥b)&&decide (a≤c)):=by
 unfold vF
 grind
theorem mF {α:Type} c (a b:α):(bif c then some a else some b)=some (bif c then a else b):=by grind
def j7 (pa t:Int)(p:zF):Bool:=
 decide (p.2.1≥0)&&decide (p.2.1<pa)&&(decide (p.2.2.1≥0)&&decide (p.2.2.1<pa)&&(decide (p.1≥1)&&(decide (p.2.2.2.1≥1)&&(decide (p.2.2.2.1≤1099511627776)&&(decide (p.2.2.2.2.1≥1)&&(!decide (p.2.1=p.2.2.1)&&(decide (p.2.2.2.2.1≤3)&&(decide (p.2.2.2.2.2.1≥0)&&(decide (p.2.2.2.2.2.1≤p.2.2.2.2.2.2)&&(decide (p.2.2.2.2.2.2≥t)&&decide (p.2.2.2.2.2.2≤1048576)))))))))))
theorem UW k (r:qS) w:I2 k r w=some (decide (w≥0)&&decide (w<r.1)):=by
 unfold I2
 grind
theorem vPb k (r:qS) t (p:zF):Nc k r t p=some (j7 r.1 t p):=by
 unfold Nc j7
 simp[UW,mF]
def oU (cu cl t c:Int):Int:=bif decide (t≥cl) then 7 else bif decide (c=3)&&decide (t≥cu) then 7 else 0
theorem yHe k (r:qS) t c:zt k r t c=some (oU r.2.2.1 r.2.2.2.1 t c):=by
 unfold zt oU
 grind
def mc (r:qS)(t:Int)(p:zF):Int:=bif !j7 r.1 t p then 1 else oU r.2.2.1 r.2.2.2.1 t p.2.2.2.2.1
theorem vYn k (r:qS) t (p:zF):EE k r t p=some (mc r t p):=by
 unfold EE mc
 rw[vPb]
 simp[yHe]
 grind
def fz (who:Int)(f:jM):zF:=(f.2.1,who,f.2.2)
def ie (r:qS)(s:qD)(who:Int)(f:jM):Int×List zF×AC:=
 bif !(decide (f.2.2.1≥0)&&decide (f.2.2.1≤r.1-1)) then(1,s.m,s.ids)
 else bif !(decide (f.2.2.2.2.1≥1)&&decide (f.2.2.2.2.1≤3)) then(1,s.m,s.ids)
 else bif !decide (mc r s.t (fz who f)=0) then(mc r s.t (fz who f),s.m,s.ids)
 else bif decide (f.2.1∈s.ids) then(6,s.m,s.ids)
 else bif decide (200≤s.ids.length) then(3,s.m,s.ids)
 else bif (vP s.m f.2.1).isSome then(6,s.m,s.ids)
 else bif decide (40≤s.m.length) then(3,s.m,s.ids)
 else(0,nF s.m (fz who f),oP s.ids f.2.1)
theorem vKo {k}(hk:1000≤k){r}(hr:jU r){s}(h:gJ s.B.1.length s.m s.ids) who l f:
  ∃d,Nd k (dk r s who l) f.2=some ((ie r s who f).1,d)∧((ie r s who f).1=0→d=dk r {s with m:=(ie r s who f).2.1,ids:=(ie r s who f).2.2} who l):=by
 have hp:=hr.pa
 have hi:=h.idl
 have hm:=h.len
 have w1:zA (r.1-1)=r.1-1:=zR (by omega) (by omega)
 have eD:Nd k (dk r s who l) f.2=(vF k f.2.2.1 0 (zA (r.1-1))).bind fun x0=>
  bif !x0 then some (1,dk r s who l)
  else(vF k f.2.2.2.2.1 1 3).bind fun x1=>
  bif !x1 then some (1,dk r s who l)
  else(EE k r s.t (fz who f)).bind fun x2=>
  bif !(decide (x2=0)) then some (x2,dk r s who l)
  else(DV k s.ids f.2.1).bind fun x3=>
  bif !(decide (x3.2=0)) then some (x3.2,dk r s who l)
  else(uY k s.m (fz who f)).bind fun x4=>
  bif !(decide (x4.2=0)) then some (x4.2,dk r s who l)
  else some (0,dk r {s with m:=x4.1,ids:=x3.1} who l):=rfl
 rw[eD,qw,qw,vYn,w1,vR2 (by omega) (by omega) h.asc,Um (by omega) (by omega) (by unfold qV;omega)]
 simp only[af]
 unfold ie
 cases decide (f.2.2.1≥0)&&decide (f.2.2.1≤r.1-1) with
 |false=>exact by simp
 |true=>
 cases decide (f.2.2.2.2.1≥1)&&decide (f.2.2.2.2.1≤3) with
 |false=>exact by simp
 |true=>
 by_cases hc:mc r s.t (fz who f)=0
 ·rw[aa hc]
  by_cases h1:f.2.1∈s.ids
  ·rw[aa h1];exact by simp
  ·rw[ab h1]
   by_cases h2:200≤s.ids.length
   ·rw[aa h2];exact by simp
   ·rw[ab h2]
    have e1:(fz who f).1=f.2.1:=rfl
    rw[e1]
    cases(vP s.m f.2.1).isSome with
    |true=>exact by simp
    |false=>
     by_cases h3:40≤s.m.length
     ·rw[aa h3];exact by simp
     ·rw[ab h3];exact by simp
 ·rw[ab hc]
  exact by simp
def me (who kd a:Int):yA:=(who,kd,a,0,0,0,0,0)
theorem yDm {k l}(hl:l.length≤1000) r s who kd a:vt k (dk r s who l) kd [a]=some (dk r s who (l++[me who kd a])):=by
 have e:vt k (dk r s who l) kd [a]=bif zO (l.length+1) 64 then some (dk r s who (l++[me who kd a])) else none:=rfl
 rw[e,qT (by omega) (by omega)]
 rfl
def j8 (r:qS)(s:qD)(who:Int)(f:jM):Int×List zF×List yA:=match vP s.m f.2.1 with
 |none=>(4,s.m,[])
 |some x=>
  bif !decide ((s.m.getD x pd).2.1=who) then(4,s.m,[])
  else bif decide (f.1=2) then(0,yB s.m x,[me who 20 f.2.1])
  else bif decide (f.1 = 4) then (bif !(decide (f.2.2.1≥1)&&decide (f.2.2.1≤3)) then(1,s.m,[])
   else bif !decide (oU r.2.2.1 r.2.2.2.1 s.t f.2.2.1=0) then(oU r.2.2.1 r.2.2.2.1 s.t f.2.2.1,s.m,[])
   else(0,nF (yB s.m x) ((s.m.getD x pd).1,(s.m.getD x pd).2.1,(s.m.getD x pd).2.2.1,(s.m.getD x pd).2.2.2.1,f.2.2.1,(s.m.getD x pd).2.2.2.2.2.1,(s.m.getD x pd).2.2.2.2.2.2),[]))
  else bif decide (f.2.2.1=0) then(0,Iy (yB s.m x) (s.m.getD x pd),[])
  else bif decide (f.2.2.1=1) then(0,nF (yB s.m x) (s.m.getD x pd),[])
  else(1,s.m,[])
theorem vEt {k}(hk:1000≤k){r s}(h:gJ s.B.1.length s.m s.ids) who {l}(hl:l.length≤1000)(f:jM):
  ∃d,zu k (dk r s who l) f=some ((j8 r s who f).1,d)∧((j8 r s who f).1=0→d=dk r {s with m:=(j8 r s who f).2.1} who (l++(j8 r s who f).2.2)):=by
 have hm:=h.len
 have nr:qV s.m:=by unfold qV;omega
 have eD : zu k (dk r s who l) f = ((nE k s.m f.2.1).bind fun x0=>
   bif decide (x0<0) then some (((0,0,0,0,0,0,0):zF),(4:Int))
   else bif zB x0 s.m.length then (bif !(decide ((s.m.getD x0.toNat (0,0,0,0,0,0,0)).2.1=who)) then some ((0,0,0,0,0,0,0),4)
    else bif zB x0 s.m.length then some ((s.m.getD x0.toNat (0,0,0,0,0,0,0)),0)
    else none)
   else none).bind fun x0=>
  bif !(decide (x0.2=0)) then some (x0.2,dk r s who l)
  else bif decide (f.1 = 2) then ((oO k s.m f.2.1).bind fun x1=>
   (vt k (dk r {s with m:=x1.1} who l) 20 [f.2.1]).bind fun x2=>
   some (x1.2.2.2.2.2.2.2.2,x2))
  else bif decide (f.1 = 4) then ((vF k f.2.2.1 1 3).bind fun x3=>
   bif !x3 then some (1,dk r s who l)
   else(zt k r s.t f.2.2.1).bind fun x4=>
   bif !(decide (x4=0)) then some (x4,dk r s who l)
   else(DO k s.m f.2.1 f.2.2.1).bind fun x5=>
   some (x5.2,dk r {s with m:=x5.1} who l))
  else bif decide (f.2.2.1 = 0) then ((DT k s.m f.2.1).bind fun x6=>
   some (x6.2,dk r {s with m:=x6.1} who l))
  else bif decide (f.2.2.1 = 1) then ((DP k s.m f.2.1).bind fun x7=>
   some (x7.2,dk r {s with m:=x7.1} who l))
  else some (1,dk r s who l):=rfl
 rw[eD,Iu (by omega) (by omega)]
 unfold j8 jz
 cases hx:vP s.m f.2.1 with
 |none=>exact by simp
 |some x=>
  have cM:=j0 hx
  have e1:decide ((x:Int)<0)=false:=by simp
  simp only[af,e1,ak,qH,aa cM.1,aj,ao]
  by_cases hw:(s.m.getD x (0,0,0,0,0,0,0)).2.1=who
  ·have uA:(s.m.getD x pd).2.1=who:=hw
   rw[aa hw]
   by_cases h2:f.1=2
   ·rw[aa h2]
    simp only[aj,zg (show s.m.length<k by omega) nr,af,yDm hl]
    unfold gH
    rw[hx]
    exact by simp
   ·rw[ab h2]
    simp only[ak]
    by_cases h4:f.1=4
    ·rw[aa h4]
     simp only[aj,qw,af,yHe,vVs (show 3≤k by omega) (by grind) nr h.dist hm hx]
     cases decide (f.2.2.1≥1)&&decide (f.2.2.1≤3) with
     |false=>exact by simp
     |true=>
      simp only[aA,ak]
      by_cases hc:oU r.2.2.1 r.2.2.2.1 s.t f.2.2.1=0
      all_goals simp_all
    ·rw[ab h4]
     simp only[ak]
     by_cases h0:f.2.2.1=0
     ·rw[aa h0]
      simp only[aj,vFl (show 3≤k by omega) (by grind) nr hx,af]
      exact by simp
     ·rw[ab h0]
      simp only[ak]
      by_cases h1:f.2.2.1=1
      ·rw[aa h1]
       simp only[aj,vN3 (show 3≤k by omega) (by grind) nr h.dist hm hx,af]
       exact by simp
      ·rw[ab h1]
       exact by simp
  ·have uA:¬(s.m.getD x pd).2.1=who:=hw
   rw[ab hw]
   exact by simp
def UX (s:qD)(a:List qR)(b:wQ)(m:AC):qD:={s with B:=(a,b,m,s.B.2.2.2)}
def j9 (r:qS)(s:qD)(who:Int)(f:jM):Int×qD:=
 bif decide (f.1 = 5) then (bif !((decide (f.2.1≥0)&&decide (f.2.1≤r.1-1))&& !decide (f.2.1=who)) then(1,s)
  else bif !(decide (f.2.2.1≥-1)&&decide (f.2.2.1≤1152921504606846976)) then(1,s)
  else(0,UX s s.B.1 (s.B.2.1.set who.toNat ((s.B.2.1.getD who.toNat []).set f.2.1.toNat f.2.2.1)) s.B.2.2.1))
 else bif decide (f.1 = 6) then (bif !(decide (f.2.1≥-1)&&decide (f.2.1≤1152921504606846976)) then(1,s)
  else(0,UX s s.B.1 s.B.2.1 (s.B.2.2.1.set who.toNat f.2.1)))
 else bif !(decide (f.2.1≥0)&&decide (f.2.1≤1152921504606846976)) then(1,s)
 else(0,UX s (s.B.1.set who.toNat ((s.B.1.getD who.toNat ad).1,(s.B.1.getD who.toNat ad).2.1,f.2.1)) s.B.2.1 s.B.2.2.1)
theorem vMu {k}(hk:1000≤k){r}(hr:jU r){s}(hb:qU s.B)(hn:(s.B.1.length:Int)=r.1){who}(hw:0≤who∧who<r.1) l (f:jM):
    ∃d,zv k (dk r s who l) f=some ((j9 r s who f).1,d)∧((j9 r s who f).1=0→d=dk r (j9 r s who f).2 who l):=by
  have hp:=hr.pa
  have w1:zA (r.1-1)=r.1-1:=zR (by omega) (by omega)
  obtain⟨w,rfl⟩:=Int.eq_ofNat_of_zero_le hw.1
  have eZ:w<s.B.1.length:=by omega
  have eD:zv k (dk r s w l) f=(fU k s.B.1 s.B.2.1 s.B.2.2.1 s.B.2.2.2).bind fun x0=>
    bif decide (f.1 = 5) then (((vF k f.2.1 0 (zA (r.1-1))).bind fun x0=>bif x0 then some (!(decide (f.2.1=(w:Int)))) else some false).bind fun x1=>
      bif !x1 then some (1,dk r s w l)
      else(vF k f.2.2.1 (-1) 1152921504606846976).bind fun x2=>
      bif !x2 then some (1,dk r s w l)
      else bif zB (w : Int) x0.2.1.length then (bif zB f.2.1 (x0.2.1.getD (w:Int).toNat []).length then
        some (0,dk r {s with B:=(x0.1,(x0.2.1.set (w:Int).toNat ((x0.2.1.getD (w:Int).toNat []).set f.2.1.toNat f.2.2.1)),x0.2.2.1,x0.2.2.2)} w l)
       else none)
      else none)
    else bif decide (f.1 = 6) then ((vF k f.2.1 (-1) 1152921504606846976).bind fun x3=>
      bif !x3 then some (1,dk r s w l)
      else bif zB (w:Int) x0.2.2.1.length then some (0,dk r {s with B:=(x0.1,x0.2.1,(x0.2.2.1.set (w:Int).toNat f.2.1),x0.2.2.2)} w l)
      else none)
    else(vF k f.2.1 0 1152921504606846976).bind fun x4=>
    bif !x4 then some (1,dk r s w l)
    else bif zB (w:Int) x0.1.length then some (0,dk r {s with B:=((x0.1.set (w:Int).toNat ((x0.1.getD (w:Int).toNat (0,0,0)).1,(x0.1.getD (w:Int).toNat (0,0,0)).2.1,f.2.1)),x0.2.1,x0.2.2.1,x0.2.2.2)} w l)
    else none:=rfl
  rw[eD,HT (by omega) hb.toSized,w1]
  simp only[af,qw,qH,ao]
  unfold j9
  rw[ao]
  by_cases h5:f.1=5
  · rw[aa h5]
    simp only[aj]
    cases hc:decide (f.2.1≥0)&&decide (f.2.1≤r.1-1) with
    |false=>exact by simp
    |true=>
      simp  at hc
      cases decide (f.2.1=(w:Int)) with
      |true=>exact by simp
      |false=>
        cases decide (f.2.2.1≥-1)&&decide (f.2.2.1≤1152921504606846976) with
        |false=>exact by simp
        |true=>
          have b1:decide (w<s.B.2.1.length)=true:=aa (by rw[hb.bl];exact eZ)
          have b2:zB f.2.1 (s.B.2.1.getD w []).length=true:=fq hc.1 (by rw[hb.br w eZ];omega)
          simp only[aj,af,bM,aA,ak,b1,b2,Bool.and_self]
          exact⟨_,rfl,fun _=>rfl⟩
  · rw[ab h5]
    simp only[ak]
    by_cases h6:f.1=6
    · rw[aa h6]
      cases decide (f.2.1≥-1)&&decide (f.2.1≤1152921504606846976) with
      |false=>exact by simp
      |true=>
        have b1:decide (w<s.B.2.2.1.length)=true:=aa (by rw[hb.ml];exact eZ)
        simp only[aj,aA,ak,b1]
        exact⟨_,rfl,fun _=>rfl⟩
    · rw[ab h6]
      cases decide (f.2.1≥0)&&decide (f.2.1≤1152921504606846976) with
      |false=>exact by simp
      |true=>
        have b1:decide (w<s.B.1.length)=true:=by grind
        simp only[aj,aA,ak,b1]
        exact⟨_,rfl,fun _=>rfl⟩
def EF (s:qD)(w:Nat)(h:AC)(n:Int):Int×qD:=
 bif decide (n>1152921504606846976) then(8,s)
 else bif decide (n<(s.B.1.getD w ad).2.1)&&decide ((s.B.1.getD w ad).1+n<0) then(9,s)
 else(0,{s with B:=(s.B.1.set w ((s.B.1.getD w ad).1,n,(s.B.1.getD w ad).2.2),s.B.2.1,s.B.2.2.1,s.B.2.2.2),ho:=s.ho.set w h})
def ka (r:qS)(s:qD)(who a many:Int):Int×qD:=
 bif !(decide (a≥0)&&decide (a≤(r.2.1.length:Int)-1)) then(1,s)
 else bif !(decide (many≥0)&&decide (many≤1099511627776)) then(1,s)
 else EF s who.toNat ((s.ho.getD who.toNat []).set a.toNat many) (lZ r.2.1 s.pr ((s.ho.getD who.toNat []).set a.toNat many))
theorem j4.set {sa pr h}(L:j4 sa pr h){i}(hi:i<sa.length){v}(hv:0≤v∧v≤1099511627776):j4 sa pr (h.set i v):=
 ⟨L.n3,L.pl,by rw[List.length_set];exact L.hl,L.cut,L.price,fun j hj=>by
  rw[jN]
  split
  ·exact hv
  ·exact L.hold j hj⟩
theorem j4.setP {sa pr h}(L:j4 sa pr h){i}(hi:i<sa.length){v}(hv:0≤v∧v≤1048576):j4 sa (pr.set i v) h:=
 ⟨L.n3,by rw[List.length_set];exact L.pl,L.hl,L.cut,fun j hj=>by
  rw[jN]
  split
  ·exact hv
  ·exact L.price j hj,L.hold⟩
theorem vXy {k}{l:wQ}(hl:l.length≤1000):EG k l=some l:=by
 unfold EG
 rw[qT (by omega) (by omega)]
 rfl
theorem vSj {k}(hk:1000≤k){r}(hr:jU r){s}(h:yE r s){who}(hw:0≤who∧who<r.1) l a many:
    ∃d,Nf k (dk r s who l) a many=some ((ka r s who a many).1,d)∧((ka r s who a many).1=0→d=dk r (ka r s who a many).2 who l):=by
  have hp:=hr.pa
  have h3:=hr.n3
  have hn:=h.n
  have hZ:=h.bk.n6
  have hol:=h.hol
  have w1:zA ((r.2.1.length:Int)-1)=(r.2.1.length:Int)-1:=zR (by omega) (by omega)
  obtain⟨w,rfl⟩:=Int.eq_ofNat_of_zero_le hw.1
  have eZ:w<s.B.1.length:=by omega
  have eD:Nf k (dk r s w l) a many=((vF k a 0 (zA ((r.2.1.length:Int)-1))).bind fun x0=>some x0).bind fun x0=>
    bif !x0 then some (1,dk r s w l)
    else(vF k many 0 1099511627776).bind fun x1=>
    bif !x1 then some (1,dk r s w l)
    else(EG k s.ho).bind fun x2=>
    bif zB (w : Int) x2.length then ((oR k (x2.getD (w:Int).toNat []) a many).bind fun x3=>
      bif zB (w:Int) x2.length then(
       bif zB (w : Int) (x2.set (w : Int).toNat x3).length then ((qn k r.2.1 s.pr ((x2.set (w:Int).toNat x3).getD (w:Int).toNat [])).bind fun x4=>
        bif zB (w : Int) s.B.1.length then (bif !x4.2 then some (8,dk r s w l)
         else bif decide (x4.1>1152921504606846976) then some (8,dk r s w l)
         else bif decide (x4.1 < (s.B.1.getD (w : Int).toNat (0, 0, 0)).2.1) then (bif decide ((zA ((s.B.1.getD (w:Int).toNat (0,0,0)).1+x4.1))<0) then some (9,dk r s w l)
          else(fU k s.B.1 s.B.2.1 s.B.2.2.1 s.B.2.2.2).bind fun x5=>
          bif zB (w:Int) x5.1.length then
           some (0,dk r {s with B:=((x5.1.set (w:Int).toNat ((x5.1.getD (w:Int).toNat (0,0,0)).1,x4.1,(x5.1.getD (w:Int).toNat (0,0,0)).2.2)),x5.2.1,x5.2.2.1,x5.2.2.2),ho:=x2.set (w:Int).toNat x3} w l)
          else none)
         else(fU k s.B.1 s.B.2.1 s.B.2.2.1 s.B.2.2.2).bind fun x6=>
         bif zB (w:Int) x6.1.length then
          some (0,dk r {s with B:=((x6.1.set (w:Int).toNat ((x6.1.getD (w:Int).toNat (0,0,0)).1,x4.1,(x6.1.getD (w:Int).toNat (0,0,0)).2.2)),x6.2.1,x6.2.2.1,x6.2.2.2),ho:=x2.set (w:Int).toNat x3} w l)
         else none)
        else none)
       else none)
      else none)
    else none:=rfl
  rw[eD,w1,qw,qw,HT (by omega) h.bk.toSized,vXy (by omega)]
  simp only[af,qH,ao]
  unfold ka
  simp only[ao]
  cases hc:decide (a≥0)&&decide (a≤(r.2.1.length:Int)-1) with
  |false=>exact by simp
  |true=>
  simp only[aV,aP] at hc
  cases hm:decide (many≥0)&&decide (many≤1099511627776) with
  |false=>exact by simp
  |true=>
  obtain⟨i,rfl⟩:=Int.eq_ofNat_of_zero_le hc.1
  have hi:i<r.2.1.length:=by omega
  have L:=h.laid w eZ
  have L2:=L.set hi (v:=many) (by grind)
  have b1:decide (w<s.ho.length)=true:=by grind
  have b2:decide (w<s.B.1.length)=true:=aa eZ
  have lq:oR k (s.ho.getD w []) (i:Int) many=some ((s.ho.getD w []).set i many):=by
    have:=yKi (k:=k) (l:=s.ho.getD w []) (by rw[L.hl];omega) (i:=(i:Int)) (by omega) (by rw[L.hl];omega) many
    simp_all
  have I3:(s.ho.set w ((s.ho.getD w []).set i many)).getD w []=(s.ho.getD w []).set i many:=by
    rw[jN,if_pos ⟨rfl,by omega⟩]
  have hv:=yW3 (k:=k) L2 (by omega)
  have hb:=h.bk.nums.bal w eZ
  have xJ:=D4 L2
  simp only[aA,ak,b1,aj,lq,af,List.length_set,I3,hv,b2,ao]
  clear hv L2 I3 eD
  generalize lZ r.2.1 s.pr ((s.ho.getD w []).set i many)=n at xJ⊢
  unfold EF
  cases UY:decide (n>1152921504606846976) with
  |true=>exact by simp
  |false=>
    have h8:¬n>1152921504606846976:=df UY
    have w2:zA ((s.B.1.getD w (0,0,0)).1+n)=(s.B.1.getD w (0,0,0)).1+n:=zR (by have:=hb.1;simp only[ad] at this;omega) (by have:=hb.2;simp only[ad] at this;omega)
    simp only[w2,ak]
    cases decide (n<(s.B.1.getD w (0,0,0)).2.1) with
    |false=>exact by simp
    |true=>
      cases decide ((s.B.1.getD w (0,0,0)).1+n<0) with
      |true=>exact by simp
      |false=>exact by simp
def jE (a:qR)(n:Int):qR×Int:=bif eW (a.1+n,a.2.1,a.2.2) then((a.1+n,a.2.1,a.2.2),0) else(a,8)
theorem yWm {k}{a:qR}(ha:-4611686018427387904<a.1∧a.1<4611686018427387904){n}(hn:-1099511627776≤n∧n≤1099511627776):I4 k a n=some (jE a n):=by
 have abU:Ng k a.1 n=some (a.1+n,true):=by
  unfold Ng
  have w1:n>0→zA (9223372036854775807-n)=9223372036854775807-n:=fun h=>zR (by omega) (by omega)
  have w2:n<0→zA (-9223372036854775808-n)= -9223372036854775808-n:=fun h=>zR (by omega) (by omega)
  have w3:zA (a.1+n)=a.1+n:=zR (by omega) (by omega)
  grind
 unfold I4 jE
 simp[yM6]
 grind
theorem UZ x (s:Nat)(h:s≤62):shr .i64 x (s:Int)=x/2^s:=by
 have e:shr .i64 x (s:Int)=x.fdiv (2^(min (s:Int).toNat 64)):=rfl
 grind
theorem qx x:shr .i64 x 16=x/65536:=UZ x 16 (by decide)
theorem yWg x:shr .i64 x 32=x/4294967296:=UZ x 32 (by decide)
theorem yPw x:shr .i64 x 48=x/281474976710656:=UZ x 48 (by decide)
theorem vJf x:shr .i64 x 0=x:=by grind
theorem tf x:yJ .i64 x 65535=x%65536:=vUh 16 (by decide) x
theorem U0 m (hm:m≤62){x y}(hx:0≤x)(hy:0≤y∧y<2^m)(hs:x*2^m+y<9223372036854775808):wK .i64 (x*2^m) y=x*2^m+y:=by
 obtain⟨a,rfl⟩:=Int.eq_ofNat_of_zero_le hx
 obtain⟨b,rfl⟩:=Int.eq_ofNat_of_zero_le hy.1
 have hp:(2:Int)^m=((2^m:Nat):Int):=by simp
 rw[hp] at hs hy⊢
 have e1:(a:Int)*((2^m:Nat):Int)=((a*2^m:Nat):Int):=by simp
 rw[e1] at hs⊢
 have hb:b<2^m:=by omega
 unfold wK rI
 have I5:IntKind.i64.bits=64:=rfl
 have e2:(BitVec.ofInt IntKind.i64.bits ((a*2^m:Nat):Int)|||BitVec.ofInt IntKind.i64.bits (b:Int)).toNat=a*2^m+b:=by
  rw[BitVec.toNat_or,BitVec.ofInt_natCast,BitVec.ofInt_natCast,BitVec.toNat_ofNat,BitVec.toNat_ofNat,I5,Nat.mod_eq_of_lt (by omega),Nat.mod_eq_of_lt (by omega)]
  have:=Nat.shiftLeft_add_eq_or_of_lt hb a
  rw[Nat.shiftLeft_eq] at this
  exact this.symm
 rw[e2]
 exact zR (by omega) (by omega)
def V9 (l0 l1 l2 l3 l4 l5 l6 l7 l8:Int):Int:=l0+65536*(l1+65536*(l2+65536*(l3+65536*(l4+65536*(l5+65536*(l6+65536*(l7+65536*l8)))))))
theorem vMr (l0 l1 l2 l3 l4 l5 l6 l7 l8:Int){c1 c2 c3 c4 c5 c6 c7 c8:Int}(h1:c1=zA (l1+shr .i64 l0 16))(h2:c2=zA (l2+shr .i64 c1 16))(h3:c3=zA (l3+shr .i64 c2 16))(h4:c4=zA (l4+shr .i64 c3 16))(h5:c5=zA (l5+shr .i64 c4 16))(h6:c6=zA (l6+shr .i64 c5 16))(h7:c7=zA (l7+shr .i64 c6 16))(h8:c8=zA (l8+shr .i64 c7 16)):
  EH 1000 [l0,l1,l2,l3,l4,l5,l6,l7,l8]=some [yJ .i64 l0 65535,yJ .i64 c1 65535,yJ .i64 c2 65535,yJ .i64 c3 65535,yJ .i64 c4 65535,yJ .i64 c5 65535,yJ .i64 c6 65535,yJ .i64 c7 65535,c8]:=by
 subst h8;subst h7;subst h6;subst h5;subst h4;subst h3;subst h2;subst h1
 kernel_rfl
theorem yTh {l0 l1 l2 l3 l4 l5 l6 l7 l8:Int}(g0:0≤l0∧l0≤1099511627776)(g1:0≤l1∧l1≤1099511627776)(g2:0≤l2∧l2≤1099511627776)(g3:0≤l3∧l3≤1099511627776)(g4:0≤l4∧l4≤1099511627776)(g5:0≤l5∧l5≤1099511627776)(g6:0≤l6∧l6≤1099511627776)(g7:0≤l7∧l7≤1099511627776)(g8:0≤l8∧l8≤1099511627776):∃d0 d1 d2 d3 d4 d5 d6 d7 d8,
  EH 1000 [l0,l1,l2,l3,l4,l5,l6,l7,l8]=some [d0,d1,d2,d3,d4,d5,d6,d7,d8]∧V9 d0 d1 d2 d3 d4 d5 d6 d7 d8=V9 l0 l1 l2 l3 l4 l5 l6 l7 l8∧(0≤d0∧d0<65536)∧(0≤d1∧d1<65536)∧(0≤d2∧d2<65536)∧(0≤d3∧d3<65536)∧(0≤d4∧d4<65536)∧(0≤d5∧d5<65536)∧(0≤d6∧d6<65536)∧(0≤d7∧d7<65536)∧0≤d8:=by
 obtain⟨c1,oC⟩:∃c,c=l1+l0/65536:=⟨_,rfl⟩
 have b1:0≤c1∧c1≤2199023255552:=by omega
 have h1:c1=zA (l1+shr .i64 l0 16):=by rw[qx,←oC,zR (by omega) (by omega)]
 obtain⟨c2,cN⟩:∃c,c=l2+c1/65536:=⟨_,rfl⟩
 have b2:0≤c2∧c2≤2199023255552:=by omega
 have h2:c2=zA (l2+shr .i64 c1 16):=by rw[qx,←cN,zR (by omega) (by omega)]
 obtain⟨c3,cL⟩:∃c,c=l3+c2/65536:=⟨_,rfl⟩
 have b3:0≤c3∧c3≤2199023255552:=by omega
 have h3:c3=zA (l3+shr .i64 c2 16):=by rw[qx,←cL,zR (by omega) (by omega)]
 obtain⟨c4,dP⟩:∃c,c=l4+c3/65536:=⟨_,rfl⟩
 have b4:0≤c4∧c4≤2199023255552:=by omega
 have h4:c4=zA (l4+shr .i64 c3 16):=by rw[qx,←dP,zR (by omega) (by omega)]
 obtain⟨c5,hY⟩:∃c,c=l5+c4/65536:=⟨_,rfl⟩
 have b5:0≤c5∧c5≤2199023255552:=by omega
 have h5:c5=zA (l5+shr .i64 c4 16):=by rw[qx,←hY,zR (by omega) (by omega)]
 obtain⟨c6,Cm⟩:∃c,c=l6+c5/65536:=⟨_,rfl⟩
 have b6:0≤c6∧c6≤2199023255552:=by omega
 have h6:c6=zA (l6+shr .i64 c5 16):=by rw[qx,←Cm,zR (by omega) (by omega)]
 obtain⟨c7,Cn⟩:∃c,c=l7+c6/65536:=⟨_,rfl⟩
 have b7:0≤c7∧c7≤2199023255552:=by omega
 have h7:c7=zA (l7+shr .i64 c6 16):=by rw[qx,←Cn,zR (by omega) (by omega)]
 obtain⟨c8,hc8⟩:∃c,c=l8+c7/65536:=⟨_,rfl⟩
 have b8:0≤c8∧c8≤2199023255552:=by omega
 have h8:c8=zA (l8+shr .i64 c7 16):=by rw[qx,←hc8,zR (by omega) (by omega)]
 have run:=vMr l0 l1 l2 l3 l4 l5 l6 l7 l8 h1 h2 h3 h4 h5 h6 h7 h8
 simp only[tf] at run
 refine⟨_,_,_,_,_,_,_,_,_,run,?_,⟨Int.emod_nonneg _ (by decide),Int.emod_lt_of_pos _ (by decide)⟩,⟨Int.emod_nonneg _ (by decide),Int.emod_lt_of_pos _ (by decide)⟩,⟨Int.emod_nonneg _ (by decide),Int.emod_lt_of_pos _ (by decide)⟩,⟨Int.emod_nonneg _ (by decide),Int.emod_lt_of_pos _ (by decide)⟩,⟨Int.emod_nonneg _ (by decide),Int.emod_lt_of_pos _ (by decide)⟩,⟨Int.emod_nonneg _ (by decide),Int.emod_lt_of_pos _ (by decide)⟩,⟨Int.emod_nonneg _ (by decide),Int.emod_lt_of_pos _ (by decide)⟩,⟨Int.emod_nonneg _ (by decide),Int.emod_lt_of_pos _ (by decide)⟩,b8.1⟩
 unfold V9
 clear run h1 h2 h3 h4 h5 h6 h7 h8
 omega
theorem vV4 l0 l1 l2 l3 l4 l5 l6 l7 l8 n:Nh 1000 [l0,l1,l2,l3,l4,l5,l6,l7,l8] n=EH 1000 [zA (l0*n),zA (l1*n),zA (l2*n),zA (l3*n),zA (l4*n),zA (l5*n),zA (l6*n),zA (l7*n),zA (l8*n)]:=by
 have e:Ni 1000 1000 n 0 [l0,l1,l2,l3,l4,l5,l6,l7,l8]=some [zA (l0*n),zA (l1*n),zA (l2*n),zA (l3*n),zA (l4*n),zA (l5*n),zA (l6*n),zA (l7*n),zA (l8*n)]:=by kernel_rfl
 unfold Nh
 simp_all
theorem vQr l0 l1 l2 l3 l4 l5 l6 l7 l8 n:V9 l0 l1 l2 l3 l4 l5 l6 l7 l8*n=V9 (l0*n) (l1*n) (l2*n) (l3*n) (l4*n) (l5*n) (l6*n) (l7*n) (l8*n):=by
 unfold V9
 grind
theorem vDu l0 l1 l2 l3 l4 l5 l6 l7 l8 {x0 x1 x2 x3 x4 x5 x6 x7 x8 r0 r1 r2 r3 r4 r5 r6 r7 r8 r9}(h8:x8=zA (shl .i64 r9 16+l8))(h7:x7=zA (shl .i64 r8 16+l7))(h6:x6=zA (shl .i64 r7 16+l6))(h5:x5=zA (shl .i64 r6 16+l5))(h4:x4=zA (shl .i64 r5 16+l4))(h3:x3=zA (shl .i64 r4 16+l3))(h2:x2=zA (shl .i64 r3 16+l2))(h1:x1=zA (shl .i64 r2 16+l1))(h0:x0=zA (shl .i64 r1 16+l0))(h9:r9=0)(k8:r8=Int.tmod x8 10000)(k7:r7=Int.tmod x7 10000)(k6:r6=Int.tmod x6 10000)(k5:r5=Int.tmod x5 10000)(k4:r4=Int.tmod x4 10000)(k3:r3=Int.tmod x3 10000)(k2:r2=Int.tmod x2 10000)(k1:r1=Int.tmod x1 10000)(k0:r0=Int.tmod x0 10000):
  I6 1000 1000 10000 0 8 [l0,l1,l2,l3,l4,l5,l6,l7,l8]=some [zA (Int.tdiv x0 10000),zA (Int.tdiv x1 10000),zA (Int.tdiv x2 10000),zA (Int.tdiv x3 10000),zA (Int.tdiv x4 10000),zA (Int.tdiv x5 10000),zA (Int.tdiv x6 10000),zA (Int.tdiv x7 10000),zA (Int.tdiv x8 10000)]:=by
 subst h0;subst k1;subst h1;subst k2;subst h2;subst k3;subst h3;subst k4;subst h4;subst k5;subst h5;subst k6;subst h6;subst k7;subst h7;subst k8;subst h8;subst h9
 kernel_rfl
theorem tg x:shl .i64 x 16=zA (x*65536):=rfl
theorem U1 q0 q1 q2 q3 (h : decide (q3 ≥ 32768) = false) : ((EI 1000 1000 4 [q0,q1,q2,q3,0,0,0,0,0]).bind fun z1=>
 match z1 with
 | .inl z2 => bif zB 3 z2.length then (bif decide ((z2.getD 3 0)≥32768) then some ((0:Int),false)
   else bif zB 3 z2.length then (bif zB 2 z2.length then (bif zB 1 z2.length then (bif zB 0 z2.length then some ((wK .i64 (wK .i64 (wK .i64 (shl .i64 (z2.getD 3 0) 48) (shl .i64 (z2.getD 2 0) 32)) (shl .i64 (z2.getD 1 0) 16)) (z2.getD 0 0)),true)
      else none)
     else none)
    else none)
   else none)
  else none
 |.inr z3=>some (z3.1,z3.2))=some (wK .i64 (wK .i64 (wK .i64 (shl .i64 q3 48) (shl .i64 q2 32)) (shl .i64 q1 16)) q0,true):=by
  have e:EI 1000 1000 4 [q0,q1,q2,q3,0,0,0,0,0]=some (.inl [q0,q1,q2,q3,0,0,0,0,0]):=by rfl
  rw[e]
  simp only[af]
  have e3:([q0,q1,q2,q3,0,0,0,0,0]:AC).getD 3 0=q3:=rfl
  rw[e3,h]
  rfl
theorem vM1 {q0 q1 q2 q3}(h0:0≤q0∧q0<65536)(h1:0≤q1∧q1<65536)(h2:0≤q2∧q2<65536)(h3:0≤q3∧q3<32768):
  wK .i64 (wK .i64 (wK .i64 (shl .i64 q3 48) (shl .i64 q2 32)) (shl .i64 q1 16)) q0=q0+65536*(q1+65536*(q2+65536*q3)):=by
 have s3:shl .i64 q3 48=zA (q3*281474976710656):=rfl
 have s2:shl .i64 q2 32=zA (q2*4294967296):=rfl
 have s1:shl .i64 q1 16=zA (q1*65536):=rfl
 rw[s3,s2,s1,zR (x:=q3*281474976710656) (by omega) (by omega),zR (x:=q2*4294967296) (by omega) (by omega),zR (x:=q1*65536) (by omega) (by omega)]
 have b1:=U0 48 (by decide) (x:=q3) (y:=q2*4294967296) h3.1 (by omega) (by omega)
 have p48:(2:Int)^48=281474976710656:=rfl
 rw[p48] at b1
 have b2:=U0 32 (by decide) (x:=q3*65536+q2) (y:=q1*65536) (by omega) (by omega) (by omega)
 have p32:(2:Int)^32=4294967296:=rfl
 rw[p32] at b2
 have b3:=U0 16 (by decide) (x:=(q3*65536+q2)*65536+q1) (y:=q0) (by omega) (by omega) (by omega)
 grind
theorem vDm {l0 l1 l2 l3 l4 l5 l6 l7 l8}(g0:0≤l0∧l0<65536)(g1:0≤l1∧l1<65536)(g2:0≤l2∧l2<65536)(g3:0≤l3∧l3<65536)(g4:0≤l4∧l4<65536)(g5:0≤l5∧l5<65536)(g6:0≤l6∧l6<65536)(g7:0≤l7∧l7<65536)(g8:0≤l8∧l8≤0)(hV:V9 l0 l1 l2 l3 l4 l5 l6 l7 l8/10000≤1152921504606846976):Nj 1000 [l0,l1,l2,l3,l4,l5,l6,l7,l8] 10000=some (V9 l0 l1 l2 l3 l4 l5 l6 l7 l8/10000,true):=by
  obtain⟨r9,h9⟩:∃r:Int,r=0:=⟨_,rfl⟩
  obtain⟨x8,hx8⟩:∃x,x=r9*65536+l8:=⟨_,rfl⟩
  obtain⟨r8,hr8⟩:∃r,r=x8%10000:=⟨_,rfl⟩
  obtain⟨q8,hq8⟩:∃q,q=x8/10000:=⟨_,rfl⟩
  have v8:x8=10000*q8+r8∧0≤r8∧r8<10000∧0≤x8∧x8<655360000:=by omega
  have h8:x8=zA (shl .i64 r9 16+l8):=by rw[tg,zR (x:=r9*65536) (by omega) (by omega),←hx8,zR (by omega) (by omega)]
  have k8:r8=Int.tmod x8 10000:=by rw[Int.tmod_eq_emod_of_nonneg (by omega)];exact hr8
  have t8:zA (Int.tdiv x8 10000)=q8:=by rw[Int.tdiv_eq_ediv_of_nonneg (by omega),←hq8,zR (by omega) (by omega)]
  obtain⟨x7,hx7⟩:∃x,x=r8*65536+l7:=⟨_,rfl⟩
  obtain⟨r7,hr7⟩:∃r,r=x7%10000:=⟨_,rfl⟩
  obtain⟨q7,hq7⟩:∃q,q=x7/10000:=⟨_,rfl⟩
  have v7:x7=10000*q7+r7∧0≤r7∧r7<10000∧0≤x7∧x7<655360000:=by omega
  have h7:x7=zA (shl .i64 r8 16+l7):=by rw[tg,zR (x:=r8*65536) (by omega) (by omega),←hx7,zR (by omega) (by omega)]
  have k7:r7=Int.tmod x7 10000:=by rw[Int.tmod_eq_emod_of_nonneg (by omega)];exact hr7
  have t7:zA (Int.tdiv x7 10000)=q7:=by rw[Int.tdiv_eq_ediv_of_nonneg (by omega),←hq7,zR (by omega) (by omega)]
  obtain⟨x6,LD⟩:∃x,x=r7*65536+l6:=⟨_,rfl⟩
  obtain⟨r6,hr6⟩:∃r,r=x6%10000:=⟨_,rfl⟩
  obtain⟨q6,hq6⟩:∃q,q=x6/10000:=⟨_,rfl⟩
  have v6:x6=10000*q6+r6∧0≤r6∧r6<10000∧0≤x6∧x6<655360000:=by omega
  have h6:x6=zA (shl .i64 r7 16+l6):=by rw[tg,zR (x:=r7*65536) (by omega) (by omega),←LD,zR (by omega) (by omega)]
  have k6:r6=Int.tmod x6 10000:=by rw[Int.tmod_eq_emod_of_nonneg (by omega)];exact hr6
  have t6:zA (Int.tdiv x6 10000)=q6:=by rw[Int.tdiv_eq_ediv_of_nonneg (by omega),←hq6,zR (by omega) (by omega)]
  obtain⟨x5,hx5⟩:∃x,x=r6*65536+l5:=⟨_,rfl⟩
  obtain⟨r5,hr5⟩:∃r,r=x5%10000:=⟨_,rfl⟩
  obtain⟨q5,hq5⟩:∃q,q=x5/10000:=⟨_,rfl⟩
  have v5:x5=10000*q5+r5∧0≤r5∧r5<10000∧0≤x5∧x5<655360000:=by omega
  have h5:x5=zA (shl .i64 r6 16+l5):=by rw[tg,zR (x:=r6*65536) (by omega) (by omega),←hx5,zR (by omega) (by omega)]
  have k5:r5=Int.tmod x5 10000:=by rw[Int.tmod_eq_emod_of_nonneg (by omega)];exact hr5
  have t5:zA (Int.tdiv x5 10000)=q5:=by rw[Int.tdiv_eq_ediv_of_nonneg (by omega),←hq5,zR (by omega) (by omega)]
  obtain⟨x4,hx4⟩:∃x,x=r5*65536+l4:=⟨_,rfl⟩
  obtain⟨r4,hr4⟩:∃r,r=x4%10000:=⟨_,rfl⟩
  obtain⟨q4,hq4⟩:∃q,q=x4/10000:=⟨_,rfl⟩
  have v4:x4=10000*q4+r4∧0≤r4∧r4<10000∧0≤x4∧x4<655360000:=by omega
  have h4:x4=zA (shl .i64 r5 16+l4):=by rw[tg,zR (x:=r5*65536) (by omega) (by omega),←hx4,zR (by omega) (by omega)]
  have k4:r4=Int.tmod x4 10000:=by rw[Int.tmod_eq_emod_of_nonneg (by omega)];exact hr4
  have t4:zA (Int.tdiv x4 10000)=q4:=by rw[Int.tdiv_eq_ediv_of_nonneg (by omega),←hq4,zR (by omega) (by omega)]
  obtain⟨x3,U2⟩:∃x,x=r4*65536+l3:=⟨_,rfl⟩
  obtain⟨r3,hr3⟩:∃r,r=x3%10000:=⟨_,rfl⟩
  obtain⟨q3,hq3⟩:∃q,q=x3/10000:=⟨_,rfl⟩
  have v3:x3=10000*q3+r3∧0≤r3∧r3<10000∧0≤x3∧x3<655360000:=by omega
  have h3:x3=zA (shl .i64 r4 16+l3):=by rw[tg,zR (x:=r4*65536) (by omega) (by omega),←U2,zR (by omega) (by omega)]
  have k3:r3=Int.tmod x3 10000:=by rw[Int.tmod_eq_emod_of_nonneg (by omega)];exact hr3
  have t3:zA (Int.tdiv x3 10000)=q3:=by rw[Int.tdiv_eq_ediv_of_nonneg (by omega),←hq3,zR (by omega) (by omega)]
  obtain⟨x2,BP⟩:∃x,x=r3*65536+l2:=⟨_,rfl⟩
  obtain⟨r2,pO⟩:∃r,r=x2%10000:=⟨_,rfl⟩
  obtain⟨q2,hq2⟩:∃q,q=x2/10000:=⟨_,rfl⟩
  have v2:x2=10000*q2+r2∧0≤r2∧r2<10000∧0≤x2∧x2<655360000:=by omega
  have h2:x2=zA (shl .i64 r3 16+l2):=by rw[tg,zR (x:=r3*65536) (by omega) (by omega),←BP,zR (by omega) (by omega)]
  have k2:r2=Int.tmod x2 10000:=by rw[Int.tmod_eq_emod_of_nonneg (by omega)];exact pO
  have t2:zA (Int.tdiv x2 10000)=q2:=by rw[Int.tdiv_eq_ediv_of_nonneg (by omega),←hq2,zR (by omega) (by omega)]
  obtain⟨x1,cM⟩:∃x,x=r2*65536+l1:=⟨_,rfl⟩
  obtain⟨r1,sd⟩:∃r,r=x1%10000:=⟨_,rfl⟩
  obtain⟨q1,hq1⟩:∃q,q=x1/10000:=⟨_,rfl⟩
  have v1:x1=10000*q1+r1∧0≤r1∧r1<10000∧0≤x1∧x1<655360000:=by omega
  have h1:x1=zA (shl .i64 r2 16+l1):=by rw[tg,zR (x:=r2*65536) (by omega) (by omega),←cM,zR (by omega) (by omega)]
  have k1:r1=Int.tmod x1 10000:=by rw[Int.tmod_eq_emod_of_nonneg (by omega)];exact sd
  have t1:zA (Int.tdiv x1 10000)=q1:=by rw[Int.tdiv_eq_ediv_of_nonneg (by omega),←hq1,zR (by omega) (by omega)]
  obtain⟨x0,U3⟩:∃x,x=r1*65536+l0:=⟨_,rfl⟩
  obtain⟨r0,oe⟩:∃r,r=x0%10000:=⟨_,rfl⟩
  obtain⟨q0,hq0⟩:∃q,q=x0/10000:=⟨_,rfl⟩
  have v0:x0=10000*q0+r0∧0≤r0∧r0<10000∧0≤x0∧x0<655360000:=by omega
  have h0:x0=zA (shl .i64 r1 16+l0):=by rw[tg,zR (x:=r1*65536) (by omega) (by omega),←U3,zR (by omega) (by omega)]
  have k0:r0=Int.tmod x0 10000:=by rw[Int.tmod_eq_emod_of_nonneg (by omega)];exact oe
  have t0:zA (Int.tdiv x0 10000)=q0:=by rw[Int.tdiv_eq_ediv_of_nonneg (by omega),←hq0,zR (by omega) (by omega)]
  have run:=vDu l0 l1 l2 l3 l4 l5 l6 l7 l8 h8 h7 h6 h5 h4 h3 h2 h1 h0 h9 k8 k7 k6 k5 k4 k3 k2 k1 k0
  rw[t0,t1,t2,t3,t4,t5,t6,t7,t8] at run
  clear h0 k0 t0 h1 k1 t1 h2 k2 t2 h3 k3 t3 h4 k4 t4 h5 k5 t5 h6 k6 t6 h7 k7 t7 h8 k8 t8
  have hv:10000*V9 q0 q1 q2 q3 q4 q5 q6 q7 q8+r0=V9 l0 l1 l2 l3 l4 l5 l6 l7 l8:=by unfold V9;omega
  have hq:V9 q0 q1 q2 q3 q4 q5 q6 q7 q8=V9 l0 l1 l2 l3 l4 l5 l6 l7 l8/10000:=by omega
  rw[←hq] at hV⊢
  unfold V9 at hV
  have z8:q8=0:=by omega
  have z7:q7=0:=by omega
  have z6:q6=0:=by omega
  have z5:q5=0:=by omega
  have z4:q4=0:=by omega
  have z3:q3<32768:=by omega
  rw[z4,z5,z6,z7,z8] at run
  have eU:Nj 1000 [l0,l1,l2,l3,l4,l5,l6,l7,l8] 10000=(I6 1000 1000 10000 0 8 [l0,l1,l2,l3,l4,l5,l6,l7,l8]).bind fun z=>(EI 1000 1000 4 z).bind fun z1=>
   match z1 with
   | .inl z2 => bif zB 3 z2.length then (bif decide ((z2.getD 3 0)≥32768) then some ((0:Int),false)
     else bif zB 3 z2.length then (bif zB 2 z2.length then (bif zB 1 z2.length then (bif zB 0 z2.length then some ((wK .i64 (wK .i64 (wK .i64 (shl .i64 (z2.getD 3 0) 48) (shl .i64 (z2.getD 2 0) 32)) (shl .i64 (z2.getD 1 0) 16)) (z2.getD 0 0)),true)
        else none)
       else none)
      else none)
     else none)
    else none
   |.inr z3=>some (z3.1,z3.2):=rfl
  rw[eU,run]
  simp only[af]
  refine(U1 q0 q1 q2 q3 (ab (by omega))).trans ?_
  rw[vM1 ⟨by omega,by omega⟩ ⟨by omega,by omega⟩ ⟨by omega,by omega⟩ ⟨by omega,z3⟩]
  unfold V9
  rw[z4,z5,z6,z7,z8]
  exact by simp
theorem vIc (a b x0 x1 x2 x3:Int):Nk 1000 1000 b 0 [x0,x1,x2,x3] [0,0,0,0,0,0,0,0,0]=some [zA (0+zA (x0*yJ .i64 (shr .i64 b 0) 65535)),zA (zA (0+zA (x0*yJ .i64 (shr .i64 b 16) 65535))+zA (x1*yJ .i64 (shr .i64 b 0) 65535)),zA (zA (zA (0+zA (x0*yJ .i64 (shr .i64 b 32) 65535))+zA (x1*yJ .i64 (shr .i64 b 16) 65535))+zA (x2*yJ .i64 (shr .i64 b 0) 65535)),zA (zA (zA (zA (0+zA (x0*yJ .i64 (shr .i64 b 48) 65535))+zA (x1*yJ .i64 (shr .i64 b 32) 65535))+zA (x2*yJ .i64 (shr .i64 b 16) 65535))+zA (x3*yJ .i64 (shr .i64 b 0) 65535)),zA (zA (zA (0+zA (x1*yJ .i64 (shr .i64 b 48) 65535))+zA (x2*yJ .i64 (shr .i64 b 32) 65535))+zA (x3*yJ .i64 (shr .i64 b 16) 65535)),zA (zA (0+zA (x2*yJ .i64 (shr .i64 b 48) 65535))+zA (x3*yJ .i64 (shr .i64 b 32) 65535)),zA (0+zA (x3*yJ .i64 (shr .i64 b 48) 65535)),0,0]:=by kernel_rfl
theorem vFy {x0 x1 x2 x3 y0 y1 y2 y3}:(x0+65536*x1+4294967296*x2+281474976710656*x3)*(y0+65536*y1+4294967296*y2+281474976710656*y3)=V9 (x0*y0) (x0*y1+x1*y0) (x0*y2+x1*y1+x2*y0) (x0*y3+x1*y2+x2*y1+x3*y0) (x1*y3+x2*y2+x3*y1) (x2*y3+x3*y2) (x3*y3) 0 0:=by
 have row:∀x:Int,x*(y0+65536*y1+4294967296*y2+281474976710656*y3)=x*y0+65536*(x*y1)+4294967296*(x*y2)+281474976710656*(x*y3):=by grind
 rw[Int.add_mul,Int.add_mul,Int.add_mul,Int.mul_assoc,Int.mul_assoc,Int.mul_assoc,row,row,row,row]
 unfold V9
 omega
theorem vL9 {a b}(ha:0≤a∧a≤1048576)(hb:0≤b∧b≤1099511627776):∃d0 d1 d2 d3 d4 d5 d6 d7 d8,
  Nl 1000 a b=some [d0,d1,d2,d3,d4,d5,d6,d7,d8]∧V9 d0 d1 d2 d3 d4 d5 d6 d7 d8=a*b∧(0≤d0∧d0<65536)∧(0≤d1∧d1<65536)∧(0≤d2∧d2<65536)∧(0≤d3∧d3<65536)∧(0≤d4∧d4<65536)∧(0≤d5∧d5<65536)∧(0≤d6∧d6<65536)∧(0≤d7∧d7<65536)∧d8=0:=by
 obtain⟨x0,U3⟩:∃z,z=a%65536:=⟨_,rfl⟩
 have vu:0≤x0∧x0≤65535:=by omega
 obtain⟨x1,cM⟩:∃z,z=a/65536%65536:=⟨_,rfl⟩
 have vv:0≤x1∧x1≤65535:=by omega
 obtain⟨x2,BP⟩:∃z,z=a/4294967296%65536:=⟨_,rfl⟩
 have vw:0≤x2∧x2≤65535:=by omega
 obtain⟨x3,U2⟩:∃z,z=a/281474976710656%65536:=⟨_,rfl⟩
 have vx:0≤x3∧x3≤65535:=by omega
 obtain⟨y0,Rt⟩:∃z,z=b%65536:=⟨_,rfl⟩
 have vy:0≤y0∧y0≤65535:=by omega
 obtain⟨y1,R1⟩:∃z,z=b/65536%65536:=⟨_,rfl⟩
 have vz:0≤y1∧y1≤65535:=by omega
 obtain⟨y2,R2⟩:∃z,z=b/4294967296%65536:=⟨_,rfl⟩
 have v9:0≤y2∧y2≤65535:=by omega
 obtain⟨y3,hy3⟩:∃z,z=b/281474976710656%65536:=⟨_,rfl⟩
 have wa:0≤y3∧y3≤65535:=by omega
 have ea:a=x0+65536*x1+4294967296*x2+281474976710656*x3:=by omega
 have eb:b=y0+65536*y1+4294967296*y2+281474976710656*y3:=by omega
 have dg:Nm 1000 a=some [x0,x1,x2,x3]:=by
  unfold Nm
  rw[qx,yWg,yPw,tf,tf,tf,tf,←U3,←cM,←BP,←U2]
 have run:=vIc a b x0 x1 x2 x3
 rw[vJf,qx,yWg,yPw,tf,tf,tf,tf,←Rt,←R1,←R2,←hy3] at run
 have tZ:=vFy (x0:=x0) (x1:=x1) (x2:=x2) (x3:=x3) (y0:=y0) (y1:=y1) (y2:=y2) (y3:=y3)
 rw[←ea,←eb] at tZ
 have hm:=wB ha.1 ha.2 hb.1 hb.2
 have m00:=wB vu.1 vu.2 vy.1 vy.2
 have m01:=wB vu.1 vu.2 vz.1 vz.2
 have m02:=wB vu.1 vu.2 v9.1 v9.2
 have m03:=wB vu.1 vu.2 wa.1 wa.2
 have m10:=wB vv.1 vv.2 vy.1 vy.2
 have m11:=wB vv.1 vv.2 vz.1 vz.2
 have m12:=wB vv.1 vv.2 v9.1 v9.2
 have m13:=wB vv.1 vv.2 wa.1 wa.2
 have m20:=wB vw.1 vw.2 vy.1 vy.2
 have m21:=wB vw.1 vw.2 vz.1 vz.2
 have m22:=wB vw.1 vw.2 v9.1 v9.2
 have m23:=wB vw.1 vw.2 wa.1 wa.2
 have m30:=wB vx.1 vx.2 vy.1 vy.2
 have m31:=wB vx.1 vx.2 vz.1 vz.2
 have m32:=wB vx.1 vx.2 v9.1 v9.2
 have m33:=wB vx.1 vx.2 wa.1 wa.2
 generalize x0*y0=U4 at*
 generalize x0*y1=Nn at*
 generalize x0*y2=I7 at*
 generalize x0*y3=EJ at*
 generalize x1*y0=U5 at*
 generalize x1*y1=No at*
 generalize x1*y2=I8 at*
 generalize x1*y3=I9 at*
 generalize x2*y0=U6 at*
 generalize x2*y1=Np at*
 generalize x2*y2=Nq at*
 generalize x2*y3=Nr at*
 generalize x3*y0=U7 at*
 generalize x3*y1=U8 at*
 generalize x3*y2=U9 at*
 generalize x3*y3=Va at*
 rw[zR (x:=U4) (by omega) (by omega)] at run
 rw[zR (x:=Nn) (by omega) (by omega)] at run
 rw[zR (x:=I7) (by omega) (by omega)] at run
 rw[zR (x:=EJ) (by omega) (by omega)] at run
 rw[zR (x:=U5) (by omega) (by omega)] at run
 rw[zR (x:=No) (by omega) (by omega)] at run
 rw[zR (x:=I8) (by omega) (by omega)] at run
 rw[zR (x:=I9) (by omega) (by omega)] at run
 rw[zR (x:=U6) (by omega) (by omega)] at run
 rw[zR (x:=Np) (by omega) (by omega)] at run
 rw[zR (x:=Nq) (by omega) (by omega)] at run
 rw[zR (x:=Nr) (by omega) (by omega)] at run
 rw[zR (x:=U7) (by omega) (by omega)] at run
 rw[zR (x:=U8) (by omega) (by omega)] at run
 rw[zR (x:=U9) (by omega) (by omega)] at run
 rw[zR (x:=Va) (by omega) (by omega)] at run
 rw[zR (x:=0+U4) (by omega) (by omega)] at run
 rw[zR (x:=0+Nn) (by omega) (by omega)] at run
 rw[zR (x:=0+I7) (by omega) (by omega)] at run
 rw[zR (x:=0+EJ) (by omega) (by omega)] at run
 rw[zR (x:=0+Nn+U5) (by omega) (by omega)] at run
 rw[zR (x:=0+I7+No) (by omega) (by omega)] at run
 rw[zR (x:=0+EJ+I8) (by omega) (by omega)] at run
 rw[zR (x:=0+I9) (by omega) (by omega)] at run
 rw[zR (x:=0+I7+No+U6) (by omega) (by omega)] at run
 rw[zR (x:=0+EJ+I8+Np) (by omega) (by omega)] at run
 rw[zR (x:=0+I9+Nq) (by omega) (by omega)] at run
 rw[zR (x:=0+Nr) (by omega) (by omega)] at run
 rw[zR (x:=0+EJ+I8+Np+U7) (by omega) (by omega)] at run
 rw[zR (x:=0+I9+Nq+U8) (by omega) (by omega)] at run
 rw[zR (x:=0+Nr+U9) (by omega) (by omega)] at run
 rw[zR (x:=0+Va) (by omega) (by omega)] at run
 obtain⟨d0,d1,d2,d3,d4,d5,d6,d7,d8,c1,c2,n0,n1,n2,n3,n4,n5,n6,n7,n8⟩:=yTh (l0:=0+U4) (l1:=0+Nn+U5) (l2:=0+I7+No+U6) (l3:=0+EJ+I8+Np+U7) (l4:=0+I9+Nq+U8) (l5:=0+Nr+U9) (l6:=0+Va) (l7:=0) (l8:=0) (by omega) (by omega) (by omega) (by omega) (by omega) (by omega) (by omega) (by omega) (by omega)
 refine⟨d0,d1,d2,d3,d4,d5,d6,d7,d8,?_,?_,n0,n1,n2,n3,n4,n5,n6,n7,?_⟩
 ·unfold Nl
  rw[dg]
  simp only[af]
  rw[run]
  simp only[af]
  rw[c1]
  rfl
 ·rw[c2,tZ]
  unfold V9
  omega
 ·have:V9 d0 d1 d2 d3 d4 d5 d6 d7 d8=a*b:=by
   rw[c2,tZ]
   unfold V9
   omega
  unfold V9 at this
  omega
theorem vV1 {p m c:Int}(hp:0≤p∧p≤1048576)(hm:0≤m∧m≤1099511627776)(hc:0≤c∧c≤10000):Ns 1000 p m c=some (sU p m c,true):=by
 obtain⟨d0,d1,d2,d3,d4,d5,d6,d7,d8,e1,e2,n0,n1,n2,n3,n4,n5,n6,n7,n8⟩:=vL9 hp hm
 have wb:=wB hp.1 hp.2 hm.1 hm.2
 have hn:0≤10000-c∧10000-c≤10000:=by omega
 have wn:zA (10000-c)=10000-c:=zR (by omega) (by omega)
 have hw:=yLf hp hm hc
 unfold sU at hw⊢
 have hpn:=wB wb.1 wb.2 hn.1 hn.2
 have eV:=vQr d0 d1 d2 d3 d4 d5 d6 d7 d8 (10000-c)
 rw[e2] at eV
 unfold Ns
 rw[ab (show¬p<0 by omega),ab (show¬m<0 by omega),ab (show¬c<0 by omega),ab (show¬c>10000 by omega),e1,wn]
 simp only[ak,af]
 rw[vV4]
 generalize 10000-c=n at*
 have u0:=wB n0.1 (show d0≤65535 by omega) hn.1 hn.2
 have u1:=wB n1.1 (show d1≤65535 by omega) hn.1 hn.2
 have u2:=wB n2.1 (show d2≤65535 by omega) hn.1 hn.2
 have u3:=wB n3.1 (show d3≤65535 by omega) hn.1 hn.2
 have u4:=wB n4.1 (show d4≤65535 by omega) hn.1 hn.2
 have u5:=wB n5.1 (show d5≤65535 by omega) hn.1 hn.2
 have u6:=wB n6.1 (show d6≤65535 by omega) hn.1 hn.2
 have u7:=wB n7.1 (show d7≤65535 by omega) hn.1 hn.2
 have u8:0≤d8*n∧d8*n≤0:=by rw[n8,Int.zero_mul];omega
 generalize d0*n=t0 at*
 generalize d1*n=t1 at*
 generalize d2*n=t2 at*
 generalize d3*n=t3 at*
 generalize d4*n=t4 at*
 generalize d5*n=t5 at*
 generalize d6*n=t6 at*
 generalize d7*n=t7 at*
 generalize d8*n=t8 at*
 rw[zR (x:=t0) (by omega) (by omega),zR (x:=t1) (by omega) (by omega),zR (x:=t2) (by omega) (by omega),zR (x:=t3) (by omega) (by omega),zR (x:=t4) (by omega) (by omega),zR (x:=t5) (by omega) (by omega),zR (x:=t6) (by omega) (by omega),zR (x:=t7) (by omega) (by omega),zR (x:=t8) (by omega) (by omega)]
 obtain⟨e0,e1,e2,e3,e4,e5,e6,e7,e8,f1,f2,k0,k1,k2,k3,k4,k5,k6,k7,k8⟩:=yTh (l0:=t0) (l1:=t1) (l2:=t2) (l3:=t3) (l4:=t4) (l5:=t5) (l6:=t6) (l7:=t7) (l8:=t8) (by omega) (by omega) (by omega) (by omega) (by omega) (by omega) (by omega) (by omega) (by omega)
 rw[f1]
 simp only[af]
 rw[←eV] at f2
 have z8:e8≤0:=by unfold V9 at f2;omega
 rw[vDm k0 k1 k2 k3 k4 k5 k6 k7 ⟨k8,z8⟩ (by rw[f2];exact hw.2),f2]
 rfl
theorem yDx k x y:Ja k x.1 x.2.1 x.2.2.1 x.2.2.2.1 x.2.2.2.2.1 x.2.2.2.2.2.1 x.2.2.2.2.2.2 y.1 y.2.1 y.2.2.1 y.2.2.2.1 y.2.2.2.2.1 y.2.2.2.2.2.1 y.2.2.2.2.2.2=some (wW x y):=by
 unfold Ja wW
 grind
theorem vNy k {a b}(ha:0≤a∧a≤4611686018427387904)(hb:0≤b∧b≤1152921504606846976):EK k a b=some (a+b,true):=by
 unfold EK
 rw[zR (x:=a+b) (by omega) (by omega),zR (x:=9223372036854775807-b) (by omega) (by omega),ab (show¬a>9223372036854775807-b by omega),ab (show¬b<0 by omega)]
 simp
theorem vA0 {sa pr h}(L:j4 sa pr h):zw 1000 sa pr h=some (lZ sa pr h,true):=by
 have h3:=L.n3
 obtain ⟨s', g1, g2⟩ := yZ (L := fun n i (v : Int) => Jb 1000 n sa pr h v i) (N := sa.length) (fun v => (.inl v : Int ⊕ Int × Bool)) (fun i v => v = qK (lj sa pr h) i) (fun n v _=>by
  show EL 1000 _ sa pr h v (sa.length:Int)=_
  unfold EL
  simp) (fun n i v hi hv=>by
  refine⟨v+lj sa pr h i,?_,by rw[hv];rfl⟩
  show EL 1000 (Jb 1000 n) sa pr h v (i:Int)=_
  unfold EL
  have hw:=IF L hi
  have hb:=MQ (g:=lj sa pr h) (n:=i) (fun j hj=>IF L (by omega))
  have ed:sa.getD i (0,0)=sa.getD i sV:=rfl
  rw[aa (by grind),qH,qH,qH,aa hi,aa (show i<pr.length by rw[L.pl];exact hi),aa (show i<h.length by rw[L.hl];exact hi),ao,ed,vV1 (L.price i hi) (L.hold i hi) (L.cut i hi)]
  simp only[af]
  have e:sU (pr.getD i 0) (h.getD i 0) (sa.getD i sV).2=lj sa pr h i:=rfl
  rw[e,vNy _ (by omega) hw,qJ hi (by omega)]
  rfl) (n:=1000) (s:=0) (by omega) rfl
 unfold zw
 rw[aa (show(pr.length:Int)=(sa.length:Int) by rw[L.pl]),aa (show(h.length:Int)=(sa.length:Int) by rw[L.hl]),g1,g2]
 rfl
theorem Vb {α:Type}{d}(l:List α){i} h:l.getD i d=l[i]:=by
 simp_all
theorem th {k l}(hk:l.length<k)(hl:qV l) id:mR k l id=some (gH l id):=by
 unfold qV at hl
 unfold mR
 rw[ME hk (by omega)]
 unfold jz gH
 cases hp:vP l id with
 |none=>rfl
 |some x=>
  have hx:=(j0 hp).1
  have e1:decide ((x:Int)<0)=false:=ab (by omega)
  have e2:decide ((0:Int)≤(x:Int))=true:=by simp
  have e3:decide ((x:Int)≤(l.length:Int))=true:=aa (by omega)
  have e4:decide ((0:Int)≤((x+1:Nat):Int))=true:=aa (by omega)
  have e5:decide (((x+1:Nat):Int)≤(l.length:Int))=true:=aa (by omega)
  have l1:=List.length_take_le x l
  have l2:(l.drop (x+1)).length≤l.length:=by rw[List.length_drop];omega
  have e6:zO (0+(l.take x).length) 56=true:=qT (by omega) (by omega)
  have e7:zO ((l.take x).length+(l.drop (x+1)).length) 56=true:=qT (by omega) (by omega)
  simp only[af,e3,e5,qJ hx (show l.length<9223372036854775808 by omega),qH,aa hx,ao,e6,e7]
  rfl
theorem vK7 (q p:zF):iS q p= !wW p q:=by
 unfold iS wW
 rcases Int.lt_trichotomy q.2.1 p.2.1 with h|h|h
 ·have h1:¬p.2.1<q.2.1:=by omega
  have h2:¬p.2.1=q.2.1:=by omega
  simp[h,h1,h2]
 ·rcases Int.lt_trichotomy q.2.2.2.2.1 p.2.2.2.2.1 with g|g|g
  ·have g1:¬p.2.2.2.2.1≤q.2.2.2.2.1:=by omega
   simp[h,g,g1]
  ·simp[h,g]
  ·have g1:¬q.2.2.2.2.1<p.2.2.2.2.1:=by omega
   have g2:p.2.2.2.2.1≤q.2.2.2.2.1:=by omega
   simp[h,g1,g2]
 ·have h1:¬q.2.1<p.2.1:=by omega
  have h2:¬q.2.1=p.2.1:=by omega
  simp[h,h1,h2]
theorem Nt {k:Nat}{l:List zF}(hl:l.length≤1000){x:Nat}(hx:x≤l.length)(y:zF):zx k l x y.1 y.2.1 y.2.2.1 y.2.2.2.1 y.2.2.2.2.1 y.2.2.2.2.2.1 y.2.2.2.2.2.2=some (l.take x++(y::l.drop x)):=by
 unfold zx
 have e1:(decide (0≤(x:Int))&&decide ((x:Int)≤((l.length:Nat):Int)))=true:=by simp;exact hx
 have e2:zO (0+(l.take x).length) 56=true:=qT (by rw[List.length_take];omega) (by rw[List.length_take];omega)
 have e3:zO ((l.take x).length+1) 56=true:=qT (by rw[List.length_take];omega) (by rw[List.length_take];omega)
 rw[e1,ao,e2,e3]
 simp only[aj]
 have e4:zO ((l.take x++[(y.1,(y.2.1,(y.2.2.1,(y.2.2.2.1,(y.2.2.2.2.1,(y.2.2.2.2.2.1,y.2.2.2.2.2.2))))))]).length+(l.drop x).length) 56=true:=qT (by simp only[List.length_append,List.length_take,List.length_drop,List.length_cons,List.length_nil];omega) (by simp only[List.length_append,List.length_take,List.length_drop,List.length_cons,List.length_nil];omega)
 rw[e4]
 simp
theorem Vc {k:Nat}{l:List zF}(hk:l.length<k)(hl:l.length≤1000)(y:zF):EM k l y.1 y.2.1 y.2.2.1 y.2.2.2.1 y.2.2.2.2.1 y.2.2.2.2.2.1 y.2.2.2.2.2.2=some (((l.takeWhile (fun q=>wW q y)).length:Nat):Int):=by
 have := DK (L := fun n i => EN k n l i y.1 y.2.1 y.2.2.1 y.2.2.2.1 y.2.2.2.2.1 y.2.2.2.2.2.1 y.2.2.2.2.2.2) (N := l.length) (fun x => wW (l.getD x pd) y) (fun i => (i : Int)) (fun n=>by
  show EO k _ l l.length _ _ _ _ _ _ _=_
  unfold EO
  simp only [qG, ab (Nat.lt_irrefl _), ak]) (fun n i hi=>by
  show EO k _ l i _ _ _ _ _ _ _=_
  unfold EO
  have h1:=yDx k (l.getD i pd) y
  simp only[pd] at h1
  simp only[qH,qG,ao,aa hi,aj,h1,af,qJ hi (show l.length<9223372036854775808 by omega)]
  ) l.length 0 k (by omega) hk
 have e:((0:Nat):Int)=0:=rfl
 rw[e] at this
 unfold EM
 have h':EN k k l 0 y.1 y.2.1 y.2.2.1 y.2.2.2.1 y.2.2.2.2.1 y.2.2.2.2.2.1 y.2.2.2.2.2.2=_:=this
 rw[h',DL (fun q=>wW q y) l pd l.length 0 (by omega),List.drop_zero,Nat.zero_add]
 rfl
theorem Vd {k:Nat}{l:List zF}(hk:l.length<k)(hl:l.length≤1000)(p:zF):
  zy k l p.1 p.2.1 p.2.2.1 p.2.2.2.1 p.2.2.2.2.1 p.2.2.2.2.2.1 p.2.2.2.2.2.2=some (bif (vP l p.1).isSome then(l,6) else bif decide (40≤l.length) then(l,3) else(nF l p,0)):=by
 unfold zy
 rw[ME hk (by omega)]
 unfold jz
 cases hp:vP l p.1 with
 |some x=>
  have e1:decide ((x:Int)≥0)=true:=aa (by omega)
  simp only[af,e1,aj,Option.isSome_some]
 |none=>
  have e1:decide ((-1:Int)≥0)=false:=rfl
  simp only[af,e1,ak,Option.isSome_none]
  by_cases h:40≤l.length
  ·rw[aa h,aa (show(l.length:Int)≥40 by omega)];rfl
  ·rw[ab h,ab (show¬(l.length:Int)≥40 by omega)]
   simp only[ak]
   rw[Vc hk hl p]
   simp only[af]
   rw[Nt hl (zh _ l) p,(mQ _ l).1,(mQ _ l).2]
   rfl
theorem vDh {k:Nat}{l:List zF}(bI:l.length<k)(hl:qV l){id:Int}{x:Nat}(hx:vP l id=some x)(c:Int):
  Jc k l id c=some (nF (yB l x) ((l.getD x pd).1,(l.getD x pd).2.1,(l.getD x pd).2.2.1,(l.getD x pd).2.2.2.1,c,(l.getD x pd).2.2.2.2.2.1,(l.getD x pd).2.2.2.2.2.2),0):=by
 have cM:=j0 hx
 have hlen:=mP cM.1
 have dG:=hl
 unfold qV at dG
 unfold Jc
 rw[th bI hl]
 unfold gH
 rw[hx]
 simp only[af,decide_true,aA,ak]
 have h1:=Vc (k:=k) (l:=yB l x) (by omega) (by omega) ((l.getD x pd).1,(l.getD x pd).2.1,(l.getD x pd).2.2.1,(l.getD x pd).2.2.2.1,c,(l.getD x pd).2.2.2.2.2.1,(l.getD x pd).2.2.2.2.2.2)
 simp only at h1
 rw[h1]
 simp only[af]
 have h2:=Nt (k:=k) (l:=yB l x) (by omega) (zh (fun q=>wW q ((l.getD x pd).1,(l.getD x pd).2.1,(l.getD x pd).2.2.1,(l.getD x pd).2.2.2.1,c,(l.getD x pd).2.2.2.2.2.1,(l.getD x pd).2.2.2.2.2.2)) (yB l x)) ((l.getD x pd).1,(l.getD x pd).2.1,(l.getD x pd).2.2.1,(l.getD x pd).2.2.2.1,c,(l.getD x pd).2.2.2.2.2.1,(l.getD x pd).2.2.2.2.2.2)
 simp only at h2
 rw[h2,(mQ _ (yB l x)).1,(mQ _ (yB l x)).2]
 rfl
theorem vMt {k:Nat}{l:List zF}(bI:l.length<k)(hl:qV l){id:Int}{x:Nat}(hx:vP l id=some x):
  Jd k l id=some (nF (yB l x) (l.getD x pd),0):=by
 have cM:=j0 hx
 have hlen:=mP cM.1
 have dG:=hl
 unfold qV at dG
 unfold Jd
 rw[th bI hl]
 unfold gH
 rw[hx]
 simp only[af,decide_true,aA,ak]
 rw[Vc (k:=k) (l:=yB l x) (by omega) (by omega) (l.getD x pd)]
 simp only[af]
 rw[Nt (k:=k) (l:=yB l x) (by omega) (zh (fun q=>wW q (l.getD x pd)) (yB l x)) (l.getD x pd),(mQ _ (yB l x)).1,(mQ _ (yB l x)).2]
 rfl
theorem vOr {k:Nat}{l:List zF}(bI:l.length<k)(hl:qV l){id:Int}{x:Nat}(hx:vP l id=some x):
  Je k l id=some (Iy (yB l x) (l.getD x pd),0):=by
 have cM:=j0 hx
 have hlen:=mP cM.1
 have dG:=hl
 unfold qV at dG
 have Jf:∀(l:List zF),l.length<k→l.length≤1000→∀p:zF,EP k k l 0 p=some (l,(((l.takeWhile (fun q=>iS q p)).length:Nat):Int),p):=by
  intro l bI hl p
  have := DK (L := fun n i => EP k n l i p) (N := l.length) (fun x => iS (l.getD x pd) p) (fun i => (l, (i : Int), p)) (fun n=>by
   show ER k _ l l.length p=_
   unfold ER
   simp only [qG, ab (Nat.lt_irrefl _), ak]) (fun n i hi=>by
   show ER k _ l i p=_
   unfold ER
   have h1:=yDx k p (l.getD i pd)
   simp only[pd] at h1
   simp only[qH,qG,ao,aa hi,aj,h1,af,qJ hi (show l.length<9223372036854775808 by omega),vK7]
   rfl) l.length 0 k (by omega) bI
  have e:((0:Nat):Int)=0:=rfl
  rw[e] at this
  show EP k k l 0 p=_
  rw[this,DL (fun q=>iS q p) l pd l.length 0 (by omega),List.drop_zero,Nat.zero_add]
 unfold Je
 rw[th bI hl]
 unfold gH
 rw[hx]
 simp only[af,decide_true,aA,ak]
 have h1:=Jf (yB l x) (by omega) (by omega) (l.getD x pd)
 refine(congrArg (fun z=>Option.bind z _) h1).trans ?_
 simp only[af]
 rw[Nt (k:=k) (l:=yB l x) (by omega) (zh (fun q=>iS q (l.getD x pd)) (yB l x)) (l.getD x pd),(mQ _ (yB l x)).1,(mQ _ (yB l x)).2]
 rfl
theorem Ve {k:Nat}{l:AC}(hk:l.length<k)(hl:l.length≤1000)(id:Int):Nu k l id=some (decide (id∈l)):=by
 have := lg (L := fun n i => ES k n l id i) (N := l.length) (fun i => !decide (l.getD i 0 = id)) (.inl ()) (.inr true) (fun n=>by
  show ET k _ l id l.length=_
  unfold ET
  rw [ab (Int.lt_irrefl _)]; rfl) (fun n i hi=>by
  show ET k (ES k n) l id i=_
  unfold ET
  rw[aa (show(i:Int)<l.length by omega),qH,aa hi,ao,qJ hi (by omega)]
  cases decide (l.getD i 0=id)<;>rfl) hk
 unfold Nu
 have h':ES k k l id 0=_:=this
 rw[h']
 have e:qI (fun i=> !decide (l.getD i 0=id)) l.length 0= !decide (id∈l):=by
  by_cases hm:id∈l
  ·rw[aa hm]
   cases ha:qI (fun i=> !decide (l.getD i 0=id)) l.length 0 with
   |false=>rfl
   |true=>
    obtain⟨i,hi,e⟩:=List.getElem_of_mem hm
    have:=gi.1 ha i hi
    rw[Vb l hi,e] at this
    simp at this
  ·rw[ab hm]
   refine gi.2 fun i hi=>?_
   rw[ab (show¬l.getD i 0=id from fun e=>hm (by rw[←e];exact jK hi))];rfl
 rw[e]
 cases decide (id∈l)<;>rfl
theorem vTq {k:Nat}{l:AC}(hk:l.length<k)(hl:l.length≤1000)(id:Int):
  zz k l id=some (bif decide (id∈l) then(l,6) else bif decide (200≤l.length) then(l,3) else(oP l id,0)):=by
 unfold zz
 rw[Ve hk hl]
 simp only[af]
 by_cases hm:id∈l
 ·rw[aa hm];rfl
 ·rw[ab hm]
  simp only[ak]
  by_cases h:200≤l.length
  ·rw[aa h,aa (show(l.length:Int)≥200 by omega)];rfl
  ·rw[ab h,ab (show¬(l.length:Int)≥200 by omega)]
   have := DK (L := fun n i => Jg k n l id i) (N := l.length) (fun x => decide (l.getD x 0 < id)) (fun i => (l, id, (i : Int))) (fun n=>by
    show EU k _ l id l.length=_
    unfold EU
    simp only [qG, ab (Nat.lt_irrefl _), ak]) (fun n i hi=>by
    show EU k _ l id i=_
    unfold EU
    simp only[qH,qG,ao,aa hi,aj,qJ hi (show l.length<9223372036854775808 by omega)]
    rfl) l.length 0 k (by omega) hk
   have e:((0:Nat):Int)=0:=rfl
   rw[e,DL (fun x=>decide (x<id)) l 0 l.length 0 (by omega),List.drop_zero,Nat.zero_add] at this
   have h':Jg k k l id 0=_:=this
   simp only[ak]
   rw[h']
   have hn:=zh (fun x=>decide (x<id)) l
   obtain⟨t1,t2⟩:=mQ (fun x=>decide (x<id)) l
   have e1:(decide (0≤(((l.takeWhile (fun x=>decide (x<id))).length:Nat):Int))&&decide ((((l.takeWhile (fun x=>decide (x<id))).length:Nat):Int)≤((l.length:Nat):Int)))=true:=by simp;exact hn
   have hd:=(List.dropWhile_sublist (fun x=>decide (x<id)) (l:=l)).length_le
   simp only[af,e1,aj,ao,t1,t2]
   rw[qT (n:=0+(l.takeWhile (fun x=>decide (x<id))).length) (by omega) (by omega),qT (n:=(l.takeWhile (fun x=>decide (x<id))).length+1) (by omega) (by omega),qT (n:=(l.takeWhile (fun x=>decide (x<id))++[id]).length+(l.dropWhile (fun x=>decide (x<id))).length) (by rw[List.length_append];simp;omega) (by rw[List.length_append];simp;omega)]
   simp only[aj]
   unfold oP
   simp
abbrev vWp:=Int×List j3×Int×Int×Int×Int×List qR×wQ×AC×wQ×AC×wQ×List zF×AC×Int×Bool×Int
def fV (r:qS)(s:qD)(who:Int):vWp:=(r.1,r.2.1,r.2.2.1,r.2.2.2.1,r.2.2.2.2,s.t,s.B.1,s.B.2.1,s.B.2.2.1,s.B.2.2.2,s.pr,s.ho,s.m,s.ids,s.to,s.ov,who)
def Nv (s:qD)(i:Nat)(a:qR)(to:Int):qD:={s with B:=(s.B.1.set i a,s.B.2.1,s.B.2.2.1,s.B.2.2.2),to:=to}
def Jh (s:qD)(i:Nat)(n:Int):Int×qD:=
 bif decide ((s.B.1.getD i ad).1+(s.B.1.getD i ad).2.1-(s.B.1.getD i ad).2.2<n) then(9,s)
 else bif decide (s.to-n<0) then(9,s)
 else bif !decide ((jE (s.B.1.getD i ad) (-n)).2=0) then((jE (s.B.1.getD i ad) (-n)).2,s)
 else bif decide (s.to-n>1152921504606846976) then(8,s)
 else(0,Nv s i (jE (s.B.1.getD i ad) (-n)).1 (s.to-n))
def Ji (s:qD)(i:Nat)(n:Int):Int×qD:=
 bif !decide ((jE (s.B.1.getD i ad) n).2=0) then((jE (s.B.1.getD i ad) n).2,s)
 else bif decide (s.to+n>1152921504606846976) then(8,s)
 else(0,Nv s i (jE (s.B.1.getD i ad) n).1 (s.to+n))
def kb (r:qS)(s:qD)(kd to n:Int):Int×qD:=
 bif !(decide (to≥0)&&decide (to≤r.1-1)) then(1,s)
 else bif !(decide (n≥1)&&decide (n≤1099511627776)) then(1,s)
 else bif decide (kd=11) then Jh s to.toNat n else Ji s to.toNat n
theorem vOn {k:Nat}(hk:1000≤k){r:qS}(hr:jU r){s:qD}(h:yE r s)(who kd to n:Int):
    ∃d,EV k (fV r s who) kd to n=some ((kb r s kd to n).1,d)∧((kb r s kd to n).1=0→d=dk r (kb r s kd to n).2 who []):=by
  have hp:=hr.pa
  have hn:=h.n
  have ht:=h.tot
  have w1:zA (r.1-1)=r.1-1:=zR (by omega) (by omega)
  have eD:EV k (fV r s who) kd to n=(vF k to 0 (zA (r.1-1))).bind fun x0=>
    bif !x0 then some (1,dk r s who [])
    else(vF k n 1 1099511627776).bind fun x1=>
    bif !x1 then some (1,dk r s who [])
    else bif zB to s.B.1.length then ((EW k (s.B.1.getD to.toNat (0,0,0)) n).bind fun x2=>
      bif decide (kd = 11) then ((EX k (s.B.1.getD to.toNat (0,0,0)) n 3).bind fun x3=>
       (EY k (s.B.1.getD to.toNat (0,0,0)) 3).bind fun x4=>
       bif decide (x4<n) then some (9,dk r s who [])
       else bif decide ((zA (s.to-n))<0) then some (9,dk r s who [])
       else bif !(decide (x3.2=0)) then some (x3.2,dk r s who [])
       else bif decide ((zA (s.to-n))>1152921504606846976) then some (8,dk r s who [])
       else(fU k s.B.1 s.B.2.1 s.B.2.2.1 s.B.2.2.2).bind fun x5=>
       bif zB to x5.1.length then some (0,dk r {s with B:=(x5.1.set to.toNat x3.1,x5.2.1,x5.2.2.1,x5.2.2.2),to:=zA (s.to-n)} who [])
       else none)
      else bif !(decide (x2.2=0)) then some (x2.2,dk r s who [])
      else bif decide ((zA (s.to+n))>1152921504606846976) then some (8,dk r s who [])
      else(fU k s.B.1 s.B.2.1 s.B.2.2.1 s.B.2.2.2).bind fun x6=>
      bif zB to x6.1.length then some (0,dk r {s with B:=(x6.1.set to.toNat x2.1,x6.2.1,x6.2.2.1,x6.2.2.2),to:=zA (s.to+n)} who [])
      else none)
    else none:=rfl
  rw[eD,w1,qw,qw,HT (by omega) h.bk.toSized]
  simp only[af]
  unfold kb
  cases hc:decide (to≥0)&&decide (to≤r.1-1) with
  |false=>exact⟨_,rfl,fun e=>by cases e⟩
  |true=>
  simp only[aV,aP] at hc
  cases hm:decide (n≥1)&&decide (n≤1099511627776) with
  |false=>exact⟨_,rfl,fun e=>by cases e⟩
  |true=>
  simp only[aV,aP] at hm
  obtain⟨i,rfl⟩:=Int.eq_ofNat_of_zero_le hc.1
  have hi:i<s.B.1.length:=by omega
  have hb:=h.bk.nums.bal i hi
  have ju:=h.bk.nums.res i hi
  have hcr:=h.most i hi
  have Vf:0≤(s.B.1.getD i ad).2.1:=by rw[h.cred i hi];exact D4 (h.laid i hi)
  have b0:zB (i:Int) s.B.1.length=true:=by rw[qH,aa hi]
  have Jj:EW k (s.B.1.getD i (0,0,0)) n=some (jE (s.B.1.getD i ad) n):=by
    unfold EW
    rw[yWm hb (by omega)]
    rfl
  have Jk:EX k (s.B.1.getD i (0,0,0)) n 3=some (jE (s.B.1.getD i ad) (-n)):=by
    unfold EX
    rw[show zA (0-n)= -n by rw[zR (by omega) (by omega)];omega,yWm hb (by omega)]
    simp only[af]
    have d1:decide ((3:Int)=1)=false:=rfl
    have d2:decide ((3:Int)=2)=false:=rfl
    rw[d1,d2]
    cases decide ((jE (s.B.1.getD i ad) (-n)).2=0)<;>rfl
  have wc:EY k (s.B.1.getD i (0,0,0)) 3=some ((s.B.1.getD i ad).1+(s.B.1.getD i ad).2.1-(s.B.1.getD i ad).2.2):=by
    unfold EY
    have d1:decide ((3:Int)=3)=true:=rfl
    rw[d1,aj]
    have q1:zA ((s.B.1.getD i (0,0,0)).1+(s.B.1.getD i (0,0,0)).2.1)=(s.B.1.getD i ad).1+(s.B.1.getD i ad).2.1:=zR (by simp only[ad] at*;omega) (by simp only[ad] at*;omega)
    rw[q1]
    exact congrArg some (zR (by simp only[ad] at*;omega) (by simp only[ad] at*;omega))
  have q2:zA (s.to-n)=s.to-n:=zR (by omega) (by omega)
  have q3:zA (s.to+n)=s.to+n:=zR (by omega) (by omega)
  simp only[aA,ak,b0,aj,ao,Jj,Jk,wc,af,q2,q3]
  clear Jj Jk wc eD
  cases decide (kd=11) with
  |true=>
    simp only[aj]
    unfold Jh
    cases decide ((s.B.1.getD i ad).1+(s.B.1.getD i ad).2.1-(s.B.1.getD i ad).2.2<n) with
    |true=>exact⟨_,rfl,fun e=>by cases e⟩
    |false=>
    cases decide (s.to-n<0) with
    |true=>exact⟨_,rfl,fun e=>by cases e⟩
    |false=>
    cases hz:decide ((jE (s.B.1.getD i ad) (-n)).2=0) with
    |false=>exact⟨_,rfl,fun e=>absurd e (df hz)⟩
    |true=>
    cases decide (s.to-n>1152921504606846976) with
    |true=>exact⟨_,rfl,fun e=>by cases e⟩
    |false=>exact⟨_,rfl,fun _=>rfl⟩
  |false=>
    simp only[ak]
    unfold Ji
    cases hz:decide ((jE (s.B.1.getD i ad) n).2=0) with
    |false=>exact⟨_,rfl,fun e=>absurd e (df hz)⟩
    |true=>
    cases decide (s.to+n>1152921504606846976) with
    |true=>exact⟨_,rfl,fun e=>by cases e⟩
    |false=>exact⟨_,rfl,fun _=>rfl⟩
def fB (sa:List j3)(pr:AC)(ho:wQ)(j:Nat):Int:=lZ sa pr (ho.getD j [])
def ig (sa:List j3)(pr:AC)(ho:wQ)(a:List qR):List qR:=(List.range a.length).map fun j=>((a.getD j ad).1,fB sa pr ho j,(a.getD j ad).2.2)
def EZ (r:qS)(s:qD)(pr:AC):Int×qD:=
 bif qI (fun j=> !decide (fB r.2.1 pr s.ho j>1152921504606846976)) s.B.1.length 0 then(0,{s with B:=(ig r.2.1 pr s.ho s.B.1,s.B.2.1,s.B.2.2.1,s.B.2.2.2),pr:=pr}) else(8,s)
def ke (r:qS)(s:qD)(a p:Int):Int×qD:=
 bif !(decide (a≥0)&&decide (a≤(r.2.1.length:Int)-1)) then(1,s)
 else bif !(decide (p≥0)&&decide (p≤1048576)) then(1,s)
 else EZ r s (s.pr.set a.toNat p)
theorem Vg (sa:List j3)(pr:AC)(ho:wQ)(a:List qR):(ig sa pr ho a).length=a.length:=by simp[ig]
theorem Vh (sa:List j3)(pr:AC)(ho:wQ)(a:List qR){j:Nat}(hj:j<a.length):(ig sa pr ho a).getD j ad=((a.getD j ad).1,fB sa pr ho j,(a.getD j ad).2.2):=by
 unfold ig
 rw[List.getD_eq_getElem?_getD,List.getElem?_map,List.getElem?_range hj]
 rfl
theorem Vi {k:Nat}(hk:1000≤k){r:qS}{s:qD}(who:Int){pr:AC}(hL:∀i,i<s.B.1.length→j4 r.2.1 pr (s.ho.getD i []))(hol:s.ho.length=s.B.1.length)(hZ:s.B.1.length≤6):
  (qI (fun j=> !decide (fB r.2.1 pr s.ho j>1152921504606846976)) s.B.1.length 0=true∧tj k k s.ho s.ho.length 0 (fV r s who) pr s.B.1 s.B.2.1 s.B.2.2.1 s.B.2.2.2=some (.inl (fV r s who,pr,ig r.2.1 pr s.ho s.B.1,s.B.2.1,s.B.2.2.1,s.B.2.2.2)))∨
  (qI (fun j=> !decide (fB r.2.1 pr s.ho j>1152921504606846976)) s.B.1.length 0=false∧tj k k s.ho s.ho.length 0 (fV r s who) pr s.B.1 s.B.2.1 s.B.2.2.1 s.B.2.2.2=some (.inr (8,fV r s who))):=by
 rw[hol]
 have:=Mm (L:=fun n i (a:List qR)=>tj k n s.ho s.B.1.length i (fV r s who) pr a s.B.2.1 s.B.2.2.1 s.B.2.2.2) (N:=s.B.1.length) (fun j=> !decide (fB r.2.1 pr s.ho j>1152921504606846976))
  (fun a=>.inl (fV r s who,pr,a,s.B.2.1,s.B.2.2.1,s.B.2.2.2)) (.inr (8,fV r s who))
  (fun i a => a.length = s.B.1.length ∧ ∀ j, j < s.B.1.length → a.getD j ad = if j < i then ((s.B.1.getD j ad).1, fB r.2.1 pr s.ho j, (s.B.1.getD j ad).2.2) else s.B.1.getD j ad) (fun n a _=>by
   show E0 k _ s.ho s.B.1.length s.B.1.length (fV r s who) pr a s.B.2.1 s.B.2.2.1 s.B.2.2.2=_
   unfold E0
   simp only [qG, ab (Nat.lt_irrefl _), ak]) (fun n i a hi ha=>by
   have hv:=yW3 (k:=k) (hL i hi) (by omega)
   have aM:tj k (n+1) s.ho s.B.1.length i (fV r s who) pr a s.B.2.1 s.B.2.2.1 s.B.2.2.2=bif decide (fB r.2.1 pr s.ho i>1152921504606846976) then some (.inr (8,fV r s who)) else tj k n s.ho s.B.1.length ((i+1:Nat):Int) (fV r s who) pr (a.set i ((a.getD i ad).1,fB r.2.1 pr s.ho i,(a.getD i ad).2.2)) s.B.2.1 s.B.2.2.1 s.B.2.2.2:=by
    show E0 k _ s.ho s.B.1.length i (fV r s who) pr a s.B.2.1 s.B.2.2.1 s.B.2.2.2=_
    unfold E0
    have gV:qn k (fV r s who).2.1 pr (s.ho.getD i [])=some (fB r.2.1 pr s.ho i,true):=hv
    simp only[qG,qH,ao,aa hi,aa (show i<s.ho.length by omega),aa (show i<a.length by rw[ha.1];exact hi),aj,gV,af,aA,ak,qJ hi (show s.B.1.length<9223372036854775808 by omega)]
    rfl
   refine⟨fun ho=>?_,fun ho=>?_⟩
   ·have h1:decide (fB r.2.1 pr s.ho i>1152921504606846976)=false:=by simpa using ho
    refine⟨_,by rw[aM,h1];rfl,by rw[List.length_set];exact ha.1,fun j hj=>?_⟩
    rw[jN]
    by_cases e:i=j
    ·subst e
     rw[if_pos ⟨rfl,by rw[ha.1];exact hi⟩,if_pos (by omega),ha.2 i hi,if_neg (Nat.lt_irrefl _)]
    ·rw[if_neg (by omega),ha.2 j hj]
     by_cases h:j<i
     ·rw[if_pos h,if_pos (by omega)]
     ·rw[if_neg h,if_neg (by omega)]
   ·have h1:decide (fB r.2.1 pr s.ho i>1152921504606846976)=true:=by simpa using ho
    rw[aM,h1];rfl) s.B.1.length 0 k s.B.1 (by omega) (by omega) ⟨rfl,fun j _=>by rw[if_neg (Nat.not_lt_zero _)]⟩
 rcases this with⟨h1,a,h2,h3,h4⟩|⟨h1,h2⟩
 ·refine .inl ⟨h1,?_⟩
  have e:a=ig r.2.1 pr s.ho s.B.1:=Cw ad (by rw[h3,Vg]) fun j hj=>by
   rw[h3] at hj
   rw[h4 j hj,if_pos hj,Vh _ _ _ _ hj]
  rw[←e]
  exact h2
 ·exact .inr ⟨h1,h2⟩
theorem vI3 {k:Nat}(hk:1000≤k){r:qS}(hr:jU r){s:qD}(h:yE r s)(who a p:Int):
  ∃d,Nw k (fV r s who) a p=some ((ke r s a p).1,d)∧((ke r s a p).1=0→d=dk r (ke r s a p).2 who []):=by
 have h3:=hr.n3
 have hZ:=h.bk.n6
 have nA:=h.bk.n1
 have w1:zA ((r.2.1.length:Int)-1)=(r.2.1.length:Int)-1:=zR (by omega) (by omega)
 have eD:Nw k (fV r s who) a p=((vF k a 0 (zA ((r.2.1.length:Int)-1))).bind fun x0=>some x0).bind fun x0=>
  bif !x0 then some (1,dk r s who [])
  else(vF k p 0 1048576).bind fun x1=>
  bif !x1 then some (1,dk r s who [])
  else(oR k s.pr a p).bind fun x2=>
  (fU k s.B.1 s.B.2.1 s.B.2.2.1 s.B.2.2.2).bind fun x3=>
  (tj k k s.ho (s.ho.length:Int) 0 (fV r s who) x2 x3.1 x3.2.1 x3.2.2.1 x3.2.2.2).bind fun z=>
  match z with
  |.inl z1=>some (0,(wX z1.1 (z9 z1 (z1.2.1,(Vj z1.1 [])))))
  |.inr z2=>some (wY z2 []):=rfl
 rw[eD,w1,qw,qw,HT (by omega) h.bk.toSized]
 simp only[af]
 unfold ke
 cases hc:decide (a≥0)&&decide (a≤(r.2.1.length:Int)-1) with
 |false=>exact⟨_,rfl,fun e=>by cases e⟩
 |true=>
 simp only[aV,aP] at hc
 cases hm:decide (p≥0)&&decide (p≤1048576) with
 |false=>exact⟨_,rfl,fun e=>by cases e⟩
 |true=>
 simp only[aV,aP] at hm
 obtain⟨i,rfl⟩:=Int.eq_ofNat_of_zero_le hc.1
 have hi:i<r.2.1.length:=by omega
 have L0:=h.laid 0 (by omega)
 have lq:oR k s.pr (i:Int) p=some (s.pr.set i p):=by
  have:=yKi (k:=k) (l:=s.pr) (by rw[L0.pl];omega) (i:=(i:Int)) (by omega) (by rw[L0.pl];omega) p
  rw[ao] at this
  exact this
 simp only[aA,ak,lq,af,ao]
 unfold EZ
 rcases Vi (r:=r) (s:=s) hk who (pr:=s.pr.set i p) (fun j hj=>(h.laid j hj).setP hi ⟨by omega,by omega⟩) h.hol hZ with⟨g1,g2⟩|⟨g1,g2⟩
 ·rw[g2,g1]
  exact⟨_,rfl,fun _=>rfl⟩
 ·rw[g2,g1]
  exact⟨_,rfl,fun e=>by cases e⟩
theorem Nx {q p:zF}:wW q p=true↔q.2.1<p.2.1∨(q.2.1=p.2.1∧q.2.2.2.2.1≤p.2.2.2.2.1):=by
 unfold wW;simp
theorem yYl {q p:zF}:iS q p=true↔q.2.1<p.2.1∨(q.2.1=p.2.1∧q.2.2.2.2.1<p.2.2.2.2.1):=by
 unfold iS;simp
theorem vNv {a b c:zF}(h:wW a b=true)(g:wW b c=true):wW a c=true:=by
 rw[Nx] at*;omega
theorem Vk {a b:zF}(h:¬wW a b=true):wW b a=true:=by
 rw[Nx] at*;omega
theorem vVz {a b:zF}(h:iS a b=true):wW a b=true:=by
 rw[yYl] at h;rw[Nx];omega
theorem vTp {a b:zF}(h:¬iS a b=true):wW b a=true:=by
 rw[yYl] at h;rw[Nx];omega
theorem vB0 (f:zF→Bool)(l:List zF)(p:zF):List.Perm (l.takeWhile f++(p::l.dropWhile f)) (p::l):=by
 have:=List.perm_middle (a:=p) (l₁:=l.takeWhile f) (l₂:=l.dropWhile f)
 rwa [List.takeWhile_append_dropWhile] at this
theorem yH1 {l:List zF}(hs:nL l)(p:zF)(f:zF→Bool)(h1:∀q,f q=true→wW q p=true)(h2:∀q,¬f q=true→wW p q=true):nL (l.takeWhile f++(p::l.dropWhile f)):=by
 have uj:=hs
 unfold nL at hs uj⊢
 rw[←List.takeWhile_append_dropWhile (p:=f) (l:=l)] at hs
 obtain⟨a1,a2,a3⟩:=List.pairwise_append.1 hs
 have Vl:∀q∈l.takeWhile f,f q=true:=fun q hq=>List.all_eq_true.1 (List.all_takeWhile (p:=f) (l:=l)) q hq
 have Vm:∀q∈l.dropWhile f,wW p q=true:=by
  cases hd:l.dropWhile f with
  |nil=>intro q hq;cases hq
  |cons x m=>
   have hx:¬f x=true:=by
    have bm:l.dropWhile f≠[]:=by rw[hd];simp
    have:=List.head_dropWhile_not f bm
    have e:(l.dropWhile f).head bm=x:=by simp only[hd,List.head_cons]
    rw[e] at this
    simp[this]
   intro q hq
   rcases List.mem_cons.1 hq with rfl|hq
   ·exact h2 _ hx
   ·rw[hd] at a2
    exact vNv (h2 x hx) ((List.pairwise_cons.1 a2).1 q hq)
 refine List.pairwise_append.2 ⟨a1,List.pairwise_cons.2 ⟨Vm,a2⟩,fun a ha b hb=>?_⟩
 rcases List.mem_cons.1 hb with rfl|hb
 ·exact h1 a (Vl a ha)
 ·exact a3 a ha b hb
theorem Vn {l:List zF}(hs:nL l)(p:zF):nL (nF l p):=yH1 hs p _ (fun _ h=>h) (fun _ h=>Vk h)
theorem vJo {l:List zF}(hs:nL l)(p:zF):nL (Iy l p):=yH1 hs p _ (fun _ h=>vVz h) (fun _ h=>vTp h)
theorem Vo (l:List zF)(p:zF):List.Perm (nF l p) (p::l):=vB0 _ l p
theorem vNk (l:List zF)(p:zF):List.Perm (Iy l p) (p::l):=vB0 _ l p
theorem nL.cut {l:List zF}(h:nL l)(x:Nat):nL (yB l x):=List.Pairwise.sublist (sR l x) h
theorem vLr {l:AC}(ha:uZ l){id:Int}(hn:id∉l):uZ (oP l id):=by
 unfold oP
 have nk:=ha
 unfold uZ at ha nk⊢
 rw[←List.takeWhile_append_dropWhile (p:=fun x=>decide (x<id)) (l:=l)] at ha
 obtain⟨a1,a2,a3⟩:=List.pairwise_append.1 ha
 have Vl:∀q∈l.takeWhile (fun x=>decide (x<id)),q<id:=fun q hq=>by simpa using List.all_eq_true.1 (List.all_takeWhile (p:=fun x=>decide (x<id)) (l:=l)) q hq
 have Vm:∀q∈l.dropWhile (fun x=>decide (x<id)),id<q:=by
  cases hd:l.dropWhile (fun x=>decide (x<id)) with
  |nil=>intro q hq;cases hq
  |cons x m=>
   have xP:x∈l:=(List.dropWhile_sublist _).subset (by rw[hd];exact List.mem_cons_self ..)
   have hx:¬x<id:=by
    have bm:l.dropWhile (fun x=>decide (x<id))≠[]:=by rw[hd];simp
    have:=List.head_dropWhile_not (fun x=>decide (x<id)) bm
    have e:(l.dropWhile (fun x=>decide (x<id))).head bm=x:=by simp only[hd,List.head_cons]
    rw[e] at this
    simpa using this
   have bm:x≠id:=fun e=>hn (e▸xP)
   intro q hq
   rcases List.mem_cons.1 hq with rfl|hq
   ·omega
   ·rw[hd] at a2
    have:=(List.pairwise_cons.1 a2).1 q hq
    omega
 refine List.pairwise_append.2 ⟨a1,List.pairwise_cons.2 ⟨Vm,a2⟩,fun a ha b hb=>?_⟩
 rcases List.mem_cons.1 hb with rfl|hb
 ·exact Vl a ha
 ·exact a3 a ha b hb
theorem vOb (l:AC)(id:Int):List.Perm (oP l id) (id::l):=by
 have:=List.perm_middle (a:=id) (l₁:=l.takeWhile (fun x=>decide (x<id))) (l₂:=l.dropWhile (fun x=>decide (x<id)))
 rwa [List.takeWhile_append_dropWhile] at this
theorem gJ.sub {n:Nat}{m m':List zF}{ids:AC}(h:gJ n m ids)(hs:List.Sublist m' m):gJ n m' ids:=
 ⟨List.Pairwise.sublist hs h.dist,by have:=hs.length_le;have:=h.len;omega,List.Pairwise.sublist hs h.sort,fun p hp=>h.may p (hs.subset hp),fun p hp=>h.time p (hs.subset hp),fun p hp=>h.were p (hs.subset hp),h.asc,h.pos,h.idl⟩
theorem gJ.turn {n:Nat}{m:List zF}{ids:AC}(h:gJ n m ids){x:Nat}(hx:x<m.length){p:zF}{m':List zF}(hp:List.Perm m' (p::yB m x))(hs:nL m')(h1:p.1=(m.getD x pd).1)
  (h2:yI n p) (h3:0≤p.2.2.2.2.2.1∧p.2.2.2.2.2.1≤p.2.2.2.2.2.2∧p.2.2.2.2.2.2≤1048576):gJ n m' ids:=by
 have hc:=sR m x
 have hl:=mP hx
 have hd:qO (p::yB m x):=by
  refine List.pairwise_cons.2 ⟨fun q hq=>?_,h.dist.cut x⟩
  rw[h1]
  have hd:=h.dist
  unfold qO at hd
  rw[Ir m x pd hx] at hd
  have IA:=List.pairwise_append.1 hd
  have Uo:=List.pairwise_cons.1 IA.2.1
  unfold yB at hq
  rcases List.mem_append.1 hq with hq|hq
  ·exact fun e=>IA.2.2 _ hq _ (List.mem_cons_self ..) e.symm
  ·exact Uo.1 _ hq
 have hlen:=hp.length_eq
 rw[List.length_cons] at hlen
 refine⟨hd.perm hp,by have:=h.len;omega,hs,fun q hq=>?_,fun q hq=>?_,fun q hq=>?_,h.asc,h.pos,h.idl⟩
 all_goals rcases List.mem_cons.1 (hp.subset hq) with rfl|nG
 ·exact h2
 ·exact h.may q (hc.subset nG)
 ·exact h3
 ·exact h.time q (hc.subset nG)
 ·rw[h1];exact h.were _ (jK hx)
 ·exact h.were q (hc.subset nG)
theorem vDn {r:qS}{s:qD}(hr:jU r)(h:yE r s){who:Int}{f:jM}(h0:(ie r s who f).1=0):gJ s.B.1.length (ie r s who f).2.1 (ie r s who f).2.2:=by
 have hw:=h.waits
 have hn:=h.n
 have ht:=h.tk
 unfold ie at h0⊢
 cases hc:decide (f.2.2.1≥0)&&decide (f.2.2.1≤r.1-1) with
 |false=>rw[hc] at h0;cases h0
 |true=>
 cases cN:decide (f.2.2.2.2.1≥1)&&decide (f.2.2.2.2.1≤3) with
 |false=>rw[hc,cN] at h0;cases h0
 |true=>
 cases cL:decide (mc r s.t (fz who f)=0) with
 |false=>rw[hc,cN,cL] at h0;exact absurd h0 (df cL)
 |true=>
 cases dP:decide (f.2.1∈s.ids) with
 |true=>rw[hc,cN,cL,dP] at h0;cases h0
 |false=>
 cases hY:decide (200≤s.ids.length) with
 |true=>rw[hc,cN,cL,dP,hY] at h0;cases h0
 |false=>
 cases Cm:(vP s.m f.2.1).isSome with
 |true=>rw[hc,cN,cL,dP,hY,Cm] at h0;cases h0
 |false=>
 cases Cn:decide (40≤s.m.length) with
 |true=>rw[hc,cN,cL,dP,hY,Cm,Cn] at h0;cases h0
 |false=>
 show gJ s.B.1.length (nF s.m (fz who f)) (oP s.ids f.2.1)
 have K4:f.2.1∉s.ids:=df dP
 have hi:=df hY
 have hm:=df Cn
 have Au:=yp cL
 have Vp:j7 r.1 s.t (fz who f)=true:=by
  unfold mc at Au
  cases hb:j7 r.1 s.t (fz who f) with
  |true=>rfl
  |false=>rw[hb] at Au;cases Au
 unfold j7 at Vp
 simp only[aV,aP,Bool.not_eq_true',decide_eq_false_iff_not] at Vp
 obtain⟨⟨p1,p2⟩,⟨p3,p4⟩,p5,p6,p7,p8,p9,sD,p11,p12,p13,p14⟩:=Vp
 have wb:=Vo s.m (fz who f)
 have Ny:=vOb s.ids f.2.1
 have hlen:=wb.length_eq
 have oF:=Ny.length_eq
 rw[List.length_cons] at hlen oF
 have bT:yI s.B.1.length (fz who f):=⟨p1,by omega,p3,by omega,p9,p6,p7,p8,sD⟩
 have fk:∀x,x∈s.ids→x∈oP s.ids f.2.1:=fun x hx=>Ny.symm.subset (List.mem_cons_of_mem _ hx)
 have Jl:qO (fz who f::s.m):=List.pairwise_cons.2 ⟨fun q hq e=>K4 (by have:=hw.were q hq;rw[←e] at this;exact this),hw.dist⟩
 refine⟨Jl.perm wb,by omega,Vn hw.sort _,fun q hq=>?_,fun q hq=>?_,fun q hq=>?_,vLr hw.asc K4,fun x hx=>?_,by omega⟩
 ·rcases List.mem_cons.1 (wb.subset hq) with rfl|nG
  ·exact bT
  ·exact hw.may q nG
 ·rcases List.mem_cons.1 (wb.subset hq) with rfl|nG
  ·exact⟨p11,p12,p14⟩
  ·exact hw.time q nG
 ·rcases List.mem_cons.1 (wb.subset hq) with rfl|nG
  ·exact Ny.symm.subset (List.mem_cons_self ..)
  ·exact fk _ (hw.were q nG)
 ·rcases List.mem_cons.1 (Ny.subset hx) with rfl|oc
  ·exact p5
  ·exact hw.pos x oc
theorem Vq {r:qS}{s:qD}(h:yE r s){who:Int}{f:jM}(h0:(j8 r s who f).1=0):gJ s.B.1.length (j8 r s who f).2.1 s.ids:=by
 have hw:=h.waits
 unfold j8 at h0⊢
 cases hx:vP s.m f.2.1 with
 |none=>rw[hx] at h0;cases h0
 |some x=>
 rw[hx] at h0
 have cM:=(j0 hx).1
 have cJ:s.m.getD x pd∈s.m:=jK cM
 have hm:=hw.may _ cJ
 have ht:=hw.time _ cJ
 simp only at h0⊢
 cases hc:decide ((s.m.getD x pd).2.1=who) with
 |false=>rw[hc] at h0;cases h0
 |true=>
 rw[hc] at h0
 simp only[aA,ak] at h0⊢
 cases cN:decide (f.1=2) with
 |true=>exact hw.sub (sR _ _)
 |false=>
 rw[cN] at h0
 simp only[ak] at h0⊢
 cases cL:decide (f.1=4) with
 |true=>
  rw[cL] at h0
  simp only[aj] at h0⊢
  cases dP:decide (f.2.2.1≥1)&&decide (f.2.2.1≤3) with
  |false=>rw[dP] at h0;cases h0
  |true=>
  cases hY:decide (oU r.2.2.1 r.2.2.2.1 s.t f.2.2.1=0) with
  |false=>rw[dP,hY] at h0;exact absurd h0 (df hY)
  |true=>
  simp only[aV,aP] at dP
  obtain⟨m1,m2,m3,m4,m5,m6,m7,m8,m9⟩:=hm
  exact hw.turn cM (Vo _ _) (Vn (hw.sort.cut x) _) rfl ⟨m1,m2,m3,m4,m5,m6,m7,dP.1,dP.2⟩ ht
 |false=>
  rw[cL] at h0
  simp only[ak] at h0⊢
  cases dP:decide (f.2.2.1=0) with
  |true=>exact hw.turn cM (vNk _ _) (vJo (hw.sort.cut x) _) rfl hm ht
  |false=>
   cases hY:decide (f.2.2.1=1) with
   |true=>exact hw.turn cM (Vo _ _) (Vn (hw.sort.cut x) _) rfl hm ht
   |false=>rw[dP,hY] at h0;cases h0
theorem yRe {n:Int}(h:-1≤n∧n≤1152921504606846976):wO n=true:=by
 unfold wO;simp;omega
theorem we {a:qR}:eW a=true↔(-4611686018427387904<a.1∧a.1<4611686018427387904)∧(0≤a.2.1∧a.2.1≤2305843009213693952)∧(0≤a.2.2∧a.2.2≤2305843009213693952):=by
 unfold eW;simp only[aV,aP];omega
theorem wL.setBil {a:List qR}{b:wQ}{m:AC}{p:wQ}(h:wL a b m p){w i:Nat}(hw:w<a.length)(hi:i<a.length){n:Int}(hn:-1≤n∧n≤1152921504606846976):wL a (b.set w ((b.getD w []).set i n)) m p:=
  { h with
    bl:=by rw[List.length_set];exact h.bl
    br:=fun j hj=>by
      rw[jN]
      split
      · rw[List.length_set];exact h.br w hw
      · exact h.br j hj
    bil:=fun j hj k hk=>by
      unfold cell
      rw[jN]
      split
      · rename_i e
        rw[jN]
        split
        · exact yRe hn
        · exact h.bil w hw k hk
      · exact h.bil j hj k hk}
theorem wL.setMul {a:List qR}{b:wQ}{m:AC}{p:wQ}(h:wL a b m p)(w:Nat){n:Int}(hn:-1≤n∧n≤1152921504606846976):wL a b (m.set w n) p:=
  { h with
    ml:=by rw[List.length_set];exact h.ml
    mul:=fun j hj=>by
      rw[jN]
      split
      · exact yRe hn
      · exact h.mul j hj}
theorem wL.setAcct {a:List qR}{b:wQ}{m:AC}{p:wQ}(h:wL a b m p){a':List qR}(hl:a'.length=a.length)(ha:∀i,i<a.length→eW (a'.getD i ad)=true):wL a' b m p where
 n1:=by rw[hl];exact h.n1
 n6:=by rw[hl];exact h.n6
 bl:=by rw[hl];exact h.bl
 br:=by rw[hl];exact h.br
 ml:=by rw[hl];exact h.ml
 pl:=by rw[hl];exact h.pl
 pr:=by rw[hl];exact h.pr
 mul:=by rw[hl];exact h.mul
 bil:=by rw[hl];exact h.bil
 acct:=by rw[hl];exact ha
 net:=by rw[hl];exact h.net
 turn:=by rw[hl];exact h.turn
theorem vYz {n:Nat}{g:Nat→Int}{i:Nat}(hi:i<n)(d:Int):qK (fun j=>if j=i then g j+d else g j) n=qK g n+d:=by
 have e:qK (fun j=>if j=i then g j+d else g j) n=qK (fun j=>g j+(if j=i then d else 0)) n:=oH fun j _=>by
  by_cases h:j=i
  ·rw[if_pos h,if_pos h]
  ·rw[if_neg h,if_neg h];omega
 rw[e,Cv,yq,if_pos hi]
theorem yE.books {r:qS}{s:qD}(h:yE r s){B:BT}(hb:qU B)(hl:B.1.length=s.B.1.length)(yw:∀i,i<s.B.1.length→(B.1.getD i ad).1=(s.B.1.getD i ad).1)(hc:∀i,i<s.B.1.length→(B.1.getD i ad).2.1=(s.B.1.getD i ad).2.1):yE r {s with B:=B} where
 tk:=h.tk
 bk:=hb
 n:=by show((B.1.length:Nat):Int)=r.1;rw[hl];exact h.n
 hol:=by show s.ho.length=B.1.length;rw[hl];exact h.hol
 laid:=by show∀i,i<B.1.length→_;rw[hl];exact h.laid
 cred:=by show∀i,i<B.1.length→_;rw[hl];intro i hi;show(B.1.getD i ad).2.1=_;rw[hc i hi];exact h.cred i hi
 most:=by show∀i,i<B.1.length→_;rw[hl];intro i hi;show(B.1.getD i ad).2.1≤_;rw[hc i hi];exact h.most i hi
 waits:=by show gJ B.1.length s.m s.ids;rw[hl];exact h.waits
 sum:=by show qK (fun i=>(B.1.getD i ad).1) B.1.length=s.to;rw[hl,oH yw];exact h.sum
 tot:=h.tot
 over:=h.over
 none:=h.none
theorem yE.queue {r:qS}{s:qD}(h:yE r s)(ho:s.ov=false){m:List zF}{ids:AC}(hw:gJ s.B.1.length m ids):yE r {s with m:=m,ids:=ids} where
 tk:=h.tk
 bk:=h.bk
 n:=h.n
 hol:=h.hol
 laid:=h.laid
 cred:=h.cred
 most:=h.most
 waits:=hw
 sum:=h.sum
 tot:=h.tot
 over:=h.over
 none:=fun e=>by rw[show s.ov=true from e] at ho;cases ho
theorem Vr {a:List qR}{w i:Nat}{x:qR}(hw:w<a.length):(a.set w x).getD i ad=if i=w then x else a.getD i ad:=by
 rw[jN]
 by_cases e:i=w
 ·rw[if_pos e,if_pos ⟨e.symm,hw⟩]
 ·rw[if_neg e,if_neg (fun h=>e h.1.symm)]
theorem vGi {r:qS}{s:qD}(h:yE r s){who:Int}(hw:0≤who∧who<r.1){f:jM}(h0:(j9 r s who f).1=0):yE r (j9 r s who f).2:=by
 have hn:=h.n
 have hb:wL s.B.1 s.B.2.1 s.B.2.2.1 s.B.2.2.2:=h.bk
 obtain⟨w,rfl⟩:=Int.eq_ofNat_of_zero_le hw.1
 have eZ:w<s.B.1.length:=by omega
 unfold j9 at h0⊢
 simp only[ao] at h0⊢
 cases hc:decide (f.1=5) with
 |true=>
  rw[hc] at h0
  simp only[aj] at h0⊢
  cases cN:decide (f.2.1≥0)&&decide (f.2.1≤r.1-1) with
  |false=>rw[cN] at h0;cases h0
  |true=>
  cases cL:decide (f.2.1=(w:Int)) with
  |true=>rw[cN,cL] at h0;cases h0
  |false=>
  cases dP:decide (f.2.2.1≥-1)&&decide (f.2.2.1≤1152921504606846976) with
  |false=>rw[cN,cL,dP] at h0;cases h0
  |true=>
  simp only[aV,aP] at cN dP
  exact h.books (B:=(s.B.1,s.B.2.1.set w ((s.B.2.1.getD w []).set f.2.1.toNat f.2.2.1),s.B.2.2.1,s.B.2.2.2)) (hb.setBil eZ (by omega) ⟨by omega,by omega⟩) rfl (fun _ _=>rfl) (fun _ _=>rfl)
 |false=>
  rw[hc] at h0
  simp only[ak] at h0⊢
  cases cN:decide (f.1=6) with
  |true=>
   rw[cN] at h0
   simp only[aj] at h0⊢
   cases cL:decide (f.2.1≥-1)&&decide (f.2.1≤1152921504606846976) with
   |false=>rw[cL] at h0;cases h0
   |true=>
   simp only[aV,aP] at cL
   exact h.books (B:=(s.B.1,s.B.2.1,s.B.2.2.1.set w f.2.1,s.B.2.2.2)) (hb.setMul w ⟨by omega,by omega⟩) rfl (fun _ _=>rfl) (fun _ _=>rfl)
  |false=>
   rw[cN] at h0
   simp only[ak] at h0⊢
   cases cL:decide (f.2.1≥0)&&decide (f.2.1≤1152921504606846976) with
   |false=>rw[cL] at h0;cases h0
   |true=>
   simp only[aV,aP] at cL
   have hg:∀i,(s.B.1.set w ((s.B.1.getD w ad).1,(s.B.1.getD w ad).2.1,f.2.1)).getD i ad=if i=w then((s.B.1.getD w ad).1,(s.B.1.getD w ad).2.1,f.2.1) else s.B.1.getD i ad:=fun i=>Vr eZ
   refine h.books (B:=(s.B.1.set w ((s.B.1.getD w ad).1,(s.B.1.getD w ad).2.1,f.2.1),s.B.2.1,s.B.2.2.1,s.B.2.2.2)) (hb.setAcct (by rw[List.length_set]) fun i hi=>?_) (by show(s.B.1.set _ _).length=_;rw[List.length_set]) (fun i hi=>?_) (fun i hi=>?_)
   ·rw[hg]
    split
    ·have:=we.1 (hb.acct w eZ)
     rw[we]
     exact⟨this.1,this.2.1,by show 0≤f.2.1∧f.2.1≤2305843009213693952;omega⟩
    ·exact hb.acct i hi
   ·show((s.B.1.set w _).getD i ad).1=_
    rw[hg]
    split
    ·rename_i e;rw[e]
    ·rfl
   ·show((s.B.1.set w _).getD i ad).2.1=_
    rw[hg]
    split
    ·rename_i e;rw[e]
    ·rfl
theorem vMa {r:qS}(hr:jU r){s:qD}(h:yE r s){who:Int}(hw:0≤who∧who<r.1){a many:Int}(h0:(ka r s who a many).1=0):yE r (ka r s who a many).2:=by
  have hn:=h.n
  have hb:wL s.B.1 s.B.2.1 s.B.2.2.1 s.B.2.2.2:=h.bk
  obtain⟨w,rfl⟩:=Int.eq_ofNat_of_zero_le hw.1
  have eZ:w<s.B.1.length:=by omega
  have hol:=h.hol
  unfold ka at h0⊢
  simp only[ao] at h0⊢
  cases hc:decide (a≥0)&&decide (a≤(r.2.1.length:Int)-1) with
  |false=>rw[hc] at h0;cases h0
  |true=>
  cases cN:decide (many≥0)&&decide (many≤1099511627776) with
  |false=>rw[hc,cN] at h0;cases h0
  |true=>
  rw[hc,cN] at h0
  simp only[aA,ak] at h0⊢
  simp only[aV,aP] at hc cN
  have L2:=(h.laid w eZ).set (i:=a.toNat) (by omega) (v:=many) ⟨by omega,by omega⟩
  have xJ:=D4 L2
  obtain⟨n,bm⟩:∃n,n=lZ r.2.1 s.pr ((s.ho.getD w []).set a.toNat many):=⟨_,rfl⟩
  rw[←bm] at h0 xJ⊢
  unfold EF at h0⊢
  cases cL:decide (n>1152921504606846976) with
  |true=>rw[cL] at h0;cases h0
  |false=>
  cases dP:decide (n<(s.B.1.getD w ad).2.1)&&decide ((s.B.1.getD w ad).1+n<0) with
  |true=>rw[cL,dP] at h0;cases h0
  |false=>
  have cL:=df cL
  have hg:∀i,(s.B.1.set w ((s.B.1.getD w ad).1,n,(s.B.1.getD w ad).2.2)).getD i ad=if i=w then((s.B.1.getD w ad).1,n,(s.B.1.getD w ad).2.2) else s.B.1.getD i ad:=fun i=>Vr eZ
  have hgh:∀i,(s.ho.set w ((s.ho.getD w []).set a.toNat many)).getD i []=if i=w then(s.ho.getD w []).set a.toNat many else s.ho.getD i []:=fun i=>by
    rw[jN]
    by_cases e:i=w
    · rw[if_pos e,if_pos ⟨e.symm,by omega⟩]
    · rw[if_neg e,if_neg (fun h=>e h.1.symm)]
  simp only[ak]
  have eF:(s.B.1.set w ((s.B.1.getD w ad).1,n,(s.B.1.getD w ad).2.2)).length=s.B.1.length:=List.length_set ..
  exact{
    tk:=h.tk
    bk:=hb.setAcct eF fun i hi=>by
      rw[hg]
      split
      · have:=we.1 (hb.acct w eZ)
        rw[we]
        exact⟨this.1,by show 0≤n∧n≤2305843009213693952;omega,this.2.2⟩
      · exact hb.acct i hi
    n:=by show(((s.B.1.set w _).length:Nat):Int)=r.1;rw[eF];exact h.n
    hol:=by show(s.ho.set w _).length=(s.B.1.set w _).length;rw[eF,List.length_set];exact hol
    laid:=by
      show∀i,i<(s.B.1.set w _).length→j4 r.2.1 s.pr ((s.ho.set w _).getD i [])
      rw[eF]
      intro i hi
      rw[hgh]
      split
      · exact L2
      · exact h.laid i hi
    cred:=by
      show∀i,i<(s.B.1.set w _).length→((s.B.1.set w _).getD i ad).2.1=lZ r.2.1 s.pr ((s.ho.set w _).getD i [])
      rw[eF]
      intro i hi
      rw[hg,hgh]
      split
      · exact bm
      · exact h.cred i hi
    most:=by
      show∀i,i<(s.B.1.set w _).length→((s.B.1.set w _).getD i ad).2.1≤_
      rw[eF]
      intro i hi
      rw[hg]
      split
      · show n≤_;omega
      · exact h.most i hi
    waits:=by show gJ (s.B.1.set w _).length s.m s.ids;rw[eF];exact h.waits
    sum:=by
      show qK (fun i=>((s.B.1.set w _).getD i ad).1) (s.B.1.set w _).length=s.to
      rw[eF,oH (h:=fun i=>(s.B.1.getD i ad).1) fun i _=>by
        rw[hg]
        split
        · rename_i e;rw[e]
        · rfl]
      exact h.sum
    tot:=h.tot
    over:=h.over
    none:=h.none}
theorem yYn {r:qS}{s:qD}(h:yE r s){i:Nat}(hi:i<s.B.1.length){n:Int}(hz:(jE (s.B.1.getD i ad) n).2=0)(ht:0≤s.to+n∧s.to+n≤1152921504606846976):
    yE r (Nv s i (jE (s.B.1.getD i ad) n).1 (s.to+n)):=by
  have hb:wL s.B.1 s.B.2.1 s.B.2.2.1 s.B.2.2.2:=h.bk
  unfold jE at hz⊢
  cases hc:eW ((s.B.1.getD i ad).1+n,(s.B.1.getD i ad).2.1,(s.B.1.getD i ad).2.2) with
  |false=>rw[hc] at hz;cases hz
  |true=>
  simp only[aj]
  have hg:∀j,(s.B.1.set i ((s.B.1.getD i ad).1+n,(s.B.1.getD i ad).2.1,(s.B.1.getD i ad).2.2)).getD j ad=if j=i then((s.B.1.getD i ad).1+n,(s.B.1.getD i ad).2.1,(s.B.1.getD i ad).2.2) else s.B.1.getD j ad:=fun j=>Vr hi
  have eF:(s.B.1.set i ((s.B.1.getD i ad).1+n,(s.B.1.getD i ad).2.1,(s.B.1.getD i ad).2.2)).length=s.B.1.length:=List.length_set ..
  unfold Nv
  exact{
    tk:=h.tk
    bk:=hb.setAcct eF fun j hj=>by
      rw[hg]
      split
      · exact hc
      · exact hb.acct j hj
    n:=by show(((s.B.1.set i _).length:Nat):Int)=r.1;rw[eF];exact h.n
    hol:=by show s.ho.length=(s.B.1.set i _).length;rw[eF];exact h.hol
    laid:=by show∀j,j<(s.B.1.set i _).length→_;rw[eF];exact h.laid
    cred:=by
      show∀j,j<(s.B.1.set i _).length→((s.B.1.set i _).getD j ad).2.1=_
      rw[eF]
      intro j hj
      rw[hg]
      split
      · rename_i e;rw[e];exact h.cred i hi
      · exact h.cred j hj
    most:=by
      show∀j,j<(s.B.1.set i _).length→((s.B.1.set i _).getD j ad).2.1≤_
      rw[eF]
      intro j hj
      rw[hg]
      split
      · exact h.most i hi
      · exact h.most j hj
    waits:=by show gJ (s.B.1.set i _).length s.m s.ids;rw[eF];exact h.waits
    sum:=by
      show qK (fun j=>((s.B.1.set i _).getD j ad).1) (s.B.1.set i _).length=s.to+n
      rw[eF,oH (h:=fun j=>if j=i then(s.B.1.getD j ad).1+n else(s.B.1.getD j ad).1) fun j _=>by
        rw[hg]
        by_cases e:j=i
        · rw[if_pos e,if_pos e,e]
        · rw[if_neg e,if_neg e],vYz hi,h.sum]
    tot:=ht
    over:=h.over
    none:=h.none}
theorem vIf {r:qS}{s:qD}(h:yE r s){kd to n:Int}(h0:(kb r s kd to n).1=0):yE r (kb r s kd to n).2∧(kb r s kd to n).2.to=s.to+(if kd=11 then-n else n)∧(kb r s kd to n).2.m=s.m∧(kb r s kd to n).2.ids=s.ids∧(kb r s kd to n).2.t=s.t:=by
 have hn:=h.n
 have ht:=h.tot
 unfold kb at h0⊢
 cases hc:decide (to≥0)&&decide (to≤r.1-1) with
 |false=>rw[hc] at h0;cases h0
 |true=>
 cases cN:decide (n≥1)&&decide (n≤1099511627776) with
 |false=>rw[hc,cN] at h0;cases h0
 |true=>
 rw[hc,cN] at h0
 simp only[aA,ak] at h0⊢
 simp only[aV,aP] at hc cN
 have hi:to.toNat<s.B.1.length:=by omega
 by_cases hk:kd=11
 ·rw[aa hk] at h0⊢
  simp only[aj] at h0⊢
  rw[if_pos hk]
  unfold Jh at h0⊢
  cases cL:decide ((s.B.1.getD to.toNat ad).1+(s.B.1.getD to.toNat ad).2.1-(s.B.1.getD to.toNat ad).2.2<n) with
  |true=>rw[cL] at h0;cases h0
  |false=>
  cases dP:decide (s.to-n<0) with
  |true=>rw[cL,dP] at h0;cases h0
  |false=>
  cases hz:decide ((jE (s.B.1.getD to.toNat ad) (-n)).2=0) with
  |false=>rw[cL,dP,hz] at h0;exact absurd h0 (df hz)
  |true=>
  cases hY:decide (s.to-n>1152921504606846976) with
  |true=>rw[cL,dP,hz,hY] at h0;cases h0
  |false=>
  have dP:=df dP
  have:=yYn h hi (n:= -n) (yp hz) (by omega)
  exact⟨this,rfl,rfl,rfl,rfl⟩
 ·rw[ab hk] at h0⊢
  simp only[ak] at h0⊢
  rw[if_neg hk]
  unfold Ji at h0⊢
  cases hz:decide ((jE (s.B.1.getD to.toNat ad) n).2=0) with
  |false=>rw[hz] at h0;exact absurd h0 (df hz)
  |true=>
  cases hY:decide (s.to+n>1152921504606846976) with
  |true=>rw[hz,hY] at h0;cases h0
  |false=>
  have hY:=df hY
  exact⟨yYn h hi (yp hz) (by omega),rfl,rfl,rfl,rfl⟩
theorem vK9 {r:qS}{s:qD}(h:yE r s){a p:Int}(h0:(ke r s a p).1=0):yE r (ke r s a p).2:=by
  have hb:wL s.B.1 s.B.2.1 s.B.2.2.1 s.B.2.2.2:=h.bk
  unfold ke at h0⊢
  cases hc:decide (a≥0)&&decide (a≤(r.2.1.length:Int)-1) with
  |false=>rw[hc] at h0;cases h0
  |true=>
  cases cN:decide (p≥0)&&decide (p≤1048576) with
  |false=>rw[hc,cN] at h0;cases h0
  |true=>
  rw[hc,cN] at h0
  simp only[aA,ak] at h0⊢
  simp only[aV,aP] at hc cN
  have hL:∀i,i<s.B.1.length→j4 r.2.1 (s.pr.set a.toNat p) (s.ho.getD i []):=fun i hi=>(h.laid i hi).setP (by omega) ⟨by omega,by omega⟩
  generalize s.pr.set a.toNat p=pr at*
  unfold EZ at h0⊢
  cases cL:qI (fun j=> !decide (fB r.2.1 pr s.ho j>1152921504606846976)) s.B.1.length 0 with
  |false=>rw[cL] at h0;cases h0
  |true=>
  simp only[aj]
  have hle:∀i,i<s.B.1.length→fB r.2.1 pr s.ho i≤1152921504606846976:=fun i hi=>by
    have:=gi.1 cL i hi
    simp only[Bool.not_eq_true',decide_eq_false_iff_not] at this
    omega
  have eF:=Vg r.2.1 pr s.ho s.B.1
  have hg:=fun(j:Nat) (hj:j<s.B.1.length)=>Vh r.2.1 pr s.ho s.B.1 hj
  exact{
    tk:=h.tk
    bk:=hb.setAcct eF fun i hi=>by
      rw[hg i hi]
      have:=we.1 (hb.acct i hi)
      have h1:=D4 (hL i hi)
      have h2:=hle i hi
      rw[we]
      exact⟨this.1,⟨h1,by show fB r.2.1 pr s.ho i≤_;omega⟩,this.2.2⟩
    n:=by show(((ig r.2.1 pr s.ho s.B.1).length:Nat):Int)=r.1;rw[eF];exact h.n
    hol:=by show s.ho.length=(ig r.2.1 pr s.ho s.B.1).length;rw[eF];exact h.hol
    laid:=by show∀i,i<(ig r.2.1 pr s.ho s.B.1).length→_;rw[eF];exact hL
    cred:=by
      show∀i,i<(ig r.2.1 pr s.ho s.B.1).length→((ig r.2.1 pr s.ho s.B.1).getD i ad).2.1=lZ r.2.1 pr (s.ho.getD i [])
      rw[eF]
      intro i hi
      rw[hg i hi];rfl
    most:=by
      show∀i,i<(ig r.2.1 pr s.ho s.B.1).length→((ig r.2.1 pr s.ho s.B.1).getD i ad).2.1≤_
      rw[eF]
      intro i hi
      rw[hg i hi];exact hle i hi
    waits:=by show gJ (ig r.2.1 pr s.ho s.B.1).length s.m s.ids;rw[eF];exact h.waits
    sum:=by
      show qK (fun i=>((ig r.2.1 pr s.ho s.B.1).getD i ad).1) (ig r.2.1 pr s.ho s.B.1).length=s.to
      rw[eF,oH (h:=fun i=>(s.B.1.getD i ad).1) fun i hi=>by rw[hg i hi]]
      exact h.sum
    tot:=h.tot
    over:=h.over
    none:=h.none}
abbrev MT:=Int×List j3×Int×Int×Int×Int×List qR×wQ×AC×wQ×AC×wQ×List zF×AC×Int×Bool×Int×Int
abbrev Vs:=Int×List j3×Int×Int×Int×Int×List qR×wQ×AC×wQ×AC×wQ×List zF×AC×Int×Bool×Int×List yA×Int
def rk (r:qS)(s:qD)(who:Int):MT:=(r.1,r.2.1,r.2.2.1,r.2.2.2.1,r.2.2.2.2,s.t,s.B.1,s.B.2.1,s.B.2.2.1,s.B.2.2.2,s.pr,s.ho,s.m,s.ids,s.to,s.ov,who,0)
def qQ (r:qS)(s:qD)(who:Int)(l:List yA)(paid:Int):Vs:=(r.1,r.2.1,r.2.2.1,r.2.2.2.1,r.2.2.2.2,s.t,s.B.1,s.B.2.1,s.B.2.2.1,s.B.2.2.2,s.pr,s.ho,s.m,s.ids,s.to,s.ov,who,l,paid)
def E1 (pa n:Int):Int:=bif decide (n<0) then-1 else bif decide (n≥pa) then-1 else n
theorem Vt k r s who l p n:tl k (qQ r s who l p) n=some (E1 r.1 n):=by
 unfold tl E1
 have e:(qQ r s who l p).1=r.1:=rfl
 grind
theorem Vu {pa n}(h:0≤n∧n<pa):E1 pa n=n:=by
 unfold E1
 grind
theorem Vv {pa n}(h:¬(0≤n∧n<pa)):E1 pa n= -1:=by
 unfold E1
 grind
theorem yG3 k (r:qS) t c:E2 k r t c=some (oU r.2.2.1 r.2.2.2.1 t c):=by
 unfold E2 oU
 grind
theorem vCy k (r:qS) t (p:zF):Av k r t p=some (mc r t p):=by
 unfold Av mc
 rw[yG3]
 simp only[af]
 have no:¬(p.2.1≥0∧p.2.1<r.1∧p.2.2.1≥0∧p.2.2.1<r.1∧p.1≥1∧p.2.2.2.1≥1∧p.2.2.2.1≤1099511627776∧p.2.2.2.2.1≥1∧¬p.2.1=p.2.2.1∧p.2.2.2.2.1≤3∧p.2.2.2.2.2.1≥0∧p.2.2.2.2.2.1≤p.2.2.2.2.2.2∧p.2.2.2.2.2.2≥t∧p.2.2.2.2.2.2≤1048576)→j7 r.1 t p=false:=by
  intro h
  cases e:j7 r.1 t p with
  |false=>rfl
  |true=>
   unfold j7 at e
   grind
 by_cases c1:p.1<1
 ·rw[aa c1,no (fun⟨_,_,_,_,h,_⟩=>by omega)];rfl
 by_cases c2:p.2.1<0
 ·rw[ab c1,aa c2,no (fun⟨h,_⟩=>by omega)];rfl
 by_cases c3:p.2.1≥r.1
 ·rw[ab c1,ab c2,aa c3,no (fun⟨_,h,_⟩=>by omega)];rfl
 by_cases c4:p.2.2.1<0
 ·rw[ab c1,ab c2,ab c3,aa c4,no (fun⟨_,_,h,_⟩=>by omega)];rfl
 by_cases c5:p.2.2.1≥r.1
 ·rw[ab c1,ab c2,ab c3,ab c4,aa c5,no (fun⟨_,_,_,h,_⟩=>by omega)];rfl
 rw[ab c1,ab c2,ab c3,ab c4,ab c5]
 simp only[ak]
 by_cases c6:p.2.1=p.2.2.1
 ·rw[aa c6,no (fun⟨_,_,_,_,_,_,_,_,h,_⟩=>h c6)];rfl
 by_cases c7:p.2.2.2.1<1
 ·rw[ab c6,aa c7,no (fun⟨_,_,_,_,_,h,_⟩=>by omega)];rfl
 by_cases c8:p.2.2.2.1>1099511627776
 ·rw[ab c6,ab c7,aa c8,no (fun⟨_,_,_,_,_,_,h,_⟩=>by omega)];rfl
 by_cases c9:p.2.2.2.2.1<1
 ·rw[ab c6,ab c7,ab c8,aa c9,no (fun⟨_,_,_,_,_,_,_,h,_⟩=>by omega)];rfl
 by_cases MF:p.2.2.2.2.1>3
 ·rw[ab c6,ab c7,ab c8,ab c9,aa MF,no (by grind)];rfl
 rw[ab c6,ab c7,ab c8,ab c9,ab MF]
 simp only[ak]
 by_cases ze:p.2.2.2.2.2.1<0
 ·rw[aa ze,no (by grind)];rfl
 by_cases Nz:p.2.2.2.2.2.1>p.2.2.2.2.2.2
 ·rw[ab ze,aa Nz,no (by grind)];rfl
 by_cases Vw:p.2.2.2.2.2.2<t
 ·rw[ab ze,ab Nz,aa Vw,no (by grind)];rfl
 by_cases c14:p.2.2.2.2.2.2>1048576
 ·rw[ab ze,ab Nz,ab Vw,aa c14,no (by grind)];rfl
 rw[ab ze,ab Nz,ab Vw,ab c14]
 have e:j7 r.1 t p=true:=by
  unfold j7
  simp_all
 rw[e]
 rfl
def Aw (k:Nat)(r:qS)(s:qD)(who:Int)(p:zF):Option (Int×Vs):=
 (Av k r s.t p).bind fun x1=>
 bif !(decide (x1=0)) then some (x1,qQ r s who [] 0)
 else(zz k s.ids p.1).bind fun x2=>
 bif !(decide (x2.2=0)) then some (x2.2,qQ r s who [] 0)
 else(zy k s.m p.1 p.2.1 p.2.2.1 p.2.2.2.1 p.2.2.2.2.1 p.2.2.2.2.2.1 p.2.2.2.2.2.2).bind fun x3=>
 bif !(decide (x3.2=0)) then some (x3.2,qQ r s who [] 0)
 else some (0,qQ r {s with m:=x3.1,ids:=x2.1} who [] p.1)
theorem vH2 {k}(hk:1000≤k){r}(hr:jU r){s}(h:gJ s.B.1.length s.m s.ids) who f:
  ∃d,NA k (rk r s who) f.2=some ((ie r s who f).1,d)∧((ie r s who f).1=0→d=qQ r {s with m:=(ie r s who f).2.1,ids:=(ie r s who f).2.2} who [] f.2.1):=by
 have hp:=hr.pa
 have hi:=h.idl
 have hm:=h.len
 have eD:NA k (rk r s who) f.2=(tl k (qQ r s who [] 0) f.2.2.1).bind fun x0=>
  bif decide (f.2.2.2.2.1 ≥ 1) then (bif decide (f.2.2.2.2.1≤3) then Aw k r s who (f.2.1,who,x0,f.2.2.2)
   else Aw k r s who (f.2.1,who,x0,f.2.2.2.1,0,f.2.2.2.2.2))
  else Aw k r s who (f.2.1,who,x0,f.2.2.2.1,0,f.2.2.2.2.2):=rfl
 have bad:∀p:zF,j7 r.1 s.t p=false→Aw k r s who p=some (1,qQ r s who [] 0):=by
  intro p hp
  unfold Aw
  rw[vCy]
  unfold mc
  rw[hp]
  rfl
 have abV:∀p:zF,¬(p.2.2.1≥0∧p.2.2.2.2.1≥1)→j7 r.1 s.t p=false:=by
  intro p hn
  cases e:j7 r.1 s.t p with
  |false=>rfl
  |true=>
   unfold j7 at e
   simp  at e
   obtain⟨_,⟨a3,_⟩,_,_,_,a8,_⟩:=e
   exact absurd ⟨a3,a8⟩ hn
 rw[eD,Vt]
 simp only[af]
 unfold ie
 by_cases hto:0≤f.2.2.1∧f.2.2.1<r.1
 ·rw[Vu hto,aa (show f.2.2.1≥0 by omega),aa (show f.2.2.1≤r.1-1 by omega)]
  by_cases hc:f.2.2.2.2.1≥1∧f.2.2.2.2.1≤3
  ·rw[aa hc.1,aa hc.2]
   simp only[Bool.and_self,aA,ak,aj]
   have ep:((f.2.1,who,f.2.2.1,f.2.2.2):zF)=fz who f:=rfl
   rw[ep]
   unfold Aw
   rw[vCy]
   simp only[af]
   by_cases hz:mc r s.t (fz who f)=0
   ·rw[aa hz]
    have e1:(fz who f).1=f.2.1:=rfl
    simp only[aA,ak]
    rw[e1,vTq (by omega) (by omega)]
    simp only[af]
    by_cases h1:f.2.1∈s.ids
    ·rw[aa h1];exact⟨_,rfl,fun e=>by cases e⟩
    ·rw[ab h1]
     by_cases h2:200≤s.ids.length
     ·rw[aa h2];exact⟨_,rfl,fun e=>by cases e⟩
     ·rw[ab h2]
      have e3:=Vd (k:=k) (l:=s.m) (by omega) (by omega) (fz who f)
      rw[e1] at e3
      simp only[ak,decide_true,aA]
      rw[e3]
      simp only[af]
      cases(vP s.m f.2.1).isSome with
      |true=>exact⟨_,rfl,fun e=>by cases e⟩
      |false=>
       by_cases h3:40≤s.m.length
       ·rw[aa h3];exact⟨_,rfl,fun e=>by cases e⟩
       ·rw[ab h3];exact⟨_,rfl,fun _=>rfl⟩
   ·rw[ab hz]
    exact⟨_,rfl,fun e=>absurd e hz⟩
  ·have e0:=bad (f.2.1,who,f.2.2.1,f.2.2.2.1,0,f.2.2.2.2.2) (by grind)
   rw[e0]
   have g:(!(decide (f.2.2.2.2.1≥1)&&decide (f.2.2.2.2.1≤3)))=true:=by
    by_cases a:f.2.2.2.2.1≥1
    ·rw[aa a,ab (fun b=>hc ⟨a,b⟩)];rfl
    ·rw[ab a];rfl
   rw[g]
   refine⟨qQ r s who [] 0,?_,fun e=>by cases e⟩
   by_cases a:f.2.2.2.2.1≥1
   ·rw[aa a,ab (fun b=>hc ⟨a,b⟩)];rfl
   ·rw[ab a];rfl
 ·have g:(!(decide (f.2.2.1≥0)&&decide (f.2.2.1≤r.1-1)))=true:=by
   by_cases a:f.2.2.1≥0
   ·rw[aa a,ab (show¬f.2.2.1≤r.1-1 by omega)];rfl
   ·rw[ab a];rfl
  have q:∀x:Int×Int×Int×Int,Aw k r s who (f.2.1,who,-1,x)=some (1,qQ r s who [] 0):=by grind
  rw[g,Vv hto,q,q]
  refine⟨qQ r s who [] 0,?_,fun e=>by cases e⟩
  cases decide (f.2.2.2.2.1≥1)<;>cases decide (f.2.2.2.2.1≤3)<;>rfl
theorem vV3 {k}(hk:1000≤k){r s}(h:gJ s.B.1.length s.m s.ids) who f (hf:f.1=2∨f.1=3∨f.1=4):
    ∃d,Ax k (rk r s who) f.1 f.2=some ((j8 r s who f).1,d)∧((j8 r s who f).1=0→d=qQ r {s with m:=(j8 r s who f).2.1} who (j8 r s who f).2.2 0):=by
  have hm:=h.len
  have nr:qV s.m:=by unfold qV;omega
  have eD : Ax k (rk r s who) f.1 f.2 = ((lY k s.m f.2.1).bind fun x0=>
      bif decide (x0<0) then some (((0,0,0,0,0,0,0):zF),false)
      else bif zB x0 s.m.length then (bif !(decide ((s.m.getD x0.toNat (0,0,0,0,0,0,0)).2.1=who)) then some ((0,0,0,0,0,0,0),false)
        else bif zB x0 s.m.length then some ((s.m.getD x0.toNat (0,0,0,0,0,0,0)),true)
        else none)
      else none).bind fun x0=>
    bif !x0.2 then some (4,qQ r s who [] 0)
    else bif decide (f.1 = 2) then ((mR k s.m f.2.1).bind fun x1=>
      (jS k 20 [f.2.1]).bind fun x2=>
      some (0,qQ r {s with m:=x1.1} who [(who,x2)] 0))
    else bif decide (f.1 = 3) then (bif decide (f.2.2.1 = 0) then ((Je k s.m f.2.1).bind fun x3=>
       some (0,qQ r {s with m:=x3.1} who [] 0))
      else bif decide (f.2.2.1 = 1) then ((Jd k s.m f.2.1).bind fun x4=>
       some (0,qQ r {s with m:=x4.1} who [] 0))
      else some (1,qQ r s who [] 0))
    else bif decide (f.2.2.1<1) then some (1,qQ r s who [] 0)
    else bif decide (f.2.2.1>3) then some (1,qQ r s who [] 0)
    else(E2 k r s.t f.2.2.1).bind fun x5=>
    bif !(decide (x5=0)) then some (x5,qQ r s who [] 0)
    else(Jc k s.m f.2.1 f.2.2.1).bind fun x6=>
    some (0,qQ r {s with m:=x6.1} who [] 0):=rfl
  rw[eD,ME (by omega) (by omega)]
  unfold j8 jz
  cases hx:vP s.m f.2.1 with
  |none=>exact by simp
  |some x=>
    have cM:=j0 hx
    have e1:decide ((x:Int)<0)=false:=ab (by omega)
    simp only[af,e1,ak,qH,aa cM.1,aj,ao]
    by_cases hw:(s.m.getD x (0,0,0,0,0,0,0)).2.1=who
    · have uA:(s.m.getD x pd).2.1=who:=hw
      rw[aa hw]
      simp only[aA,ak,af]
      by_cases h2:f.1=2
      · rw[aa h2]
        obtain⟨n,rfl⟩:∃n,k=n+5:=⟨k-5,by omega⟩
        have eo:jS (n+5) 20 [f.2.1]=some (20,f.2.1,0,0,0,0,0):=by kernel_rfl
        simp only[aj,th (show s.m.length<n+5 by omega) nr,af,eo]
        unfold gH
        rw[hx]
        exact⟨_,rfl,fun _=>rfl⟩
      · rw[ab h2]
        simp only[ak]
        by_cases h3:f.1=3
        · rw[aa h3,ab (show¬f.1=4 by omega)]
          simp only[aj,ak]
          by_cases h0:f.2.2.1=0
          · rw[aa h0]
            simp only[aj,vOr (show s.m.length<k by omega) nr hx,af]
            exact⟨_,rfl,fun _=>rfl⟩
          · rw[ab h0]
            simp only[ak]
            by_cases h1:f.2.2.1=1
            · rw[aa h1]
              simp only[aj,vMt (show s.m.length<k by omega) nr hx,af]
              exact⟨_,rfl,fun _=>rfl⟩
            · rw[ab h1]
              exact by simp
        · rw[ab h3,aa (show f.1=4 by omega)]
          simp only[ak,aj,yG3,af,vDh (show s.m.length<k by omega) nr hx]
          by_cases c1:f.2.2.1<1
          · rw[aa c1,ab (show¬f.2.2.1≥1 by omega)]
            exact⟨_,rfl,fun e=>by cases e⟩
          · rw[ab c1,aa (show f.2.2.1≥1 by omega)]
            by_cases c2:f.2.2.1>3
            · rw[aa c2,ab (show¬f.2.2.1≤3 by omega)]
              exact⟨_,rfl,fun e=>by cases e⟩
            · rw[ab c2,aa (show f.2.2.1≤3 by omega)]
              simp only[Bool.and_self,aA,ak]
              by_cases hc:oU r.2.2.1 r.2.2.2.1 s.t f.2.2.1=0
              · rw[aa hc]
                exact⟨_,rfl,fun _=>rfl⟩
              · rw[ab hc]
                exact by simp
    · rw[ab hw]
      exact⟨_,rfl,fun e=>by cases e⟩
theorem vQe {k}(hk:1000≤k){r}(hr:jU r){s}(hb:qU s.B)(hn:(s.B.1.length:Int)=r.1){who}(hw:0≤who∧who<r.1) f:
    ∃d,Ay k (rk r s who) f.1 f.2=some ((j9 r s who f).1,d)∧((j9 r s who f).1=0→d=qQ r (j9 r s who f).2 who [] 0):=by
  obtain⟨w,rfl⟩:=Int.eq_ofNat_of_zero_le hw.1
  have eZ:w<s.B.1.length:=by omega
  have eD:Ay k (rk r s w) f.1 f.2=(nD k s.B.1 s.B.2.1 s.B.2.2.1 s.B.2.2.2).bind fun x0=>
    bif decide (f.1 = 5) then ((tl k (qQ r s w [] 0) f.2.1).bind fun x1=>
      bif decide (x1<0) then some (1,qQ r s w [] 0)
      else bif decide (x1=(w:Int)) then some (1,qQ r s w [] 0)
      else bif decide (f.2.2.1<(-1)) then some (1,qQ r s w [] 0)
      else bif decide (f.2.2.1>1152921504606846976) then some (1,qQ r s w [] 0)
      else bif zB (w : Int) x0.2.1.length then (bif zB x1 (x0.2.1.getD (w:Int).toNat []).length then
        some (0,qQ r {s with B:=(x0.1,(x0.2.1.set (w:Int).toNat ((x0.2.1.getD (w:Int).toNat []).set x1.toNat f.2.2.1)),x0.2.2.1,x0.2.2.2)} w [] 0)
       else none)
      else none)
    else bif decide (f.1 = 6) then (bif decide (f.2.1<(-1)) then some (1,qQ r s w [] 0)
      else bif decide (f.2.1>1152921504606846976) then some (1,qQ r s w [] 0)
      else bif zB (w:Int) x0.2.2.1.length then some (0,qQ r {s with B:=(x0.1,x0.2.1,(x0.2.2.1.set (w:Int).toNat f.2.1),x0.2.2.2)} w [] 0)
      else none)
    else bif decide (f.2.1<0) then some (1,qQ r s w [] 0)
    else bif decide (f.2.1>1152921504606846976) then some (1,qQ r s w [] 0)
    else bif zB (w:Int) x0.1.length then some (0,qQ r {s with B:=((x0.1.set (w:Int).toNat ((x0.1.getD (w:Int).toNat (0,0,0)).1,(x0.1.getD (w:Int).toNat (0,0,0)).2.1,f.2.1)),x0.2.1,x0.2.2.1,x0.2.2.2)} w [] 0)
    else none:=rfl
  rw[eD,HS (by omega) hb.toSized,Vt]
  simp only[af,qH,ao]
  have two:∀a b:Int,∀x:Int,decide (x<a)= !decide (x≥a)∧decide (x>b)= !decide (x≤b):=by
    intro a b x
    constructor
    · by_cases h:x<a
      · rw[aa h,ab (show¬x≥a by omega)];rfl
      · rw[ab h,aa (show x≥a by omega)];rfl
    · by_cases h:x>b
      · rw[aa h,ab (show¬x≤b by omega)];rfl
      · rw[ab h,aa (show x≤b by omega)];rfl
  unfold j9
  rw[ao,(two (-1) 1152921504606846976 f.2.2.1).1,(two (-1) 1152921504606846976 f.2.2.1).2,(two (-1) 1152921504606846976 f.2.1).1,(two (-1) 1152921504606846976 f.2.1).2,(two 0 0 f.2.1).1]
  by_cases h5:f.1=5
  · rw[aa h5]
    simp only[aj]
    by_cases hc:0≤f.2.1∧f.2.1<r.1
    · rw[Vu hc,aa (show f.2.1≥0 by omega),aa (show f.2.1≤r.1-1 by omega),ab (show¬f.2.1<0 by omega)]
      have b1:decide (w<s.B.2.1.length)=true:=aa (by rw[hb.bl];exact eZ)
      have b2:zB f.2.1 (s.B.2.1.getD w []).length=true:=fq hc.1 (by rw[hb.br w eZ];omega)
      rw[b1,b2]
      cases decide (f.2.1=(w:Int)) with
      |true=>exact⟨_,rfl,fun e=>by cases e⟩
      |false=>
        cases decide (f.2.2.1≥-1) with
        |false=>exact⟨_,rfl,fun e=>by cases e⟩
        |true=>
          cases decide (f.2.2.1≤1152921504606846976) with
          |false=>exact⟨_,rfl,fun e=>by cases e⟩
          |true=>exact⟨_,rfl,fun _=>rfl⟩
    · rw[Vv hc]
      have g:(decide (f.2.1≥0)&&decide (f.2.1≤r.1-1))=false:=by
        by_cases a:f.2.1≥0
        · rw[aa a,ab (show¬f.2.1≤r.1-1 by omega)];rfl
        · rw[ab a];rfl
      rw[g]
      exact⟨_,rfl,fun e=>by cases e⟩
  · rw[ab h5]
    by_cases h6:f.1=6
    · rw[aa h6]
      have b1:decide (w<s.B.2.2.1.length)=true:=aa (by rw[hb.ml];exact eZ)
      rw[b1]
      cases decide (f.2.1≥-1) with
      |false=>exact⟨_,rfl,fun e=>by cases e⟩
      |true=>
        cases decide (f.2.1≤1152921504606846976) with
        |false=>exact⟨_,rfl,fun e=>by cases e⟩
        |true=>exact⟨_,rfl,fun _=>rfl⟩
    · rw[ab h6]
      have b1:decide (w<s.B.1.length)=true:=aa eZ
      rw[b1]
      cases decide (f.2.1≥0) with
      |false=>exact⟨_,rfl,fun e=>by cases e⟩
      |true=>
        cases decide (f.2.1≤1152921504606846976) with
        |false=>exact⟨_,rfl,fun e=>by cases e⟩
        |true=>exact⟨_,rfl,fun _=>rfl⟩
theorem vCa {k l}(hl:l.length≤1000){i:Nat}(h1:i<l.length) v:tm k l i v=some (l.set i v):=by
 unfold tm
 rw[qT (n:=0+l.length) (by omega) (by omega),aa (by simp),aa (by grind),qH,aa h1,ao]
 rfl
theorem vEb {r}(hr:jU r){s}(h:yE r s){who}(hw:0≤who∧who<r.1) a many:
    ∃d,NB 1000 (rk r s who) a many=some ((ka r s who a many).1,d)∧((ka r s who a many).1=0→d=qQ r (ka r s who a many).2 who [] 0):=by
  have h3:=hr.n3
  have hn:=h.n
  have hZ:=h.bk.n6
  have hol:=h.hol
  obtain⟨w,rfl⟩:=Int.eq_ofNat_of_zero_le hw.1
  have eZ:w<s.B.1.length:=by omega
  have eD:NB 1000 (rk r s w) a many=
    bif decide (a<0) then some (1,qQ r s w [] 0)
    else bif decide (a≥(r.2.1.length:Int)) then some (1,qQ r s w [] 0)
    else bif decide (many<0) then some (1,qQ r s w [] 0)
    else bif decide (many>1099511627776) then some (1,qQ r s w [] 0)
    else bif zB (w : Int) s.ho.length then ((tm 1000 (s.ho.getD (w:Int).toNat []) a many).bind fun x0=>
      (zw 1000 r.2.1 s.pr x0).bind fun x1=>
      bif !x1.2 then some (8,qQ r s w [] 0)
      else bif decide (x1.1>1152921504606846976) then some (8,qQ r s w [] 0)
      else(nD 1000 s.B.1 s.B.2.1 s.B.2.2.1 s.B.2.2.2).bind fun x2=>
      bif zB (w : Int) x2.1.length then (bif decide (x1.1 < (x2.1.getD (w : Int).toNat (0, 0, 0)).2.1) then (bif decide ((zA ((x2.1.getD (w:Int).toNat (0,0,0)).1+x1.1))<0) then some (9,qQ r s w [] 0)
         else bif zB (w:Int) x2.1.length then(
          bif zO (0 + s.ho.length) 24 then (bif zB (w:Int) s.ho.length then
           some (0,qQ r {s with B:=((x2.1.set (w:Int).toNat ((x2.1.getD (w:Int).toNat (0,0,0)).1,x1.1,(x2.1.getD (w:Int).toNat (0,0,0)).2.2)),x2.2.1,x2.2.2.1,x2.2.2.2),ho:=s.ho.set (w:Int).toNat x0} w [] 0)
           else none)
          else none)
         else none)
        else bif zB (w:Int) x2.1.length then(
         bif zO (0 + s.ho.length) 24 then (bif zB (w:Int) s.ho.length then
           some (0,qQ r {s with B:=((x2.1.set (w:Int).toNat ((x2.1.getD (w:Int).toNat (0,0,0)).1,x1.1,(x2.1.getD (w:Int).toNat (0,0,0)).2.2)),x2.2.1,x2.2.2.1,x2.2.2.2),ho:=s.ho.set (w:Int).toNat x0} w [] 0)
          else none)
         else none)
        else none)
      else none)
    else none:=rfl
  rw[eD,HS (by omega) h.bk.toSized]
  simp only[af,qH,ao]
  unfold ka
  simp only[ao]
  by_cases c1:a<0
  · rw[aa c1,ab (show¬a≥0 by omega)]
    exact⟨_,rfl,fun e=>by cases e⟩
  rw[ab c1,aa (show a≥0 by omega)]
  by_cases c2:a≥(r.2.1.length:Int)
  · rw[aa c2,ab (show¬a≤(r.2.1.length:Int)-1 by omega)]
    exact⟨_,rfl,fun e=>by cases e⟩
  rw[ab c2,aa (show a≤(r.2.1.length:Int)-1 by omega)]
  by_cases c3:many<0
  · rw[aa c3,ab (show¬many≥0 by omega)]
    exact⟨_,rfl,fun e=>by cases e⟩
  rw[ab c3,aa (show many≥0 by omega)]
  by_cases c4:many>1099511627776
  · rw[aa c4,ab (show¬many≤1099511627776 by omega)]
    exact⟨_,rfl,fun e=>by cases e⟩
  rw[ab c4,aa (show many≤1099511627776 by omega)]
  obtain⟨i,rfl⟩:=Int.eq_ofNat_of_zero_le (show 0≤a by omega)
  have hi:i<r.2.1.length:=by omega
  have L:=h.laid w eZ
  have L2:=L.set hi (v:=many) ⟨by omega,by omega⟩
  have b1:decide (w<s.ho.length)=true:=aa (by omega)
  have b2:decide (w<s.B.1.length)=true:=aa eZ
  have lq:tm 1000 (s.ho.getD w []) (i:Int) many=some ((s.ho.getD w []).set i many):=vCa (by rw[L.hl];omega) (by rw[L.hl];omega) many
  have hv:=vA0 L2
  have hb:=h.bk.nums.bal w eZ
  have xJ:=D4 L2
  have e24:zO (0+s.ho.length) 24=true:=qT (by omega) (by omega)
  simp only[Bool.and_self,aA,ak,b1,aj,lq,af,hv,b2,ao,e24]
  clear hv L2 eD
  generalize lZ r.2.1 s.pr ((s.ho.getD w []).set i many)=n at xJ⊢
  unfold EF
  cases UY:decide (n>1152921504606846976) with
  |true=>exact⟨_,rfl,fun e=>by cases e⟩
  |false=>
    have h8:¬n>1152921504606846976:=df UY
    have w2:zA ((s.B.1.getD w (0,0,0)).1+n)=(s.B.1.getD w (0,0,0)).1+n:=zR (by have:=hb.1;simp only[ad] at this;omega) (by have:=hb.2;simp only[ad] at this;omega)
    simp only[w2,ak]
    cases decide (n<(s.B.1.getD w (0,0,0)).2.1) with
    |false=>exact⟨_,rfl,fun _=>rfl⟩
    |true=>
      cases decide ((s.B.1.getD w (0,0,0)).1+n<0) with
      |true=>exact⟨_,rfl,fun e=>by cases e⟩
      |false=>exact⟨_,rfl,fun _=>rfl⟩
theorem In9 {k}{a:qR}(ha:-4611686018427387904<a.1∧a.1<4611686018427387904){n}(hn:1≤n∧n≤1099511627776):E3 k a n=some (jE a n):=by
 unfold E3 jE EK
 rw[aa (by grind),zR (x:=9223372036854775807-n) (by omega) (by omega),ab (by grind),ab (by grind),zR (x:=a.1+n) (by omega) (by omega)]
 simp[Tj]
 grind
theorem vOs {r}(hr:jU r){s}(h:yE r s) who kd to n (LF:kd=10∨kd=11):
    ∃d,E4 1000 (rk r s who) (decide (kd=10)) to n=some ((kb r s kd to n).1,d)∧((kb r s kd to n).1=0→d=qQ r (kb r s kd to n).2 who [] 0):=by
  have hn:=h.n
  have ht:=h.tot
  have eD:E4 1000 (rk r s who) (decide (kd=10)) to n=(tl 1000 (qQ r s who [] 0) to).bind fun x0=>
    bif decide (x0<0) then some (1,qQ r s who [] 0)
    else bif decide (n<1) then some (1,qQ r s who [] 0)
    else bif decide (n>1099511627776) then some (1,qQ r s who [] 0)
    else(nD 1000 s.B.1 s.B.2.1 s.B.2.2.1 s.B.2.2.2).bind fun x1=>
    bif decide (kd = 10) then (bif zB x0 x1.1.length then ((E3 1000 (x1.1.getD x0.toNat (0,0,0)) n).bind fun x2=>
      bif decide ((zA (s.to+n))>1152921504606846976) then some (8,qQ r s who [] 0)
      else bif !(decide (x2.2=0)) then some (8,qQ r s who [] 0)
      else bif zB x0 x1.1.length then some (0,qQ r {s with B:=((x1.1.set x0.toNat x2.1),x1.2.1,x1.2.2.1,x1.2.2.2),to:=zA (s.to+n)} who [] 0)
      else none)
     else none)
    else bif zB x0 x1.1.length then (bif decide ((zA ((zA ((x1.1.getD x0.toNat (0,0,0)).1+(x1.1.getD x0.toNat (0,0,0)).2.1))-(x1.1.getD x0.toNat (0,0,0)).2.2))<n) then some (9,qQ r s who [] 0)
     else bif decide (s.to<n) then some (9,qQ r s who [] 0)
     else bif zB x0 x1.1.length then
      some (0,qQ r {s with B:=((x1.1.set x0.toNat ((zA ((x1.1.getD x0.toNat (0,0,0)).1-n)),(x1.1.getD x0.toNat (0,0,0)).2)),x1.2.1,x1.2.2.1,x1.2.2.2),to:=zA (s.to-n)} who [] 0)
     else none)
    else none:=rfl
  rw[eD,Vt,HS (by omega) h.bk.toSized]
  simp only[af]
  unfold kb
  by_cases hc:0≤to∧to<r.1
  · rw[Vu hc,ab (show¬to<0 by omega),aa (show to≥0 by omega),aa (show to≤r.1-1 by omega)]
    by_cases c1:n<1
    · rw[aa c1,ab (show¬n≥1 by omega)]
      exact⟨_,rfl,fun e=>by cases e⟩
    rw[ab c1,aa (show n≥1 by omega)]
    by_cases c2:n>1099511627776
    · rw[aa c2,ab (show¬n≤1099511627776 by omega)]
      exact⟨_,rfl,fun e=>by cases e⟩
    rw[ab c2,aa (show n≤1099511627776 by omega)]
    obtain⟨i,rfl⟩:=Int.eq_ofNat_of_zero_le hc.1
    have hi:i<s.B.1.length:=by omega
    have hb:=h.bk.nums.bal i hi
    have ju:=h.bk.nums.res i hi
    have hcr:=h.most i hi
    have Vf:0≤(s.B.1.getD i ad).2.1:=by rw[h.cred i hi];exact D4 (h.laid i hi)
    have Vx:=we.1 (h.bk.acct i hi)
    have b0:zB (i:Int) s.B.1.length=true:=by rw[qH,aa hi]
    have q2:zA (s.to-n)=s.to-n:=zR (by omega) (by omega)
    have q3:zA (s.to+n)=s.to+n:=zR (by omega) (by omega)
    have Jj:E3 1000 (s.B.1.getD i (0,0,0)) n=some (jE (s.B.1.getD i ad) n):=In9 hb ⟨by omega,by omega⟩
    simp only[Bool.and_self,aA,ak,b0,aj,ao,Jj,af,q2,q3]
    clear Jj eD
    rcases LF with e|e
    · rw[aa e,ab (show¬kd=11 by omega)]
      simp only[aj,ak]
      unfold Ji
      cases hz:decide ((jE (s.B.1.getD i ad) n).2=0) with
      |false=>
        have e8:(jE (s.B.1.getD i ad) n).2=8:=by
          have:=df hz
          unfold jE at this⊢
          cases hx:eW ((s.B.1.getD i ad).1+n,(s.B.1.getD i ad).2.1,(s.B.1.getD i ad).2.2) with
          |true=>rw[hx] at this;exact absurd rfl this
          |false=>rfl
        rw[e8]
        cases decide (s.to+n>1152921504606846976)<;>exact⟨_,rfl,fun e=>by cases e⟩
      |true=>
        cases decide (s.to+n>1152921504606846976) with
        |true=>exact⟨_,rfl,fun e=>by cases e⟩
        |false=>exact⟨_,rfl,fun _=>rfl⟩
    · rw[ab (show¬kd=10 by omega),aa e]
      simp only[aj,ak]
      unfold Jh
      have q1:zA ((s.B.1.getD i (0,0,0)).1+(s.B.1.getD i (0,0,0)).2.1)=(s.B.1.getD i ad).1+(s.B.1.getD i ad).2.1:=zR (by simp only[ad] at*;omega) (by simp only[ad] at*;omega)
      have q4:zA ((s.B.1.getD i ad).1+(s.B.1.getD i ad).2.1-(s.B.1.getD i (0,0,0)).2.2)=(s.B.1.getD i ad).1+(s.B.1.getD i ad).2.1-(s.B.1.getD i ad).2.2:=zR (by simp only[ad] at*;omega) (by simp only[ad] at*;omega)
      have q5:zA ((s.B.1.getD i (0,0,0)).1-n)=(s.B.1.getD i ad).1+-n:=by rw[zR (by simp only[ad] at*;omega) (by simp only[ad] at*;omega)];rfl
      simp only[q1,q4,q5]
      by_cases c5:(s.B.1.getD i ad).1+(s.B.1.getD i ad).2.1-(s.B.1.getD i ad).2.2<n
      · rw[aa c5];exact⟨_,rfl,fun e=>by cases e⟩
      rw[ab c5]
      by_cases c6:s.to<n
      · rw[aa c6,aa (show s.to-n<0 by omega)];exact⟨_,rfl,fun e=>by cases e⟩
      rw[ab c6,ab (show¬s.to-n<0 by omega),ab (show¬s.to-n>1152921504606846976 by omega)]
      have em:jE (s.B.1.getD i ad) (-n)=(((s.B.1.getD i ad).1+-n,(s.B.1.getD i ad).2.1,(s.B.1.getD i ad).2.2),0):=by
        unfold jE
        have:eW ((s.B.1.getD i ad).1+-n,(s.B.1.getD i ad).2.1,(s.B.1.getD i ad).2.2)=true:=we.2 ⟨by simp only;omega,Vx.2⟩
        rw[this];rfl
      rw[em]
      exact⟨_,rfl,fun _=>rfl⟩
  · rw[Vv hc]
    have g:(decide (to≥0)&&decide (to≤r.1-1))=false:=by
      by_cases a:to≥0
      · rw[aa a,ab (show¬to≤r.1-1 by omega)];rfl
      · rw[ab a];rfl
    rw[g]
    exact⟨_,rfl,fun e=>by cases e⟩
theorem vIx {r s} who {pr}(hL:∀i,i<s.B.1.length→j4 r.2.1 pr (s.ho.getD i []))(hol:s.ho.length=s.B.1.length)(hZ:s.B.1.length≤6):
  (qI (fun j=> !decide (fB r.2.1 pr s.ho j>1152921504606846976)) s.B.1.length 0=true∧tn 1000 1000 0 (rk r s who) pr s.B.1 s.B.2.1 s.B.2.2.1 s.B.2.2.2=some (.inl (rk r s who,pr,ig r.2.1 pr s.ho s.B.1,s.B.2.1,s.B.2.2.1,s.B.2.2.2)))∨
  (qI (fun j=> !decide (fB r.2.1 pr s.ho j>1152921504606846976)) s.B.1.length 0=false∧tn 1000 1000 0 (rk r s who) pr s.B.1 s.B.2.1 s.B.2.2.1 s.B.2.2.2=some (.inr (8,rk r s who))):=by
 have:=Mm (L:=fun n i (a:List qR)=>tn 1000 n i (rk r s who) pr a s.B.2.1 s.B.2.2.1 s.B.2.2.2) (N:=s.B.1.length) (fun j=> !decide (fB r.2.1 pr s.ho j>1152921504606846976))
  (fun a=>.inl (rk r s who,pr,a,s.B.2.1,s.B.2.2.1,s.B.2.2.2)) (.inr (8,rk r s who))
  (fun i a => a.length = s.B.1.length ∧ ∀ j, j < s.B.1.length → a.getD j ad = if j < i then ((s.B.1.getD j ad).1, fB r.2.1 pr s.ho j, (s.B.1.getD j ad).2.2) else s.B.1.getD j ad) (fun n a ha=>by
   show E5 1000 _ s.B.1.length (rk r s who) pr a s.B.2.1 s.B.2.2.1 s.B.2.2.2=_
   unfold E5
   simp_all) (fun n i a hi ha=>by
   have hv:=vA0 (hL i hi)
   have aM:tn 1000 (n+1) i (rk r s who) pr a s.B.2.1 s.B.2.2.1 s.B.2.2.2=bif decide (fB r.2.1 pr s.ho i>1152921504606846976) then some (.inr (8,rk r s who)) else tn 1000 n ((i+1:Nat):Int) (rk r s who) pr (a.set i ((a.getD i ad).1,fB r.2.1 pr s.ho i,(a.getD i ad).2.2)) s.B.2.1 s.B.2.2.1 s.B.2.2.2:=by
    show E5 1000 _ i (rk r s who) pr a s.B.2.1 s.B.2.2.1 s.B.2.2.2=_
    unfold E5
    have gV:zw 1000 (rk r s who).2.1 pr (s.ho.getD i [])=some (fB r.2.1 pr s.ho i,true):=hv
    have eh:(rk r s who).2.2.2.2.2.2.2.2.2.2.2.1=s.ho:=rfl
    simp only[eh,qG,qH,ao,aa (show i<s.ho.length by omega),aa (show i<a.length by omega),aj,gV,aA,ak,qJ hi (by grind)]
    rfl
   grind) s.B.1.length 0 1000 s.B.1 (by omega) (by omega) (by simp)
 rcases this with⟨h1,a,h2,h3,h4⟩|⟨h1,h2⟩
 ·have e:a=ig r.2.1 pr s.ho s.B.1:=Cw ad (by rw[h3,Vg]) fun j hj=>by
   rw[h3] at hj
   rw[h4 j hj,if_pos hj,Vh _ _ _ _ hj]
  simp_all
 simp_all
theorem vVx {r}(hr:jU r){s}(h:yE r s) who a p:
  ∃d,NC 1000 (rk r s who) a p=some ((ke r s a p).1,d)∧((ke r s a p).1=0→d=qQ r (ke r s a p).2 who [] 0):=by
 have h3:=hr.n3
 have hZ:=h.bk.n6
 have nA:=h.bk.n1
 have eD:NC 1000 (rk r s who) a p=
  bif decide (a<0) then some (1,qQ r s who [] 0)
  else bif decide (a≥(r.2.1.length:Int)) then some (1,qQ r s who [] 0)
  else bif decide (p<0) then some (1,qQ r s who [] 0)
  else bif decide (p>1048576) then some (1,qQ r s who [] 0)
  else(tm 1000 s.pr a p).bind fun x0=>
  (nD 1000 s.B.1 s.B.2.1 s.B.2.2.1 s.B.2.2.2).bind fun x1=>
  (tn 1000 1000 0 (rk r s who) x0 x1.1 x1.2.1 x1.2.2.1 x1.2.2.2).bind fun z=>
  match z with
  |.inl z1=>some (0,(wX z1.1 (z9 z1 (z1.2.1,(yH2 z1.1 ([],z1.1.2.2.2.2.2.2.2.2.2.2.2.2.2.2.2.2.2))))))
  |.inr z2=>some (yQi z2 ([],z2.2.2.2.2.2.2.2.2.2.2.2.2.2.2.2.2.2.2)):=rfl
 rw[eD,HS (by omega) h.bk.toSized]
 simp only[af]
 unfold ke
 by_cases c1:a<0
 ·rw[aa c1,ab (show¬a≥0 by omega)]
  exact by simp
 rw[ab c1,aa (show a≥0 by omega)]
 by_cases c2:a≥(r.2.1.length:Int)
 ·grind
 rw[ab c2,aa (show a≤(r.2.1.length:Int)-1 by omega)]
 by_cases c3:p<0
 ·rw[aa c3,ab (show¬p≥0 by omega)]
  exact by simp
 rw[ab c3,aa (show p≥0 by omega)]
 by_cases c4:p>1048576
 ·rw[aa c4,ab (show¬p≤1048576 by omega)]
  exact by simp
 rw[ab c4,aa (show p≤1048576 by omega)]
 obtain⟨i,rfl⟩:=Int.eq_ofNat_of_zero_le (show 0≤a by omega)
 have hi:i<r.2.1.length:=by omega
 have L0:=h.laid 0 (by omega)
 have lq:tm 1000 s.pr (i:Int) p=some (s.pr.set i p):=vCa (by rw[L0.pl];omega) (by rw[L0.pl];omega) p
 simp only[Bool.and_self,aA,ak,lq,af,ao]
 unfold EZ
 rcases vIx (r:=r) (s:=s) who (pr:=s.pr.set i p) (fun j hj=>(h.laid j hj).setP hi ⟨by omega,by omega⟩) h.hol hZ with⟨g1,g2⟩|⟨g1,g2⟩
 ·rw[g2,g1]
  exact⟨_,rfl,fun _=>rfl⟩
 ·rw[g2,g1]
  exact⟨_,rfl,fun e=>by cases e⟩
theorem vGm {m}(hd:qO m){i}(hi:i<m.length):jz m (m.getD i pd).1=(i:Int):=by
 obtain⟨x,hx⟩:=MD (jK (d:=pd) hi)
 have h:=j0 hx
 unfold jz
 have:x=i:=by
  rcases Nat.lt_trichotomy x i with g|g|g
  ·have:=List.pairwise_iff_getElem.1 hd x i h.1 hi g
   grind
  ·exact g
  ·have:=List.pairwise_iff_getElem.1 hd i x hi h.1 g
   grind
 simp_all
theorem vS1 {k}(hk:100<k){B}(h:qU B){l:List zF}(hl:l.length≤80):H7 k B.1 B.2.1 B.2.2.1 B.2.2.2 l=some (u9 B l):=TS hk h hl
theorem ND {k}(hk:100<k){B}(h:qU B){l:List zF}(hl:l.length≤80):
  ∃C:BT,tp k B.1 B.2.1 B.2.2.1 B.2.2.2 l=some (C.1,C.2.1,C.2.2.1,C.2.2.2,(gI k B l).isSome)∧(∀D,gI k B l=some D→D=C):=by
 obtain⟨r,h1,h2,h3⟩:=D5 hk h hl
 unfold tp gI
 rw[h2,h1,vS1 hk h hl]
 refine⟨(r.1,r.2.1,r.2.2.1,r.2.2.2.1),?_,?_⟩
 all_goals grind
theorem yCz {k}(hk:100<k){B}(h:qU B)(m:List zF)(hm:m.length≤1000):∀c i n,i+c=m.length→c<n→
  Jm k n i B.1 B.2.1 B.2.2.1 B.2.2.2 0 0 0 0 0 0 0 m = some (match fw k B (m.drop i) with
   |some (p,C)=>.inr (true,p.1,p.2.1,p.2.2.1,p.2.2.2.1,p.2.2.2.2.1,p.2.2.2.2.2.1,p.2.2.2.2.2.2)
   |none=>.inl (0,0,0,0,0,0,0))
 |0,i,n,e,hn=>by
  obtain⟨n,rfl⟩:∃x,n=x+1:=⟨n-1,by omega⟩
  have:i=m.length:=by omega
  subst this
  show E6 k _ m.length B.1 B.2.1 B.2.2.1 B.2.2.2 0 0 0 0 0 0 0 m=_
  unfold E6
  simp
  rfl
 |c+1,i,n,e,hn=>by
  obtain⟨n,rfl⟩:∃x,n=x+1:=⟨n-1,by omega⟩
  have hi:i<m.length:=by omega
  have ih:=yCz hk h m hm c (i+1) n (by omega) (by omega)
  show E6 k _ i B.1 B.2.1 B.2.2.1 B.2.2.2 0 0 0 0 0 0 0 m=_
  unfold E6
  obtain⟨C,h1,h2⟩:=ND hk h (l:=[m.getD i pd]) (by simp)
  have c1:decide ((0:Int)≤(i:Int))=true:=by simp
  have c2:decide ((i:Int)≤((i+1:Nat):Int))=true:=by grind
  have c3:decide (((i+1:Nat):Int)≤(m.length:Int))=true:=by grind
  simp only[qH,qJ hi (by grind),ao,Ux m i hi]
  rw[yDz k B hi]
  grind
theorem yBn {k} (hk : 100 < k) {B} (h : qU B) {l} (bI : l.length < k) (hl : qV l) t : NF k B.1 B.2.1 B.2.2.1 B.2.2.2 l t = some (match fw k B (vW l t) with
   |some (p,C)=>(p.1,p.2.1,p.2.2.1,p.2.2.2.1,p.2.2.2.2.1,p.2.2.2.2.2.1,p.2.2.2.2.2.2,true)
   |none=>(0,0,0,0,0,0,0,false)):=by
 unfold NF
 rw[yRa bI hl]
 have D8:=MR l t
 unfold qV at hl
 have:=yCz hk h (vW l t) (by omega) (vW l t).length 0 k (by omega) (by omega)
 grind
theorem vEm {k}(hk:100<k) t {B C l m done}(h:gk k t B l done C m):∀n (r:List zF),qU B→l.length≤100→l.length<n→r.length+l.length≤1000→
  Jn k n l t B.1 B.2.1 B.2.2.1 B.2.2.2 r=some (m,C.1,C.2.1,C.2.2.1,C.2.2.2,r++done):=by
 induction h with
 |@stop B l hx=>
  intro n r hb hl hn hr
  obtain⟨n,rfl⟩:∃x,n=x+1:=⟨n-1,by omega⟩
  have h2:=yBn hk hb (l:=l) (by omega) (by show l.length≤1000;omega) t
  rw[hx] at h2
  show E7 k _ l t B.1 B.2.1 B.2.2.1 B.2.2.2 r=_
  unfold E7
  simp_all
 |@step B C D l m done p hx _ ih=>
  intro n r hb hl hn hr
  obtain⟨n,rfl⟩:∃x,n=x+1:=⟨n-1,by omega⟩
  have h2:=yBn hk hb (l:=l) (by omega) (by show l.length≤1000;omega) t
  rw[hx] at h2
  obtain⟨hp,hg⟩:=zk hx
  have BU:=D6 hp
  obtain⟨rU,mB⟩:=sW BU
  obtain⟨oC,cN⟩:=qo hk hb (by simp) hg
  have g2:=ih n (r++[p]) oC (by omega) (by omega) (by grind)
  show E7 k _ l t B.1 B.2.1 B.2.2.1 B.2.2.2 r=_
  unfold E7
  rw[h2]
  obtain⟨C',e1,e2⟩:=ND hk hb (l:=[p]) (by simp)
  have:=e2 C hg
  subst this
  simp[th (show l.length<k by omega) (show qV l by show l.length≤1000;omega),lX (show r.length≤1000 by omega)]
  rw[List.append_cons r p done,←g2]
  have Jo:tp k B.1 B.2.1 B.2.2.1 B.2.2.2 [(p.1,p.2.1,p.2.2.1,p.2.2.2.1,p.2.2.2.2.1,p.2.2.2.2.2.1,p.2.2.2.2.2.2)]=_:=e1
  rw[Jo]
  rfl
theorem yJp {k}(hk:200≤k){B C}(hb:qU B){l m done}(hl:l.length≤100){t}(h:gk k t B l done C m):NG k B.1 B.2.1 B.2.2.1 B.2.2.2 l t=some (C.1,C.2.1,C.2.2.1,C.2.2.2,m,done):=by
 unfold NG
 rw[vEm (by omega) t h k [] hb hl (by omega) (by grind)]
 rfl
def Vy (x:Option (zF×zF×BT)):Int×Int×Int×Int×Int×Int×Int×Int×Int×Int×Int×Int×Int×Int×Bool:=match x with
 |some (p,q,C)=>(p.1,p.2.1,p.2.2.1,p.2.2.2.1,p.2.2.2.2.1,p.2.2.2.2.2.1,p.2.2.2.2.2.2,q.1,q.2.1,q.2.2.1,q.2.2.2.1,q.2.2.2.2.1,q.2.2.2.2.2.1,q.2.2.2.2.2.2,true)
 |none=>(0,0,0,0,0,0,0,0,0,0,0,0,0,0,false)
theorem yYm {k}(hk:100<k){B}(h:qU B)(m:List zF)(hm:m.length≤1000){j}(hj:j<m.length):∀c i n,i+c=m.length→c<n→
  Jp k n j i B.1 B.2.1 B.2.2.1 B.2.2.2 0 0 0 0 0 0 0 0 0 0 0 0 0 0 m = some (match nH k B (m.getD j pd) (m.drop i) with
   |some (q,C)=>.inr (true,(m.getD j pd).1,(m.getD j pd).2.1,(m.getD j pd).2.2.1,(m.getD j pd).2.2.2.1,(m.getD j pd).2.2.2.2.1,(m.getD j pd).2.2.2.2.2.1,(m.getD j pd).2.2.2.2.2.2,q.1,q.2.1,q.2.2.1,q.2.2.2.1,q.2.2.2.2.1,q.2.2.2.2.2.1,q.2.2.2.2.2.2)
   |none=>.inl ((j:Int),B.1,B.2.1,B.2.2.1,B.2.2.2,0,0,0,0,0,0,0,0,0,0,0,0,0,0,m))
 |0,i,n,e,hn=>by
  obtain⟨n,rfl⟩:∃x,n=x+1:=⟨n-1,by omega⟩
  have:i=m.length:=by omega
  subst this
  show E8 k _ j m.length B.1 B.2.1 B.2.2.1 B.2.2.2 0 0 0 0 0 0 0 0 0 0 0 0 0 0 m=_
  unfold E8
  simp
  rfl
 |c+1,i,n,e,hn=>by
  obtain⟨n,rfl⟩:∃x,n=x+1:=⟨n-1,by omega⟩
  have hi:i<m.length:=by omega
  have ih:=yYm hk h m hm hj c (i+1) n (by omega) (by omega)
  show E8 k _ j i B.1 B.2.1 B.2.2.1 B.2.2.2 0 0 0 0 0 0 0 0 0 0 0 0 0 0 m=_
  unfold E8
  obtain⟨C,h1,h2⟩:=ND hk h (l:=[m.getD j pd,m.getD i pd]) (by simp)
  simp[qH,qJ hi (by grind),h1]
  rw[yG8 k B _ hi]
  unfold oS
  grind
theorem yQj {k}(hk:100<k){B}(h:qU B)(m:List zF)(hm:m.length≤1000)(IJ:m.length<k):∀c i n,i+c=m.length→c<n→
  Jq k n i B.1 B.2.1 B.2.2.1 B.2.2.2 0 0 0 0 0 0 0 0 0 0 0 0 0 0 m = some (match qp k B m (m.drop i) with
   |some (p,q,C)=>.inr (true,p.1,p.2.1,p.2.2.1,p.2.2.2.1,p.2.2.2.2.1,p.2.2.2.2.2.1,p.2.2.2.2.2.2,q.1,q.2.1,q.2.2.1,q.2.2.2.1,q.2.2.2.2.1,q.2.2.2.2.2.1,q.2.2.2.2.2.2)
   |none=>.inl (0,0,0,0,0,0,0,0,0,0,0,0,0,0))
 |0,i,n,e,hn=>by
  obtain⟨n,rfl⟩:∃x,n=x+1:=⟨n-1,by omega⟩
  have:i=m.length:=by omega
  subst this
  show E9 k _ m.length B.1 B.2.1 B.2.2.1 B.2.2.2 0 0 0 0 0 0 0 0 0 0 0 0 0 0 m=_
  unfold E9
  simp
  rfl
 |c+1,i,n,e,hn=>by
  obtain⟨n,rfl⟩:∃x,n=x+1:=⟨n-1,by omega⟩
  have hi:i<m.length:=by omega
  have ih:=yQj hk h m hm IJ c (i+1) n (by omega) (by omega)
  show E9 k _ i B.1 B.2.1 B.2.2.1 B.2.2.2 0 0 0 0 0 0 0 0 0 0 0 0 0 0 m=_
  unfold E9
  have fk:=yYm hk h m hm hi m.length 0 k (by omega) IJ
  have e0:((0:Nat):Int)=0:=rfl
  rw[e0,List.drop_zero] at fk
  simp[aa hi]
  rw[fk]
  rw[yA2 k B m hi]
  cases nH k B (m.getD i pd) m with
  |none=>
   simp[qJ hi (by grind)]
   exact ih
  |some x=>rfl
theorem ySe {k}(hk:100<k){B}(h:qU B){l}(bI:l.length<k)(hl:qV l) t:NH k B.1 B.2.1 B.2.2.1 B.2.2.2 l t=some (Vy (fh k B l t)):=by
 unfold NH fh
 rw[yRa bI hl]
 have D8:=MR l t
 unfold qV at hl
 have:=yQj hk h (vW l t) (by omega) (by omega) (vW l t).length 0 k (by omega) (by omega)
 have e:((0:Nat):Int)=0:=rfl
 rw[e,List.drop_zero] at this
 simp
 rw[this]
 cases qp k B (vW l t) (vW l t) with
 |none=>rfl
 |some x=>rfl
theorem vE9 {k}(hk:100<k) t {B C l m done}(h:jH k t B l done C m):∀n (r:List zF),qU B→qO l→l.length≤100→l.length<n→r.length+l.length≤900→
  Jr k n l t B.1 B.2.1 B.2.2.1 B.2.2.2 r=some (m,C.1,C.2.1,C.2.2.1,C.2.2.2,r++done):=by
 induction h with
 |@stop B l hx=>
  intro n r hb hd hl hn hr
  obtain⟨n,rfl⟩:∃x,n=x+1:=⟨n-1,by omega⟩
  have h2:=ySe hk hb (l:=l) (by omega) (by show l.length≤1000;omega) t
  rw[hx] at h2
  show Fa k _ l t B.1 B.2.1 B.2.2.1 B.2.2.2 r=_
  unfold Fa
  rw[h2]
  simp only[af,Vy,bM,aj,List.append_nil]
 |@step B C D l m done p q hx _ ih=>
  intro n r hb hd hl hn hr
  obtain⟨n,rfl⟩:∃x,n=x+1:=⟨n-1,by omega⟩
  have h2:=ySe hk hb (l:=l) (by omega) (by show l.length≤1000;omega) t
  rw[hx] at h2
  obtain⟨hp,hq,nI,hg⟩:=Ea hx
  obtain⟨rU,mB⟩:=Eb hd hp hq nI
  obtain⟨oC,cN⟩:=qo hk hb (by simp) hg
  have qt:(jT l p.1).length≤l.length:=(sW hp).2.length_le
  have g2:=ih n (r++[p,q]) oC (List.Pairwise.sublist mB hd) (by omega) (by omega) (by grind)
  have e2:r++[p,q]++done=r++p::q::done:=by rw[List.append_assoc];rfl
  show Fa k _ l t B.1 B.2.1 B.2.2.1 B.2.2.2 r=_
  unfold Fa
  rw[h2]
  obtain⟨C',e1,e2'⟩:=ND hk hb (l:=[p,q]) (by simp)
  have:=e2' C hg
  subst this
  have Jo:tp k B.1 B.2.1 B.2.2.1 B.2.2.2 [(p.1,p.2.1,p.2.2.1,p.2.2.2.1,p.2.2.2.2.1,p.2.2.2.2.2.1,p.2.2.2.2.2.2),(q.1,q.2.1,q.2.2.1,q.2.2.2.1,q.2.2.2.2.1,q.2.2.2.2.2.1,q.2.2.2.2.2.2)]=_:=e1
  have d1:=th (show l.length<k by omega) (show qV l by show l.length≤1000;omega) p.1
  have d2:=th (k:=k) (l:=(gH l p.1).1) (Nat.lt_of_le_of_lt qt (by omega)) (Nat.le_trans qt (by omega)) q.1
  have e3:zO (r.length+2) 56=true:=qT (by omega) (by omega)
  simp only[af,Vy,Jo,d1,d2,e3]
  rw[←e2,←g2]
  rfl
theorem yCa {k}(hk:200≤k){B C}(hb:qU B){l m done}(hd:qO l)(hl:l.length≤100){t}(h:jH k t B l done C m):NI k B.1 B.2.1 B.2.2.1 B.2.2.2 l t=some (C.1,C.2.1,C.2.2.1,C.2.2.2,m,done):=by
 unfold NI
 rw[vE9 (by omega) t h k [] hb hd hl (by omega) (by grind)]
 rfl
theorem Vz {k l}(hk:l.length<k)(hl:qV l) many:Fc k l many=some (vA l many):=by
 unfold qV at hl
 unfold Fc
 obtain ⟨s', h1, h2⟩ := yZ (L := fun n i s => Fe k n l many i s) (N := l.length) (fun s => s) (fun i s => s = l9 l many i) (fun n s _=>by
  show Ff k _ l many l.length s=_
  unfold Ff
  simp) (fun n i s hi hs=>by
  have eI:s.length≤i:=by rw[hs];exact UC l many i
  refine⟨bif qq l many i then s++[l.getD i pd] else s,?_,?_⟩
  ·show Ff k _ l many i s=_
   unfold Ff
   have c1:decide ((0:Int)≤(i:Int))=true:=by simp
   have c2:decide ((i:Int)≤(l.length:Int))=true:=by grind
   have MB:=My (k:=k) (l:=l.take i) (by grind) (by show(l.take i).length≤1000;grind) (l.getD i pd).2.1
   simp only[qH,qJ hi (by grind),qG,ao,aa hi,lX (show s.length≤1000 by omega),c2,MB]
   unfold qq jJ
   cases e1:decide ((l.getD i (0,(0,(0,(0,(0,(0,0))))))).2.1≥0) with
   |false=>rfl
   |true=>
    cases e2:decide ((l.getD i (0,(0,(0,(0,(0,(0,0))))))).2.1<(many.length:Int)) with
    |false=>rfl
    |true=>
     rw[aP] at e1 e2
     have hb:zB (l.getD i (0,(0,(0,(0,(0,(0,0))))))).2.1 many.length=true:=fq e1 (by omega)
     grind
  ·show _=l9 l many i++_
   grind) (s:=[]) hk rfl
 have dO:Fe k k l many 0 []=some s':=h1
 rw[dO,h2]
 rfl
theorem VA {k}{B:BT}{l}(hk:l.length<k)(hl:qV l)(hn:B.1.length<k)(hn':B.1.length≤1000):
  Az k k 0 B.1 B.2.1 B.2.2.1 B.2.2.2 l []=some (B.1,B.2.1,B.2.2.1,B.2.2.2,l,gl l B.1.length):=by
 obtain ⟨s', h1, h2⟩ := yZ (L := fun n i (s : AC) => Az k n i B.1 B.2.1 B.2.2.1 B.2.2.2 l s) (N := B.1.length) (fun s => (B.1, B.2.1, B.2.2.1, B.2.2.2, l, s)) (fun i s => s = gl l i) (fun n s _=>by
  show Fg k _ B.1.length B.1 B.2.1 B.2.2.1 B.2.2.2 l s=_
  unfold Fg
  simp) (fun n i s hi hs=>by
  refine⟨_,?_,(yYa l i).symm⟩
  show Fg k _ i B.1 B.2.1 B.2.2.1 B.2.2.2 l s=_
  unfold Fg
  have hr:zO (s.length+1) 8=true:=by rw[hs,vh];exact qT (by omega) (by omega)
  simp[aa hi,My hk hl,hr,qJ hi (by grind)]
  rw[hs]
  rfl) (s:=[]) hn rfl
 simp_all
theorem vG7 {k}{B:BT}{l:List zF}{s m}(hk:s.length<k)(hs:s.length≤1000)(fk:∀x∈s,0≤x∧x<(m.length:Int))(h0:nJ m)(hm:∀i,m.getD i 0≤1000) aO:
  Fh k k aO 0 B.1 B.2.1 B.2.2.1 B.2.2.2 l m s=some (aO,B.1,B.2.1,B.2.2.1,B.2.2.2,l,jW s m):=by
 obtain ⟨s', h1, h2⟩ := yZ (L := fun n i (r : AC) => Fh k n aO i B.1 B.2.1 B.2.2.1 B.2.2.2 l r s) (N := s.length) (fun r => (aO, B.1, B.2.1, B.2.2.1, B.2.2.2, l, r)) (fun i r => r = jW (s.take i) m) (fun n r _=>by
  show Fi k _ aO s.length B.1 B.2.1 B.2.2.1 B.2.2.2 l r s=_
  unfold Fi
  simp) (fun n i r hi hr=>by
  refine⟨_,?_,(vCw s m i hi).symm⟩
  show Fi k _ aO i B.1 B.2.1 B.2.2.1 B.2.2.2 l r s=_
  unfold Fi
  obtain⟨b1,b2⟩:=fk _ (jK (d:=0) hi)
  have uf:r.length=m.length:=by rw[hr,sY]
  have hb:zB (s.getD i 0) r.length=true:=fq b1 (by omega)
  have Ct:=IM (s.take i) m (s.getD i 0).toNat
  have G0:=h0 (s.getD i 0).toNat
  have uI:=hm (s.getD i 0).toNat
  have bd:(s.take i).length≤s.length:=by grind
  have hw:zA (r.getD (s.getD i 0).toNat 0-1)=r.getD (s.getD i 0).toNat 0-1:=by
   rw[hr]
   exact zR (by omega) (by omega)
  simp only[qG,qH,ao,aa hi,aj,hb,hw,qJ hi (by grind)]
  rw[hr]) (s:=m) hk rfl
 simp_all
theorem vP9 {k}(hk:100<k){B}(hb:qU B){l}(hl:∀q∈l,yI B.1.length q)(bY:l.length≤64){m f n}(h:j5 B l m f n):
  ∀N (s7:Int),m.length=B.1.length→nJ m→(∀i,m.getD i 0≤1000)→n<N→0≤s7→s7+n<1000000→
  Js k N s7 B.1 B.2.1 B.2.2.1 B.2.2.2 l m=some (s7+n,f):=by
 induction h with
 |@stop m h=>
  intro N s7 hm h0 h1 hn hs uj
  obtain⟨N,rfl⟩:∃x,N=x+1:=⟨N-1,by omega⟩
  show Fj k _ s7 B.1 B.2.1 B.2.2.1 B.2.2.2 l m=_
  unfold Fj
  have hS:=vBp hk hb (IN hl bY m)
  have nn:sN k B.1 B.2.1 B.2.2.1 B.2.2.2 (vA l m)=some (jP B (vA l m)):=hS
  rw[Vz (by omega) (show qV l by show l.length≤1000;omega)]
  simp_all
 |@step m f n h h' ih=>
  intro N s7 hm h0 h1 hn hs uj
  obtain⟨N,rfl⟩:∃x,N=x+1:=⟨N-1,by omega⟩
  have hZ:=hb.n6
  show Fj k _ s7 B.1 B.2.1 B.2.2.1 B.2.2.2 l m=_
  unfold Fj
  have hS:=vBp hk hb (IN hl bY m)
  have nn:sN k B.1 B.2.1 B.2.2.1 B.2.2.2 (vA l m)=some (jP B (vA l m)):=hS
  rw[Vz (by omega) (show qV l by show l.length≤1000;omega)]
  simp only[af]
  rw[nn]
  simp only[af]
  have w:zA (s7+1)=s7+1:=zR (by omega) (by omega)
  have bm : decide ((((jP B (vA l m)).length : Nat) : Int) = 0) = false := ab (by
   have:=List.length_pos_iff.2 h
   omega)
  have eI:(jP B (vA l m)).length≤B.1.length:=by
   unfold jP sP
   grind
  rw[bm]
  simp
  rw[vG7 (by omega) (by omega) (by rw[hm];exact UB) h0 h1]
  simp[w]
  have UN:=MY hl hm h0
  have:=ih N (s7+1) ((sY _ _).trans hm) UN (fun i=>by have:=(IM (jP B (vA l m)) m i).2;have:=h1 i;omega) (by omega) (by omega) (by omega)
  rw[this]
  congr 2
  omega
theorem vOx {k}(hk:100<k){B}(hb:qU B){l}(hl:∀q∈l,yI B.1.length q)(bY:l.length≤64) t {f n}(hn:n≤l.length)(h:j5 B (yW l t) (gl (yW l t) B.1.length) f n):
  NJ k B.1 B.2.1 B.2.2.1 B.2.2.2 l t=some (f,((n+1:Nat):Int)):=by
 have hZ:=hb.n6
 have hr:=vi l t
 have h1:=MZ (l:=yW l t) (by omega) B.1.length
 unfold NJ
 rw[T9 (by omega) (by show l.length≤1000;omega)]
 simp
 have e:Az k k 0 B.1 B.2.1 B.2.2.1 B.2.2.2 (l.filter (iR t)) []=_:=VA (k:=k) (B:=B) (l:=yW l t) (by omega) (by show(yW l t).length≤1000;omega) (by omega) (by omega)
 rw[e]
 simp
 rw[vP9 hk hb (IP hl) (by omega) h k 1 (vh _ _) h1.1 h1.2 (by omega) (by omega) (by omega)]
 grind
theorem vZc {k}{C:BT}{l hs:List zF}(hl:l.length<k)(dG:l.length≤1000)(hk:hs.length<k)(hh:hs.length≤1000):
  AA k k l 0 hs C.1 C.2.1 C.2.2.1 C.2.2.2=some (nK l hs,hs,C.1,C.2.1,C.2.2.1,C.2.2.2):=by
 obtain ⟨s', h1, h2⟩ := yZ (L := fun n i (s : List zF) => AA k n s i hs C.1 C.2.1 C.2.2.1 C.2.2.2) (N := hs.length) (fun s => (s, hs, C.1, C.2.1, C.2.2.1, C.2.2.2)) (fun i s => s = nK l (hs.take i)) (fun n s _=>by
  show Fk k _ s hs.length hs C.1 C.2.1 C.2.2.1 C.2.2.2=_
  unfold Fk
  simp) (fun n i s hi hr=>by
  refine⟨_,?_,(yE4 l hs i hi).symm⟩
  show Fk k _ s i hs C.1 C.2.1 C.2.2.1 C.2.2.2=_
  unfold Fk
  have eI:=(M3 (hs.take i) l).1
  rw[←hr] at eI⊢
  simp[qH,aa hi,th (show s.length<k by omega) (show qV s by show s.length≤1000;omega),qJ hi (by grind)]
  rfl) (s:=l) hk rfl
 simp_all
theorem vWj {k}(hk:100<k){B}(hb:qU B){l}(hl:∀q∈l,yI B.1.length q)(bY:l.length≤64) t {f n}(hn:n≤l.length)(h:j5 B (yW l t) (gl (yW l t) B.1.length) f n)
  {r:List qR×EQ×AC×EQ×Int} (hr:yv k B.1 B.2.1 B.2.2.1 B.2.2.2 (vA (yW l t) f)=some r):Jt k B.1 B.2.1 B.2.2.1 B.2.2.2 l t=some (Ef B l (vA (yW l t) f) r):=by
 have uf:=vi l t
 have M5:=(vg (yW l t) f).length_le
 unfold Jt
 rw[vOx hk hb hl bY t hn h,T9 (by omega) (by show l.length≤1000;omega)]
 simp
 have e:Fc k (l.filter (iR t)) f=_:=Vz (k:=k) (l:=yW l t) (by omega) (by show(yW l t).length≤1000;omega) f
 rw[e]
 simp
 rw[hr]
 simp
 unfold Ef
 cases decide (r.2.2.2.2=0) with
 |false=>rfl
 |true=>
  have e2:AA k k l 0 (vA (yW l t) f) r.1 r.2.1 r.2.2.1 r.2.2.2.1=_:=vZc (C:=(r.1,r.2.1,r.2.2.1,r.2.2.2.1)) (by omega) (by omega) (by omega) (by omega)
  simp_all
theorem gk.books {k}(hk:100<k){t B C l done m}(h:gk k t B l done C m)(hb:qU B)(hd:qO l):qU C∧C.1.length=B.1.length∧List.Sublist m l:=by
 induction h with
 |stop _=>simp_all
 |step h _ ih=>
  obtain⟨hp,hg⟩:=zk h
  obtain⟨h1,h2⟩:=sW (D6 hp)
  obtain⟨h3,h4⟩:=qo hk hb (by simp) hg
  obtain⟨g1,g2,g3⟩:=ih h3 (List.Pairwise.sublist h2 hd)
  exact⟨g1,g2.trans h4,g3.trans h2⟩
theorem jH.books {k}(hk:100<k){t B C l done m}(h:jH k t B l done C m)(hb:qU B)(hd:qO l):qU C∧C.1.length=B.1.length∧List.Sublist m l:=by
 induction h with
 |stop _=>simp_all
 |step h _ ih=>
  obtain⟨hp,hq,nI,hg⟩:=Ea h
  obtain⟨h1,h2⟩:=Eb hd hp hq nI
  obtain⟨h3,h4⟩:=qo hk hb (by simp) hg
  obtain⟨g1,g2,g3⟩:=ih h3 (List.Pairwise.sublist h2 hd)
  exact⟨g1,g2.trans h4,g3.trans h2⟩
theorem vL4 {k}(hk:200≤k){t B C l m done}(h:ll k t B l done C m):∀n (r:List zF),qU B→qO l→l.length≤100→l.length<n→r.length+l.length≤900→
  Ju k n l t B.1 B.2.1 B.2.2.1 B.2.2.2 r=some (m,C.1,C.2.1,C.2.2.1,C.2.2.2,r++done):=by
 induction h with
 |@stop B C l m d h1 h2=>
  intro n r hb hd hl hn hr
  obtain⟨n,rfl⟩:∃x,n=x+1:=⟨n-1,by omega⟩
  have p1:=h1.perm hd
  have l1:=p1.length_eq
  rw[List.length_append] at l1
  obtain⟨g1,g2,g3⟩:=h1.books (by omega) hb hd
  have f1:=yJp hk hb hl h1
  have f2:=yCa hk g1 (List.Pairwise.sublist g3 hd) (by omega) (jH.stop (t:=t) h2)
  have r1:zO (r.length+d.length) 56=true:=qT (by omega) (by omega)
  show Fl k _ l t B.1 B.2.1 B.2.2.1 B.2.2.2 r=_
  unfold Fl
  grind
 |@step B C D E l m n' o d e f h1 h2 ne h' ih=>
  intro n r hb hd hl hn hr
  obtain⟨n,rfl⟩:∃x,n=x+1:=⟨n-1,by omega⟩
  have p1:=h1.perm hd
  have l1:=p1.length_eq
  rw[List.length_append] at l1
  obtain⟨g1,g2,g3⟩:=h1.books (by omega) hb hd
  have hm:qO m:=List.Pairwise.sublist g3 hd
  have p2:=h2.perm hm
  have l2:=p2.length_eq
  rw[List.length_append] at l2
  obtain⟨k1,k2,k3⟩:=h2.books (by omega) g1 hm
  have f1:=yJp hk hb hl h1
  have f2:=yCa hk g1 hm (by omega) h2
  have oI:=List.length_pos_iff.2 ne
  have r1:zO (r.length+d.length) 56=true:=qT (by omega) (by omega)
  have r2:zO ((r++d).length+e.length) 56=true:=qT (by rw[List.length_append];omega) (by rw[List.length_append];omega)
  have:=ih n (r++d++e) k1 (List.Pairwise.sublist k3 hm) (by omega) (by omega) (by simp;omega)
  show Fl k _ l t B.1 B.2.1 B.2.2.1 B.2.2.2 r=_
  unfold Fl
  grind
theorem yCi {k}(hk:200≤k){t B C l m done}(hb:qU B)(hd:qO l)(hl:l.length≤100)(h:ll k t B l done C m):
  Jv k B.1 B.2.1 B.2.2.1 B.2.2.2 l t=some (C.1,C.2.1,C.2.2.1,C.2.2.2,m,done):=by
 unfold Jv
 rw[vL4 hk h k [] hb hd hl (by omega) (by grind)]
 rfl
theorem vDd {k}(hk:200≤k){B}(hb:qU B){l:List zF}(hl:∀q∈l,yI B.1.length q)(bY:l.length≤64) t:
  ∃r,zo k B.1 B.2.1 B.2.2.1 B.2.2.2 l t=some r∧Jt k B.1 B.2.1 B.2.2.1 B.2.2.2 l t=some r:=by
 obtain⟨f,n,h,hn⟩:=UE hb hl bY t
 have uf:=vi l t
 have M5:=(vg (yW l t) f).length_le
 obtain⟨r,h1,h2,h3⟩:=D5 (k:=k) (by omega) hb (l:=vA (yW l t) f) (by omega)
 exact⟨_,UO (k:=k) (by omega) hb hl bY t (by omega) h h1,vWj (k:=k) (by omega) hb hl bY t (by omega) h h2⟩
theorem vLs {k}(hk:200≤k){B}(hb:qU B){l}(hd:qO l)(hl:∀q∈l,yI B.1.length q)(bY:l.length≤64) t all:
  ∃(C:BT) (m done:List zF),vj k B.1 B.2.1 B.2.2.1 B.2.2.2 l t all=some (C.1,C.2.1,C.2.2.1,C.2.2.2,m,done)∧NK k B.1 B.2.1 B.2.2.1 B.2.2.2 l t all=some (C.1,C.2.1,C.2.2.1,C.2.2.2,m,done)∧
   qU C∧C.1.length=B.1.length∧List.Sublist m l∧List.Perm (done++m) l∧fw k C (vW m t)=none∧fh k C m t=none:=by
 obtain⟨C,m,d,f1,f2,f3,f4,f5⟩:=Ep hk hb hd (by omega) t
 have fr:=yCi hk hb hd (by omega) f2
 have p1:=f2.perm hd
 have l1:=p1.length_eq
 rw[List.length_append] at l1
 unfold vj NK
 rw[f1,fr]
 simp only[af]
 cases all with
 |false=>exact⟨C,m,d,rfl,rfl,f3,f4,f5,p1,f2.final⟩
 |true=>
  have hm:qO m:=List.Pairwise.sublist f5 hd
  have hmm:∀q∈m,yI C.1.length q:=by grind
  obtain⟨D,n,x,g1,g2,g3,g4,g5,g6⟩:=UP hk f3 hm hmm (by omega) t
  obtain⟨R,r1,r2⟩:=vDd hk f3 hmm (by omega) t
  have hR:R=(D.1,D.2.1,D.2.2.1,D.2.2.2,n,x):=by rw[g1] at r1;exact(Option.some.inj r1).symm
  subst hR
  have l2:=g5.length_eq
  rw[List.length_append] at l2
  rw[g1,r2]
  simp only[af]
  cases x with
  |nil=>
   obtain⟨rfl,rfl⟩:=g6 rfl
   exact⟨D,n,d,rfl,rfl,f3,f4,f5,p1,f2.final⟩
  |cons p x=>
   have e1:decide ((((p::x).length:Nat):Int)=0)=false:=ab (by simp;omega)
   rw[e1]
   have hn:qO n:=List.Pairwise.sublist g4 hm
   obtain⟨E,o,y,k1,k2,k3,k4,k5⟩:=Ep hk g2 hn (by omega) t
   have kr:=yCi hk g2 hn (by omega) k2
   have p3:=k2.perm hn
   have l3:=p3.length_eq
   rw[List.length_append] at l3
   have e2:zO (d.length+(p::x).length) 56=true:=qT (by simp at l2⊢;omega) (by simp at l2⊢;omega)
   have e3:zO ((d++(p::x)).length+y.length) 56=true:=qT (by simp at l2⊢;omega) (by simp at l2⊢;omega)
   rw[k1,kr]
   simp only[af,e2,e3,aj]
   refine⟨E,o,d++(p::x)++y,rfl,rfl,k3,k4.trans (g3.trans f4),k5.trans (g4.trans f5),?_,k2.final⟩
   have e4:d++(p::x)++y++o=d++((p::x)++(y++o)):=by simp
   rw[e4]
   exact by grind
theorem vCg {B:BT}(hb:qU B){m:List zF}(hd:qO m)(hm:∀q∈m,yI B.1.length q)(bY:m.length≤64)(t:Int)(pr:AC)(ho:EQ)(ids:AC)(to:Int)(ov all:Bool):
  ∃(C:BT) (m' d:List zF),ta 1000 t B.1 B.2.1 B.2.2.1 B.2.2.2 pr ho m ids to ov all=some (t,C.1,C.2.1,C.2.2.1,C.2.2.2,pr,ho,m',ids,to,ov,vD d)∧
   mS 1000 t B.1 B.2.1 B.2.2.1 B.2.2.2 pr ho m ids to ov all=some (t,C.1,C.2.1,C.2.2.1,C.2.2.2,pr,ho,m',ids,to,ov,vD d)∧qU C∧fy B C∧List.Sublist m' m∧List.Perm (d++m') m∧fw 1000 C (vW m' t)=none:=by
 obtain⟨C,m',d,f1,fr,f2,f3,f4,f5,f6,f7⟩:=vLs (k:=1000) (by decide) hb hd hm bY t all
 have hlen:=f5.length_eq
 rw[List.length_append] at hlen
 refine⟨C,m',d,?_,?_,f2,yQw (by decide) hb hd hm bY t all f1,f4,f5,f6⟩
 ·unfold ta
  rw[f1]
  simp only[af]
  rw[yQ2 (by omega) (by omega)]
  rfl
 ·unfold mS
  rw[fr]
  simp only[af]
  rw[vLl (by omega) (by omega)]
  rfl
theorem Fm (kd a:Int):jS 1000 kd [a]=some (kd,a,0,0,0,0,0):=by kernel_rfl
theorem Of0 (kd:Int):jS 1000 kd []=some (kd,0,0,0,0,0,0):=by kernel_rfl
theorem Of5 (kd a b c d e:Int):jS 1000 kd [a,b,c,d,e]=some (kd,a,b,c,d,e,0):=by kernel_rfl
theorem VB (s:qD)(hm:s.m.length≤100)(b:Int×Int×Bool):tq 1000 1000 s.m 0 s.st b []=some (s.st,b,s.m.map (vV 22)):=by
 obtain ⟨s', h1, h2⟩ := yZ (L := fun n i (o : List yA) => tq 1000 n s.m i s.st b o) (N := s.m.length) (fun o => (s.st, b, o)) (fun i o => o = (s.m.take i).map (vV 22)) (fun n o _=>by
  show Fo 1000 (tq 1000 n) s.m s.m.length s.st b o=_
  unfold Fo
  rw [ab (Int.lt_irrefl _)]; rfl) (fun n i o hi ho=>by
  refine⟨_,?_,(yVr (vV 22) s.m i pd hi).symm⟩
  show Fo 1000 (tq 1000 n) s.m i s.st b o=_
  unfold Fo
  have eI:o.length≤900:=by rw[ho,List.length_map,List.length_take];omega
  rw[aa (show(i:Int)<s.m.length by omega),qH,aa hi,ao,Fm,qJ hi (by omega)]
  simp only[aj,af,vk (show o.length≤1000 by omega)]
  rw[ho]
  rfl) (s:=[]) (show s.m.length<1000 by omega) rfl
 have dO:tq 1000 1000 s.m 0 s.st b []=_:=h1
 rw[dO,h2,List.take_length]
theorem vM8 (s:qD)(hB:s.B.1.length≤6)(b:Int×Int×Bool)(l:List yA)(hl:l.length≤100):tt 1000 1000 0 s.st b l=some (s.st,b,l++ic s.B s.B.1.length):=by
 have ea:s.st.2.1=s.B.1:=rfl
 obtain ⟨s', h1, h2⟩ := yZ (L := fun n i (o : List yA) => tt 1000 n i s.st b o) (N := s.B.1.length) (fun o => (s.st, b, o)) (fun i o => o = l ++ ic s.B i) (fun n o _=>by
  show Fp 1000 (tt 1000 n) s.B.1.length s.st b o=_
  unfold Fp
  rw [ea, ab (Int.lt_irrefl _)]; rfl) (fun n i o hi ho=>by
  refine⟨_,?_,(show l++ic s.B i++[vp s.B i]=l++ic s.B (i+1) by rw[yQp,List.append_assoc])⟩
  show Fp 1000 (tt 1000 n) i s.st b o=_
  unfold Fp
  have eI:o.length≤900:=by
   rw[ho,List.length_append]
   unfold ic
   rw[List.length_map,List.length_range]
   omega
  rw[ea,aa (show(i:Int)<s.B.1.length by omega),qH,aa hi,ao,Fm,qJ hi (by omega)]
  simp only[aj,af,vk (show o.length≤1000 by omega)]
  rw[ho]
  rfl) (s:=l) (show s.B.1.length<1000 by omega) (by show _=_++[];rw[List.append_nil])
 have dO:tt 1000 1000 0 s.st b l=_:=h1
 rw[dO,h2]
theorem vYs {a b:List zF}{p:zF}(hd:qO (a++p::b)):gH (a++p::b) p.1=(a++b,p.1,p.2.1,p.2.2.1,p.2.2.2.1,p.2.2.2.2.1,p.2.2.2.2.2.1,p.2.2.2.2.2.2,0):=by
 have hl:a.length<(a++p::b).length:=by simp
 have hg:(a++p::b).getD a.length pd=p:=by rw[Vb _ hl];simp
 have hp:=vGm hd hl
 rw[hg] at hp
 unfold jz at hp
 unfold gH
 cases hx:vP (a++p::b) p.1 with
 |none=>rw[hx] at hp;simp only at hp;omega
 |some x=>
  rw[hx] at hp
  simp only at hp
  obtain rfl:x=a.length:=by omega
  simp only[hg]
  unfold yB
  simp
theorem vJr (r:qS)(s:qD)(hd:qO s.m)(hm:s.m.length≤100)(b:Int×Int×Bool):
  tu 1000 1000 s.m 0 r s.st b []=some (r,qD.st {s with m:=s.m.filter (fun p=> !yU s.t p)},b,(s.m.filter (yU s.t)).map (vV 21)):=by
 obtain ⟨s', h1, h2, h3⟩ := yZ (L := fun n i (x : List zF × List yA) => tu 1000 n s.m i r (qD.st { s with m := x.1 }) b x.2) (N := s.m.length) (fun x => (r, qD.st { s with m := x.1 }, b, x.2)) (fun i x => x.1 = (s.m.take i).filter (fun p => !yU s.t p) ++ s.m.drop i ∧ x.2 = ((s.m.take i).filter (yU s.t)).map (vV 21)) (fun n x _=>by
  show Fq 1000 (tu 1000 n) s.m s.m.length r _ b _=_
  unfold Fq
  rw [ab (Int.lt_irrefl _)]; rfl) (fun n i x hi hx=>by
  have f1:=zc (yU s.t) s.m i pd hi
  have f2:=zc (fun p=> !yU s.t p) s.m i pd hi
  have hdr:s.m.drop i=s.m.getD i pd::s.m.drop (i+1):=by rw[List.drop_eq_getElem_cons hi,Vb _ hi]
  have mB:x.2.length≤900:=by
   rw[hx.2,List.length_map]
   have:=List.length_filter_le (yU s.t) (s.m.take i)
   rw[List.length_take] at this
   omega
  have rU:x.1.length≤s.m.length:=by
   rw[hx.1,List.length_append,List.length_drop]
   have:=List.length_filter_le (fun p=> !yU s.t p) (s.m.take i)
   rw[List.length_take] at this
   omega
  have cm:List.Sublist x.1 s.m:=by
   have h:=List.Sublist.append (List.filter_sublist (p:=fun p=> !yU s.t p) (l:=s.m.take i)) (List.Sublist.refl (s.m.drop i))
   rw[List.take_append_drop] at h
   rw[hx.1];exact h
  have hdx:qO x.1:=List.Pairwise.sublist cm hd
  have e0:∀p:zF,VC 1000 p.1 p.2.1 p.2.2.1 p.2.2.2.1 p.2.2.2.2.1 p.2.2.2.2.2.1 p.2.2.2.2.2.2 s.t=some (yU s.t p):=fun p=>rfl
  have ed:s.m.getD i (0,0,0,0,0,0,0)=s.m.getD i pd:=rfl
  have et:(qD.st {s with m:=x.1}).1=s.t:=rfl
  have em:(qD.st {s with m:=x.1}).2.2.2.2.2.2.2.1=x.1:=rfl
  show∃s',Fq 1000 (tu 1000 n) s.m i r (qD.st {s with m:=x.1}) b x.2=_∧_
  unfold Fq
  rw[aa (show(i:Int)<s.m.length by omega),qH,aa hi,ao,ed,et,em,e0,Fm,qJ hi (by omega),th (by omega) (by unfold qV;omega)]
  simp only[aj,af,vk (show x.2.length≤1000 by omega)]
  cases hb:yU s.t (s.m.getD i pd) with
  |true=>
   have cM:=hx.1
   rw[hdr] at cM
   have e1:=vYs (a:=(s.m.take i).filter (fun p=> !yU s.t p)) (b:=s.m.drop (i+1)) (p:=s.m.getD i pd) (by rw[←cM];exact hdx)
   rw[←cM] at e1
   rw[e1]
   refine⟨((s.m.take i).filter (fun p=> !yU s.t p)++s.m.drop (i+1),x.2++[vV 21 (s.m.getD i pd)]),rfl,?_,?_⟩
   ·show _=_
    rw[f2,hb]
    simp
   ·show x.2++_=_
    rw[f1,hb,hx.2]
    simp
  |false=>
   refine⟨x,rfl,?_,?_⟩
   ·rw[f2,hb,hx.1,hdr]
    simp
   ·rw[f1,hb,hx.2]
    simp) (s:=(s.m,[])) (show s.m.length<1000 by omega) ⟨by simp,rfl⟩
 rw[List.take_length,List.drop_length,List.append_nil] at h2
 rw[List.take_length] at h3
 have dO:tu 1000 1000 s.m 0 r s.st b []=_:=h1
 rw[dO,h2,h3]
theorem vEc (r:qS){s:qD}(hb:qU s.B)(hd:qO s.m)(hm:∀q∈s.m,yI s.B.1.length q)(bY:s.m.length≤64)(ht:0≤s.t∧s.t<1099511627776)(IZ:r.2.2.2.2≠0)(ho:s.ov=false):
  ∃x:Int×List qR×wQ×AC×wQ×AC×wQ×List zF×AC×Int×Bool×List yA,vq 1000 r.1 r.2.1 r.2.2.1 r.2.2.2.1 r.2.2.2.2 s.t s.B.1 s.B.2.1 s.B.2.2.1 s.B.2.2.2 s.pr s.ho s.m s.ids s.to s.ov=some x∧Fs 1000 r s.st=some (qZ x,x.2.2.2.2.2.2.2.2.2.2.2):=by
 have hZ:=hb.n6
 have w:zA (s.t+1)=s.t+1:=zR (by omega) (by omega)
 have eR:Fs 1000 r s.st=bif s.ov then some (s.st,[])
  else(NL 1000 r (zA (s.t+1))).bind fun x0=>
  bif x0 then ((tq 1000 1000 s.m 0 ((zA (s.t+1)),s.st.2) (0,0,false) []).bind fun z=>
   (tt 1000 1000 0 z.1 z.2.1 z.2.2).bind fun z1=>
   some ((iT z1.1 ([],z1.1.2.2.2.2.2.2.2.2.1,z1.1.2.2.2.2.2.2.2.2.2.1,true)),z1.2.2))
  else(tu 1000 1000 s.m 0 r ((zA (s.t+1)),s.st.2) (0,0,false) []).bind fun z2=>
  (Jw 1000 z2.1 z2.2.1.1).bind fun x6=>
  (mS 1000 z2.2.1.1 z2.2.1.2.1 z2.2.1.2.2.1 z2.2.1.2.2.2.1 z2.2.1.2.2.2.2.1 z2.2.1.2.2.2.2.2.1 z2.2.1.2.2.2.2.2.2.1 z2.2.1.2.2.2.2.2.2.2.1 z2.2.1.2.2.2.2.2.2.2.2.1 z2.2.1.2.2.2.2.2.2.2.2.2.1 z2.2.1.2.2.2.2.2.2.2.2.2.2 x6).bind fun x7=>
  bif zO (z2.2.2.2.length+x7.2.2.2.2.2.2.2.2.2.2.2.length) 64 then some ((qZ x7),(z2.2.2.2++x7.2.2.2.2.2.2.2.2.2.2.2))
  else none:=rfl
 have eT:((s.t+1,s.st.2):qu)=qD.st {s with t:=s.t+1}:=rfl
 rw[eR,w,eT,ho]
 unfold vq I1 NL
 simp only[w,ak,af]
 cases hc:decide (s.t+1=r.2.2.2.1) with
 |true=>
  simp only[aj]
  rw[yPt hZ (by decide) (by omega)]
  have c0:=VB {s with t:=s.t+1,ov:=false} (by show s.m.length≤100;omega) (0,0,false)
  have c1:=vM8 {s with t:=s.t+1,ov:=false} (by show s.B.1.length≤6;exact hZ) (0,0,false) (s.m.map (vV 22)) (by rw[List.length_map];omega)
  refine⟨_,rfl,?_⟩
  refine(congrArg (fun z=>Option.bind z _) c0).trans ?_
  simp only[af]
  refine(congrArg (fun z=>Option.bind z _) c1).trans ?_
  rfl
 |false=>
  simp only[ak]
  rw[yOk (by decide) (by omega)]
  have c2:=vJr r {s with t:=s.t+1,ov:=false} hd (by show s.m.length≤100;omega) (0,0,false)
  have hs:∃x,ED 1000 r.1 r.2.1 r.2.2.1 r.2.2.2.1 r.2.2.2.2 (s.t+1)=some x∧Jw 1000 r (s.t+1)=some x:=by
   unfold ED Jw
   cases decide (s.t+1>0) with
   |false=>exact⟨_,rfl,rfl⟩
   |true=>
    cases decide (s.t+1<r.2.2.2.1) with
    |false=>exact⟨_,rfl,rfl⟩
    |true=>
     have:decide (r.2.2.2.2=0)=false:=ab IZ
     rw[this]
     exact⟨_,rfl,rfl⟩
  obtain⟨x,hx,oc⟩:=hs
  simp only[af]
  rw[hx]
  have cm:List.Sublist (s.m.filter (fun p=> !yU (s.t+1) p)) s.m:=List.filter_sublist
  have eI:=cm.length_le
  have qt:qO (s.m.filter (fun p=> !yU (s.t+1) p)):=List.Pairwise.sublist cm hd
  obtain⟨C,m',d,f1,f1',f2,f3,f4,f5,f6⟩:=vCg hb qt (fun q hq=>hm q (cm.subset hq)) (by omega) (s.t+1) s.pr s.ho s.ids s.to false x
  have hlen:=f5.length_eq
  rw[List.length_append] at hlen
  have hla:(s.m.filter (yU (s.t+1))).length≤s.m.length:=List.length_filter_le _ _
  have B1:=Er d
  have hr:zO (((s.m.filter (yU (s.t+1))).map (vV 21)).length+(vD d).length) 64=true:=qT (by rw[List.length_map];omega) (by rw[List.length_map];omega)
  simp only[af]
  rw[f1]
  simp only[af,hr,aj]
  refine⟨_,rfl,?_⟩
  refine(congrArg (fun z=>Option.bind z _) c2).trans ?_
  simp only[af]
  refine(congrArg (fun z=>Option.bind z _) oc).trans ?_
  simp only[af]
  have VD:mS 1000 (s.t+1) s.B.1 s.B.2.1 s.B.2.2.1 s.B.2.2.2 s.pr s.ho (s.m.filter (fun p=> !yU (s.t+1) p)) s.ids s.to false x=_:=f1'
  refine(congrArg (fun z=>Option.bind z _) VD).trans ?_
  simp only[af]
  show(bif zO (((s.m.filter (yU (s.t+1))).map (vV 21)).length+(vD d).length) 64 then some ((s.t+1,C.1,C.2.1,C.2.2.1,C.2.2.2,s.pr,s.ho,m',s.ids,s.to,false),(s.m.filter (yU (s.t+1))).map (vV 21)++vD d) else none)=_
  rw[hr]
  rfl
theorem yE.settled {r s}(h:yE r s)(ho:s.ov=false){C}(hc:qU C)(kc:fy s.B C){m}(hm:List.Sublist m s.m):yE r {s with B:=C,m:=m}:=by
  have hl:=kc.len
  exact{
    tk:=h.tk
    bk:=hc
    n:=by rw[hl];exact h.n
    hol:=by rw[hl];exact h.hol
    laid:=by rw[hl];exact h.laid
    cred:=by rw[hl];intro i hi;rw[kc.cred i hi];exact h.cred i hi
    most:=by rw[hl];intro i hi;rw[kc.cred i hi];exact h.most i hi
    waits:=by rw[hl];exact h.waits.sub hm
    sum:=by rw[hl,kc.sum];exact h.sum
    tot:=h.tot
    over:=h.over
    none:=by grind}
theorem vDx {k}(hk:1000≤k){r}(hr:jU r){s}(h:yE r s)(ho:s.ov=false):
    ∃(C:BT) (m':List zF) (ov:Bool) (o:List yA),vq k r.1 r.2.1 r.2.2.1 r.2.2.2.1 r.2.2.2.2 s.t s.B.1 s.B.2.1 s.B.2.2.1 s.B.2.2.2 s.pr s.ho s.m s.ids s.to s.ov=some (s.t+1,C.1,C.2.1,C.2.2.1,C.2.2.2,s.pr,s.ho,m',s.ids,s.to,ov,o)∧
      yE r {s with t:=s.t+1,B:=C,m:=m',ov:=ov}∧fy s.B C∧(ov=false→fw k C (vW m' (s.t+1))=none)∧o.length≤100∧
      ((ov=true∧m'=[]∧o=s.m.map (vV 22)++ic s.B s.B.1.length∧C=s.B)∨∃l d n,o=l.map (vV 21)++vD d∧List.Perm (l++n) s.m∧List.Perm (d++m') n∧ov=false):=by
  have BQ:=hr.cl
  have IZ:=hr.pe
  have htk:=h.tk
  have hn:=h.n
  have bd:s.t≠r.2.2.2.1:=by
    have:=h.over
    simp_all
  have hbk:=h.bk
  have hm:=h.waits.len
  rw[ho]
  obtain⟨C,m',ov,o,e1,e2,e3,e4,e5⟩:=vRn (k:=k) (by omega) hbk h.waits.dist h.waits.may (by omega) r.1 r.2.1 r.2.2.1 r.2.2.2.1 r.2.2.2.2 s.t (by omega) (by omega) s.pr s.ho s.ids s.to
  have hl:=e3.len
  refine⟨C,m',ov,o,e1,?_,e3,e4,?_,e5⟩
  · exact{
      tk:=by grind
      bk:=e2.bk
      n:=by simp_all
      hol:=by rw[hl];exact h.hol
      laid:=by rw[hl];exact h.laid
      cred:=by rw[hl];intro i hi;rw[e3.cred i hi];exact h.cred i hi
      most:=by rw[hl];intro i hi;rw[e3.cred i hi];exact h.most i hi
      waits:=by rw[hl];exact h.waits.sub e2.sub
      sum:=by rw[hl,e3.sum];exact h.sum
      tot:=h.tot
      over:=e2.over
      none:=e2.none}
  · have:=e2.room
    split at this<;>omega
abbrev tv:=Int×jM
theorem yMu k kd:∃n,tw k kd=some n∧-1≤n∧n≤6:=by
 have c:∀(b:Bool) (x y:Option Int),(∃n,x=some n∧-1≤n∧n≤6)→(∃n,y=some n∧-1≤n∧n≤6)→∃n,(bif b then x else y)=some n∧-1≤n∧n≤6:=by
  simp_all
 iterate 23 (refine c _ _ _ (by simp) ?_)
 simp
theorem yT8 {k}{s:AC}(hs:s.length≤6):∀n i,s.length<i+n→i≤s.length→∃x,tx k n s (s.length:Int) (i:Int)=some x
 |0,i,h,g=>by omega
 |n+1,i,h,g=>by
  show∃x,wg k (tx k n) s (s.length:Int) (i:Int)=some x
  unfold wg
  by_cases hi:i<s.length
  ·simp only[qG,aa hi,qH,ao]
   cases decide (s.getD i 0=0) with
   |false=>simp
   |true=>
    rw[qJ hi (by omega)]
    exact yT8 hs n (i+1) (by omega) hi
  ·simp only[qG,ab hi]
   simp
theorem VE {k}(hk:10≤k)(f:jM):∃b,qy k f=some b:=by
 unfold qy
 obtain⟨n,h1,h2,h3⟩:=yMu k f.1
 rw[h1]
 simp
 by_cases h0:n<0
 ·simp_all
 ·rw[ab h0,aa (by grind),aa h3]
  have hl:(qW [f.2.1,f.2.2.1,f.2.2.2.1,f.2.2.2.2.1,f.2.2.2.2.2.1,f.2.2.2.2.2.2] n.toNat (6-n.toNat)).length≤6:=by
   unfold qW
   simp
  obtain⟨x,hx⟩:=yT8 (k:=k) hl k 0 (by omega) (by simp)
  rw[show((0:Nat):Int)=0 from rfl] at hx
  rw[hx]
  cases x<;>exact by simp
theorem VF k a:NM k a=some (decide (a≥10)&&decide (a≤14)):=by
 unfold NM;grind
theorem VG k a:Jx k a=some (decide (a≥1)&&decide (a≤14)):=by
 unfold Jx;grind
def yIt (A B C D E F G b o:Bool):Int:=
 bif !(D&&C) then 5 else bif !b then 5 else bif B&&C then(bif !E then 5 else bif o&& !G then 7 else 0) else bif !(A&&F) then 5 else bif o&& !G then 7 else 0
theorem vYy:∀{A B C D E F G b o},yIt A B C D E F G b o=0→(D&&C&&((B&&E)||(!B&&A&&F))&&(!o||G))=true:=by
 intro A B C D E F G b o h
 cases A<;>cases B<;>cases C<;>cases D<;>cases E<;>cases F<;>cases G<;>cases b<;>cases o<;>first|rfl|exact absurd h (by decide)
theorem vQh {k}(hk:10≤k)(r:qS)(s:qD)(c:tv):∃b,tz k r s.st c=some (yIt (decide (c.1≥0)) (decide (c.2.1≥10)) (decide (c.2.1≤14)) (decide (c.2.1≥1)) (decide (c.1= -1)) (decide (c.1<r.1)) (decide (c.2.1=9)) b s.ov):=by
 unfold tz
 rw[VF,VG]
 obtain⟨b,hb⟩:=VE hk c.2
 rw[hb]
 have eo:s.st.2.2.2.2.2.2.2.2.2.2=s.ov:=rfl
 rw[eo]
 refine⟨b,?_⟩
 generalize decide (c.1≥0)=A
 generalize decide (c.2.1≥10)=B
 generalize decide (c.2.1≤14)=C
 generalize decide (c.2.1≥1)=D
 generalize decide (c.1= -1)=E
 generalize decide (c.1<r.1)=F
 generalize decide (c.2.1=9)=G
 generalize s.ov=o
 cases A<;>cases B<;>cases C<;>cases D<;>cases E<;>cases F<;>cases G<;>cases b<;>cases o<;>rfl
theorem vYk {k}(hk:10≤k)(r:qS)(s:qD)(c:tv):∃e,tz k r s.st c=some e∧
  (e=0→((10≤c.2.1∧c.2.1≤14∧c.1= -1)∨(1≤c.2.1∧c.2.1≤9∧0≤c.1∧c.1<r.1))∧(s.ov=true→c.2.1=9)):=by
 obtain⟨b,hb⟩:=vQh hk r s c
 refine⟨_,hb,fun e=>?_⟩
 have:=vYy e
 grind
theorem vTl r s who f:(j9 r s who f).2.t=s.t∧(j9 r s who f).2.ov=s.ov∧(j9 r s who f).2.to=s.to:=by
 unfold j9
 cases decide (f.1=5) with
 |true=>
  cases !((decide (f.2.1≥0)&&decide (f.2.1≤r.1-1))&& !decide (f.2.1=who))<;>cases !(decide (f.2.2.1≥-1)&&decide (f.2.2.1≤1152921504606846976))<;>exact⟨rfl,rfl,rfl⟩
 |false=>
  cases decide (f.1=6) with
  |true=>cases !(decide (f.2.1≥-1)&&decide (f.2.1≤1152921504606846976))<;>exact⟨rfl,rfl,rfl⟩
  |false=>cases !(decide (f.2.1≥0)&&decide (f.2.1≤1152921504606846976))<;>exact⟨rfl,rfl,rfl⟩
theorem vRx r s who a n:(ka r s who a n).2.t=s.t∧(ka r s who a n).2.ov=s.ov∧(ka r s who a n).2.to=s.to:=by
 unfold ka
 cases !(decide (a≥0)&&decide (a≤(r.2.1.length:Int)-1)) with
 |true=>simp
 |false=>
 cases !(decide (n≥0)&&decide (n≤1099511627776)) with
 |true=>simp
 |false=>
 unfold EF
 grind
theorem vZ9 r s a p:(ke r s a p).2.t=s.t∧(ke r s a p).2.ov=s.ov∧(ke r s a p).2.to=s.to:=by
 unfold ke
 cases !(decide (a≥0)&&decide (a≤(r.2.1.length:Int)-1)) with
 |true=>simp
 |false=>
 cases !(decide (p≥0)&&decide (p≤1048576)) with
 |true=>simp
 |false=>
 unfold EZ
 grind
theorem vK0 {r s kd to n}:(kb r s kd to n).2.ov=s.ov:=by
 unfold kb
 cases !(decide (to≥0)&&decide (to≤r.1-1)) with
 |true=>rfl
 |false=>
 cases !(decide (n≥1)&&decide (n≤1099511627776)) with
 |true=>rfl
 |false=>
 cases decide (kd=11) with
 |true=>
  unfold Jh
  cases decide ((s.B.1.getD to.toNat ad).1+(s.B.1.getD to.toNat ad).2.1-(s.B.1.getD to.toNat ad).2.2<n)<;>cases decide (s.to-n<0)<;>cases decide ((jE (s.B.1.getD to.toNat ad) (-n)).2=0)<;>cases decide (s.to-n>1152921504606846976)<;>rfl
 |false=>
  unfold Ji
  cases decide ((jE (s.B.1.getD to.toNat ad) n).2=0)<;>cases decide (s.to+n>1152921504606846976)<;>rfl
theorem vQg {r s who f}:(j8 r s who f).2.2.length≤1:=by
 unfold j8
 grind
def Kd (o:List yA):Prop:=∀x∈o,x.2.1≠16∧x.2.1≠23
theorem wh:Kd []:=fun x h=>by grind
theorem VH {x}(h:x.2.1≠16∧x.2.1≠23):Kd [x]:=fun y hy=>by simp_all
theorem Kd.append {a b}(h:Kd a)(g:Kd b):Kd (a++b):=fun x hx=>(List.mem_append.1 hx).elim (h x) (g x)
theorem VI:∀d:List zF,Kd (vD d)
 |[]=>wh
 | p :: d => (show Kd [eY p.2.1 p,eY p.2.2.1 p] from fun x hx=>by
   rcases List.mem_cons.1 hx with rfl|hx
   ·exact⟨by nofun,by nofun⟩
   ·rw[List.mem_singleton.1 hx];exact⟨by nofun,by nofun⟩).append (VI d)
theorem vBw {kd}(hk:kd=21∨kd=22)(l:List zF):Kd (l.map (vV kd)):=fun x hx=>by
 obtain⟨p,_,rfl⟩:=List.mem_map.1 hx
 show kd≠16∧kd≠23
 omega
theorem VJ {r s who f}:Kd (j8 r s who f).2.2:=by
 unfold j8
 cases vP s.m f.2.1 with
 |none=>exact wh
 |some x=>
  simp only[]
  cases !decide ((s.m.getD x pd).2.1=who) with
  |true=>exact wh
  |false=>
  cases decide (f.1=2) with
  |true=>exact VH ⟨by nofun,by nofun⟩
  |false=>
  cases decide (f.1=4) with
  |true=>
   cases !(decide (f.2.2.1≥1)&&decide (f.2.2.1≤3))<;>cases !decide (oU r.2.2.1 r.2.2.2.1 s.t f.2.2.1=0)<;>exact wh
  |false=>
  cases decide (f.2.2.1=0)<;>cases decide (f.2.2.1=1)<;>exact wh
def mT (o:List yA):Prop:=∀x∈o,x.2.1≠16
theorem Kd.ne {o}(h:Kd o):mT o:=fun x hx=>(h x hx).1
theorem mT.append {a b}(h:mT a)(g:mT b):mT (a++b):=fun x hx=>(List.mem_append.1 hx).elim (h x) (g x)
theorem vHp B n:mT (ic B n):=fun x hx=>by
 obtain⟨i,_,rfl⟩:=List.mem_map.1 hx
 nofun
theorem vO1 {r:qS}{s:qD}{who:Int}{f:jM}(h:(ie r s who f).1=0):∀x∈(ie r s who f).2.2,x∈s.ids∨x=f.2.1:=by
 unfold ie at h⊢
 cases h1:decide (f.2.2.1≥0)&&decide (f.2.2.1≤r.1-1) with
 |false=>exact fun _ h=>.inl h
 |true=>
 cases h2:decide (f.2.2.2.2.1≥1)&&decide (f.2.2.2.2.1≤3) with
 |false=>exact fun _ h=>.inl h
 |true=>
 cases decide (mc r s.t (fz who f)=0) with
 |false=>exact fun _ h=>.inl h
 |true=>
 cases decide (f.2.1∈s.ids) with
 |true=>exact fun _ h=>.inl h
 |false=>
 cases decide (200≤s.ids.length) with
 |true=>exact fun _ h=>.inl h
 |false=>
 cases(vP s.m f.2.1).isSome with
 |true=>exact fun _ h=>.inl h
 |false=>
 cases decide (40≤s.m.length) with
 |true=>exact fun _ h=>.inl h
 |false=>
  intro x hx
  have hx:x∈oP s.ids f.2.1:=hx
  unfold oP at hx
  have e:=List.takeWhile_append_dropWhile (p:=fun x=>decide (x<f.2.1)) (l:=s.ids)
  rcases List.mem_append.1 hx with hx|hx
  ·exact .inl (e▸List.mem_append_left _ hx)
  ·rcases List.mem_cons.1 hx with hx|hx
   ·exact .inr hx
   ·exact .inl (e▸List.mem_append_right _ hx)
theorem VK (r:qS)(s:qD)(who:Int)(f:jM):(j9 r s who f).2.ids=s.ids:=by
 unfold j9
 cases decide (f.1=5) with
 |true=>cases !((decide (f.2.1≥0)&&decide (f.2.1≤r.1-1))&& !decide (f.2.1=who))<;>cases !(decide (f.2.2.1≥-1)&&decide (f.2.2.1≤1152921504606846976))<;>rfl
 |false=>
  cases decide (f.1=6) with
  |true=>cases !(decide (f.2.1≥-1)&&decide (f.2.1≤1152921504606846976))<;>rfl
  |false=>cases !(decide (f.2.1≥0)&&decide (f.2.1≤1152921504606846976))<;>rfl
theorem VL (r:qS)(s:qD)(who a n:Int):(ka r s who a n).2.ids=s.ids:=by
 unfold ka
 cases !(decide (a≥0)&&decide (a≤(r.2.1.length:Int)-1)) with
 |true=>rfl
 |false=>
 cases !(decide (n≥0)&&decide (n≤1099511627776)) with
 |true=>rfl
 |false=>
 simp only[ak]
 unfold EF
 generalize (s.ho.getD who.toNat []).set a.toNat n=h
 cases decide (lZ r.2.1 s.pr h>1152921504606846976) with
 |true=>rfl
 |false=>cases decide (lZ r.2.1 s.pr h<(s.B.1.getD who.toNat ad).2.1)&&decide ((s.B.1.getD who.toNat ad).1+lZ r.2.1 s.pr h<0)<;>rfl
theorem vMv (r:qS)(s:qD)(a p:Int):(ke r s a p).2.ids=s.ids:=by
 unfold ke
 cases !(decide (a≥0)&&decide (a≤(r.2.1.length:Int)-1)) with
 |true=>rfl
 |false=>
 cases !(decide (p≥0)&&decide (p≤1048576)) with
 |true=>rfl
 |false=>
 simp only[ak]
 unfold EZ
 cases qI (fun j=> !decide (fB r.2.1 (s.pr.set a.toNat p) s.ho j>1152921504606846976)) s.B.1.length 0<;>rfl
def VM (m:jM)(i:Nat):Int:=[m.2.1,m.2.2.1,m.2.2.2.1,m.2.2.2.2.1,m.2.2.2.2.2.1,m.2.2.2.2.2.2].getD i 0
theorem vL3 (x:Int)(m:jM){n:Nat}(hn:n≤6):Ft 1000 1000 x n m=some (bif qI (fun j=>decide (VM m j=0)) (6-n) n then .inl x else .inr false):=
 Tg (L := fun n i => Ft 1000 n x i m) (N := 6) (fun j => decide (VM m j = 0)) (.inl x) (.inr false) (fun n => rfl) (fun n i hi=>by
  show VN 1000 (Ft 1000 n) x i m=_
  have:i=0∨i=1∨i=2∨i=3∨i=4∨i=5:=by omega
  rcases this with rfl|rfl|rfl|rfl|rfl|rfl
  ·show(bif !(decide (m.2.1=0)) then _ else _)=bif decide (m.2.1=0) then _ else _
   cases decide (m.2.1=0)<;>rfl
  ·show(bif !(decide (m.2.2.1=0)) then _ else _)=bif decide (m.2.2.1=0) then _ else _
   cases decide (m.2.2.1=0)<;>rfl
  ·show(bif !(decide (m.2.2.2.1=0)) then _ else _)=bif decide (m.2.2.2.1=0) then _ else _
   cases decide (m.2.2.2.1=0)<;>rfl
  ·show(bif !(decide (m.2.2.2.2.1=0)) then _ else _)=bif decide (m.2.2.2.2.1=0) then _ else _
   cases decide (m.2.2.2.2.1=0)<;>rfl
  ·show(bif !(decide (m.2.2.2.2.2.1=0)) then _ else _)=bif decide (m.2.2.2.2.2.1=0) then _ else _
   cases decide (m.2.2.2.2.2.1=0)<;>rfl
  ·show(bif !(decide (m.2.2.2.2.2.2=0)) then _ else _)=bif decide (m.2.2.2.2.2.2=0) then _ else _
   cases decide (m.2.2.2.2.2.2=0)<;>rfl) (6-n) n 1000 (by omega) (by omega)
theorem mf (m:jM)(n:Nat)(hn:n≤6)(h1:tw 1000 m.1=some (n:Int))(h2:AB 1000 m.1=some (n:Int)):AE 1000 m=qy 1000 m:=by
 unfold AE qy
 rw[h1,h2]
 have e1:wN false (n:Int) 0=(n:Int):=by
  unfold wN
  rw[ak,ab (show¬(0:Int)>(n:Int) by omega)]
  rfl
 simp only[af]
 rw[e1,vL3 _ m hn,ab (show¬(n:Int)<0 by omega),aa (show(0:Int)≤n by omega),aa (show(n:Int)≤6 by omega),ao]
 simp only[ak,Bool.and_self,aj,af]
 have hl:(qW [m.2.1,m.2.2.1,m.2.2.2.1,m.2.2.2.2.1,m.2.2.2.2.2.1,m.2.2.2.2.2.2] n (6-n)).length=6-n:=by
  unfold qW
  rw[List.length_take,List.length_drop]
  simp
 have := lg (L := fun k i => tx 1000 k (qW [m.2.1, m.2.2.1, m.2.2.2.1, m.2.2.2.2.1, m.2.2.2.2.2.1, m.2.2.2.2.2.2] n (6 - n)) ((6 - n : Nat) : Int) i) (N := 6 - n) (fun j => decide ((qW [m.2.1, m.2.2.1, m.2.2.2.1, m.2.2.2.2.1, m.2.2.2.2.2.1, m.2.2.2.2.2.2] n (6 - n)).getD j 0 = 0)) (.inl ()) (.inr false) (fun k=>by
  show wg 1000 (tx 1000 k) _ _ _=_
  unfold wg
  rw [ab (Int.lt_irrefl _)]; rfl) (fun k i hi=>by
  show wg 1000 (tx 1000 k) _ _ _=_
  unfold wg
  rw[aa (show(i:Int)<((6-n:Nat):Int) by omega),qH,hl,aa hi,ao,qJ hi (by omega)]
  cases decide ((qW [m.2.1,m.2.2.1,m.2.2.2.1,m.2.2.2.2.1,m.2.2.2.2.2.1,m.2.2.2.2.2.2] n (6-n)).getD i 0=0)<;>rfl) (n:=1000) (by omega)
 have h':tx 1000 1000 (qW [m.2.1,m.2.2.1,m.2.2.2.1,m.2.2.2.2.1,m.2.2.2.2.2.1,m.2.2.2.2.2.2] n (6-n)) ((6-n:Nat):Int) 0=_:=this
 rw[hl,h']
 have ea:qI (fun j=>decide (VM m j=0)) (6-n) n=qI (fun j=>decide ((qW [m.2.1,m.2.2.1,m.2.2.2.1,m.2.2.2.2.1,m.2.2.2.2.2.1,m.2.2.2.2.2.2] n (6-n)).getD j 0=0)) (6-n) 0:=by
  have:n=0∨n=1∨n=2∨n=3∨n=4∨n=5∨n=6:=by omega
  rcases this with rfl|rfl|rfl|rfl|rfl|rfl|rfl<;>rfl
 rw[ea]
 cases qI (fun j=>decide ((qW [m.2.1,m.2.2.1,m.2.2.2.1,m.2.2.2.2.1,m.2.2.2.2.2.1,m.2.2.2.2.2.2] n (6-n)).getD j 0=0)) (6-n) 0 with
 |false=>rfl
 |true=>
  simp only[aj,af]
  rw[aa (show(n:Int)≥0 by omega)]
theorem VO (kd a b c d e f:Int)(h:1≤kd∧kd≤14):AE 1000 (kd,a,b,c,d,e,f)=qy 1000 (kd,a,b,c,d,e,f):=by
 have:kd=1∨kd=2∨kd=3∨kd=4∨kd=5∨kd=6∨kd=7∨kd=8∨kd=9∨kd=10∨kd=11∨kd=12∨kd=13∨kd=14:=by omega
 rcases this with rfl|rfl|rfl|rfl|rfl|rfl|rfl|rfl|rfl|rfl|rfl|rfl|rfl|rfl
 ·exact mf _ 6 (by decide) rfl rfl
 ·exact mf _ 1 (by decide) rfl rfl
 ·exact mf _ 2 (by decide) rfl rfl
 ·exact mf _ 2 (by decide) rfl rfl
 ·exact mf _ 2 (by decide) rfl rfl
 ·exact mf _ 1 (by decide) rfl rfl
 ·exact mf _ 1 (by decide) rfl rfl
 ·exact mf _ 2 (by decide) rfl rfl
 ·exact mf _ 0 (by decide) rfl rfl
 ·exact mf _ 2 (by decide) rfl rfl
 ·exact mf _ 2 (by decide) rfl rfl
 ·exact mf _ 2 (by decide) rfl rfl
 ·exact mf _ 0 (by decide) rfl rfl
 ·exact mf _ 0 (by decide) rfl rfl
theorem vHz (r:qS)(s:qD)(c:tv){X:Type}(bad:Int→X)(Q:X):∃e,tz 1000 r s.st c=some e∧
  (e=0→((10≤c.2.1∧c.2.1≤14∧c.1= -1)∨(1≤c.2.1∧c.2.1≤9∧0≤c.1∧c.1<r.1))∧(s.ov=true→c.2.1=9))∧
  ((AF 1000 r c).bind fun x0=>some (bif !x0 then bad 5 else bif s.ov then(bif !(decide (c.2.1=9)) then bad 7 else Q) else Q))=some (bif decide (e=0) then Q else bad e):=by
 obtain⟨e,he,hm⟩:=vYk (k:=1000) (by decide) r s c
 refine⟨e,he,hm,?_⟩
 have hA:NN 1000 c.2.1=some (decide (c.2.1≥1)&&decide (c.2.1≤14)):=by
  unfold NN;cases decide (c.2.1≥1)<;>rfl
 have hH:NO 1000 c.2.1=some (decide (c.2.1≥10)&&decide (c.2.1≤14)):=by
  unfold NO;cases decide (c.2.1≥10)<;>rfl
 by_cases hk:1≤c.2.1∧c.2.1≤14
 ·obtain⟨b,hb⟩:=VE (k:=1000) (by decide) c.2
  have bz:AE 1000 c.2=some b:=(VO _ _ _ _ _ _ _ hk).trans hb
  have eo:s.st.2.2.2.2.2.2.2.2.2.2=s.ov:=rfl
  unfold tz at he
  rw[VF,VG,hb,eo] at he
  simp only[af] at he
  unfold AF
  rw[hA,hH,bz]
  simp only[af]
  clear hm hA hH hb bz
  generalize decide (c.1≥0)=A at he⊢
  generalize decide (c.2.1≥10)=B at he⊢
  generalize decide (c.2.1≤14)=C at he⊢
  generalize decide (c.2.1≥1)=D at he⊢
  generalize decide (c.1= -1)=E at he⊢
  generalize decide (c.1<r.1)=F at he⊢
  generalize decide (c.2.1=9)=G at he⊢
  generalize s.ov=o at he⊢
  cases A<;>cases B<;>cases C<;>cases D<;>cases E<;>cases F<;>cases G<;>cases b<;>cases o<;>(cases he;rfl)
 ·have g:(decide (c.2.1≥1)&&decide (c.2.1≤14))=false:=by
   by_cases a:c.2.1≥1
   ·rw[aa a,ab (fun b=>hk ⟨a,b⟩)];rfl
   ·rw[ab a];rfl
  have e5:e=5:=by
   unfold tz at he
   rw[VF,VG,g] at he
   simp only[af] at he
   cases hd:decide (c.1≥0)<;>rw[hd] at he<;>(cases he;rfl)
  subst e5
  unfold AF
  rw[hA,g]
  rfl
structure Dlt (r:qS) (s:qD) (f:jM) (t:qD) (l:List yA):Prop where
 inv:yE r t
 ov:t.ov=s.ov
 few:l.length≤2
 kd:Kd l
 ids:∀x∈t.ids,x∈s.ids∨x=f.2.1
structure AG (r:qS) (s:qD) (f:jM) (t:qD) (o:List yA) (e:Int):Prop where
 inv:yE r t
 bad:e≠0→t=s∧o=[]
 ne:mT o
 few:o.length≤200
 ids:∀x∈t.ids,x∈s.ids∨x=f.2.1
theorem AG.none {r:qS}{s:qD}{f:jM}(h:yE r s)(e:Int):AG r s f s [] e:=⟨h,fun _=>⟨rfl,rfl⟩,fun x hx=>absurd hx List.not_mem_nil,Nat.zero_le _,fun _ h=>.inl h⟩
theorem kn (who a:Int)(kd:Int)(h:kd≠16∧kd≠23):Kd [me who kd a]:=VH h
structure Fu (r:qS) (s:qD) (who:Int) (f:jM) (t:qD) (l l':List yA) (paid:Int):Prop where
 dealt:Dlt r s f t l
 told:l=(if who= -1 then l' else me who 15 0::l')
 paid:paid=if f.1=1 then f.2.1 else 0
 pos:f.1=1→0<f.2.1
theorem VP {r:qS}{s:qD}{who:Int}{f:jM}(h:(ie r s who f).1=0):0<f.2.1:=by
 unfold ie at h
 cases h1:decide (f.2.2.1≥0)&&decide (f.2.2.1≤r.1-1) with
 |false=>rw[h1] at h;cases h
 |true=>
 cases h2:decide (f.2.2.2.2.1≥1)&&decide (f.2.2.2.2.1≤3) with
 |false=>rw[h1,h2] at h;cases h
 |true=>
 rw[h1,h2] at h
 simp only[aA,ak] at h
 by_cases hc:mc r s.t (fz who f)=0
 ·unfold mc at hc
  cases hb:j7 r.1 s.t (fz who f) with
  |false=>rw[hb] at hc;cases hc
  |true=>
   unfold j7 at hb
   simp only[aV,aP] at hb
   have:(fz who f).1≥1:=hb.2.2.1
   have e:(fz who f).1=f.2.1:=rfl
   omega
 ·rw[ab hc] at h
  exact absurd h hc
theorem vN9 {r:qS}(hr:jU r){s:qD}(h:yE r s)(ho:s.ov=false){who:Int}(hw:0≤who∧who<r.1){f:jM}(hf:1≤f.1∧f.1≤8):
  ∃e d d',NP 1000 (dk r s who [me who 15 0]) f=some (e,d)∧wi 1000 (rk r s who) f=some (e,d')∧(e=0→∃t l l' paid,d=dk r t who l∧d'=qQ r t who l' paid∧Fu r s who f t l l' paid):=by
 unfold NP wi
 have pX:¬who= -1:=by omega
 have kn:=kn who 0 15 (by decide)
 by_cases h1:f.1=1
 ·rw[aa h1]
  obtain⟨d,e1,e2⟩:=vKo (k:=1000) (by decide) hr h.waits who [me who 15 0] f
  obtain⟨d',q1,q2⟩:=vH2 (k:=1000) (by decide) hr h.waits who f
  simp only[aj]
  rw[e1,q1]
  exact⟨_,d,d',rfl,rfl,fun e=>⟨_,_,_,_,e2 e,q2 e,⟨h.queue ho (vDn hr h e),rfl,by simp,kn,vO1 e⟩,(if_neg pX).symm,(if_pos h1).symm,fun _=>VP e⟩⟩
 rw[ab h1]
 by_cases hq:f.1=2∨f.1=3∨f.1=4
 ·obtain⟨d,e1,e2⟩:=vEt (k:=1000) (by decide) h.waits who (l:=[me who 15 0]) (by simp) f
  obtain⟨d',q1,q2⟩:=vV3 (k:=1000) (by decide) (r:=r) h.waits who f hq
  have g:∃e d d',(zu 1000 (dk r s who [me who 15 0]) f).bind (fun x=>some (x.1,x.2))=some (e,d)∧(Ax 1000 (rk r s who) f.1 f.2).bind (fun x=>some (x.1,x.2))=some (e,d')∧(e=0→∃t l l' paid,d=dk r t who l∧d'=qQ r t who l' paid∧Fu r s who f t l l' paid):=by
   rw[e1,q1]
   refine⟨_,d,d',rfl,rfl,fun e=>⟨_,_,_,_,e2 e,q2 e,⟨h.queue ho (Vq h e),rfl,?_,kn.append VJ,fun _ h=>.inl h⟩,?_,(if_neg h1).symm,fun e'=>absurd e' h1⟩⟩
   ·have:=vQg (r:=r) (s:=s) (who:=who) (f:=f)
    rw[List.length_append]
    simp
    omega
   ·rw[if_neg pX];rfl
  rcases hq with e|e|e
  ·rw[aa e];exact g
  ·rw[ab (show¬f.1=2 by omega),aa e];exact g
  ·rw[ab (show¬f.1=2 by omega),ab (show¬f.1=3 by omega),aa e];exact g
 rw[ab (show¬f.1=2 by omega),ab (show¬f.1=3 by omega),ab (show¬f.1=4 by omega)]
 by_cases hq:f.1=5∨f.1=6∨f.1=7
 ·obtain⟨d,e1,e2⟩:=vMu (k:=1000) (by decide) hr h.bk h.n hw [me who 15 0] f
  obtain⟨d',q1,q2⟩:=vQe (k:=1000) (by decide) hr h.bk h.n hw f
  have g:∃e d d',(zv 1000 (dk r s who [me who 15 0]) f).bind (fun x=>some (x.1,x.2))=some (e,d)∧(Ay 1000 (rk r s who) f.1 f.2).bind (fun x=>some (x.1,x.2))=some (e,d')∧(e=0→∃t l l' paid,d=dk r t who l∧d'=qQ r t who l' paid∧Fu r s who f t l l' paid):=by
   rw[e1,q1]
   have bV:=vTl r s who f
   exact⟨_,d,d',rfl,rfl,fun e=>⟨_,_,_,_,e2 e,q2 e,⟨vGi h hw e,bV.2.1,by simp,kn,by rw[VK];exact fun _ h=>.inl h⟩,(if_neg pX).symm,(if_neg h1).symm,fun e'=>absurd e' h1⟩⟩
  rcases hq with e|e|e
  ·rw[aa e];exact g
  ·rw[ab (show¬f.1=5 by omega),aa e];exact g
  ·rw[ab (show¬f.1=5 by omega),ab (show¬f.1=6 by omega),aa e];exact g
 rw[ab (show¬f.1=5 by omega),ab (show¬f.1=6 by omega),ab (show¬f.1=7 by omega),aa (show f.1=8 by omega)]
 obtain⟨d,e1,e2⟩:=vSj (k:=1000) (by decide) hr h hw [me who 15 0] f.2.1 f.2.2.1
 obtain⟨d',q1,q2⟩:=vEb hr h hw f.2.1 f.2.2.1
 simp only[aj,ak]
 rw[e1,q1]
 have bV:=vRx r s who f.2.1 f.2.2.1
 exact⟨_,d,d',rfl,rfl,fun e=>⟨_,_,_,_,e2 e,q2 e,⟨vMa hr h hw e,bV.2.1,by simp,kn,by rw[VL];exact fun _ h=>.inl h⟩,(if_neg pX).symm,(if_neg h1).symm,fun e'=>absurd e' h1⟩⟩
theorem vE4 {r:qS}(hr:jU r){s:qD}(h:yE r s){f:jM}(hf:10≤f.1∧f.1≤13):
  ∃e d d',Fv 1000 (fV r s (-1)) f=some (e,d)∧wi 1000 (rk r s (-1)) f=some (e,d')∧(e=0→∃t l l' paid,d=dk r t (-1) l∧d'=qQ r t (-1) l' paid∧Fu r s (-1) f t l l' paid):=by
 unfold Fv wi
 have h1:¬f.1=1:=by omega
 rw[ab h1,ab (show¬f.1=2 by omega),ab (show¬f.1=3 by omega),ab (show¬f.1=4 by omega),ab (show¬f.1=5 by omega),ab (show¬f.1=6 by omega),ab (show¬f.1=7 by omega),ab (show¬f.1=8 by omega)]
 by_cases hq:f.1=10∨f.1=11
 ·obtain⟨d,e1,e2⟩:=vOn (k:=1000) (by decide) hr h (-1) f.1 f.2.1 f.2.2.1
  obtain⟨d',q1,q2⟩:=vOs hr h (-1) f.1 f.2.1 f.2.2.1 hq
  have g:∃e d d',(EV 1000 (fV r s (-1)) f.1 f.2.1 f.2.2.1).bind (fun x=>some (x.1,x.2))=some (e,d)∧(E4 1000 (rk r s (-1)) (decide (f.1=10)) f.2.1 f.2.2.1).bind (fun x=>some (x.1,x.2))=some (e,d')∧(e=0→∃t l l' paid,d=dk r t (-1) l∧d'=qQ r t (-1) l' paid∧Fu r s (-1) f t l l' paid):=by
   rw[e1,q1]
   refine⟨_,d,d',rfl,rfl,fun e=>?_⟩
   obtain⟨g1,g2,g3,g4,g5⟩:=vIf h e
   exact⟨_,_,_,_,e2 e,q2 e,⟨g1,vK0,by simp,wh,by rw[g4];exact fun _ h=>.inl h⟩,rfl,(if_neg h1).symm,fun e'=>absurd e' h1⟩
  rcases hq with e|e
  ·have e1:decide (f.1=10)=true:=aa e
   rw[e1] at g⊢
   exact g
  ·have e1:decide (f.1=10)=false:=ab (by omega)
   rw[e1] at g⊢
   rw[aa e];exact g
 rw[ab (show¬f.1=10 by omega),ab (show¬f.1=11 by omega)]
 by_cases hp:f.1=12
 ·rw[aa hp]
  obtain⟨d,e1,e2⟩:=vI3 (k:=1000) (by decide) hr h (-1) f.2.1 f.2.2.1
  obtain⟨d',q1,q2⟩:=vVx hr h (-1) f.2.1 f.2.2.1
  simp only[aj,ak]
  rw[e1,q1]
  have bV:=vZ9 r s f.2.1 f.2.2.1
  exact⟨_,d,d',rfl,rfl,fun e=>⟨_,_,_,_,e2 e,q2 e,⟨vK9 h e,bV.2.1,by simp,wh,by rw[vMv];exact fun _ h=>.inl h⟩,rfl,(if_neg h1).symm,fun e'=>absurd e' h1⟩⟩
 ·rw[ab hp]
  exact⟨_,_,_,rfl,rfl,fun _=>⟨s,[],[],0,rfl,rfl,⟨h,rfl,by simp,wh,fun _ h=>.inl h⟩,rfl,(if_neg h1).symm,fun e'=>absurd e' h1⟩⟩
def NQ (who kd:Int)(x4:Int×Vs):Option (qu×List yA×Int):=
  bif !(decide (who = (-1))) then ((jS 1000 15 []).bind fun x5=>
   (mS 1000 x4.2.2.2.2.2.2.1 x4.2.2.2.2.2.2.2.1 x4.2.2.2.2.2.2.2.2.1 x4.2.2.2.2.2.2.2.2.2.1 x4.2.2.2.2.2.2.2.2.2.2.1 x4.2.2.2.2.2.2.2.2.2.2.2.1 x4.2.2.2.2.2.2.2.2.2.2.2.2.1 x4.2.2.2.2.2.2.2.2.2.2.2.2.2.1 x4.2.2.2.2.2.2.2.2.2.2.2.2.2.2.1 x4.2.2.2.2.2.2.2.2.2.2.2.2.2.2.2.1 x4.2.2.2.2.2.2.2.2.2.2.2.2.2.2.2.2.1 (decide (kd=13))).bind fun x6=>
   bif zO (1 + x4.2.2.2.2.2.2.2.2.2.2.2.2.2.2.2.2.2.2.1.length) 64 then (let y0:List yA:=([(who,x5)]++x4.2.2.2.2.2.2.2.2.2.2.2.2.2.2.2.2.2.2.1)
    bif zO (y0.length + x6.2.2.2.2.2.2.2.2.2.2.2.length) 64 then (bif decide (x4.2.2.2.2.2.2.2.2.2.2.2.2.2.2.2.2.2.2.2 > 0) then ((lY 1000 x6.2.2.2.2.2.2.2.1 x4.2.2.2.2.2.2.2.2.2.2.2.2.2.2.2.2.2.2.2).bind fun x7=>
      bif decide (x7 ≥ 0) then ((jS 1000 19 [x4.2.2.2.2.2.2.2.2.2.2.2.2.2.2.2.2.2.2.2]).bind fun x8=>
       bif zO ((y0 ++ x6.2.2.2.2.2.2.2.2.2.2.2).length + 1) 64 then (let y1:List yA:=((y0++x6.2.2.2.2.2.2.2.2.2.2.2)++[(who,x8)])
        some ((qZ x6),y1,0))
       else none)
      else some ((qZ x6),(y0++x6.2.2.2.2.2.2.2.2.2.2.2),0))
     else some ((qZ x6),(y0++x6.2.2.2.2.2.2.2.2.2.2.2),0))
    else none)
   else none)
  else(mS 1000 x4.2.2.2.2.2.2.1 x4.2.2.2.2.2.2.2.1 x4.2.2.2.2.2.2.2.2.1 x4.2.2.2.2.2.2.2.2.2.1 x4.2.2.2.2.2.2.2.2.2.2.1 x4.2.2.2.2.2.2.2.2.2.2.2.1 x4.2.2.2.2.2.2.2.2.2.2.2.2.1 x4.2.2.2.2.2.2.2.2.2.2.2.2.2.1 x4.2.2.2.2.2.2.2.2.2.2.2.2.2.2.1 x4.2.2.2.2.2.2.2.2.2.2.2.2.2.2.2.1 x4.2.2.2.2.2.2.2.2.2.2.2.2.2.2.2.2.1 (decide (kd=13))).bind fun x9=>
  bif zO x4.2.2.2.2.2.2.2.2.2.2.2.2.2.2.2.2.2.2.1.length 64 then (let y2:List yA:=x4.2.2.2.2.2.2.2.2.2.2.2.2.2.2.2.2.2.2.1
   bif zO (y2.length + x9.2.2.2.2.2.2.2.2.2.2.2.length) 64 then (bif decide (x4.2.2.2.2.2.2.2.2.2.2.2.2.2.2.2.2.2.2.2 > 0) then ((lY 1000 x9.2.2.2.2.2.2.2.1 x4.2.2.2.2.2.2.2.2.2.2.2.2.2.2.2.2.2.2.2).bind fun di=>
     bif decide (di ≥ 0) then ((jS 1000 19 [x4.2.2.2.2.2.2.2.2.2.2.2.2.2.2.2.2.2.2.2]).bind fun fD=>
      bif zO ((y2 ++ x9.2.2.2.2.2.2.2.2.2.2.2).length + 1) 64 then (let y3:List yA:=((y2++x9.2.2.2.2.2.2.2.2.2.2.2)++[(who,fD)])
       some ((qZ x9),y3,0))
      else none)
     else some ((qZ x9),(y2++x9.2.2.2.2.2.2.2.2.2.2.2),0))
    else some ((qZ x9),(y2++x9.2.2.2.2.2.2.2.2.2.2.2),0))
   else none)
  else none
def AH (r:qS)(s:qu)(c:tv):Option (qu×List yA×Int):=
  bif decide (c.2.1 = 9) then (bif zB c.1 s.2.1.length then ((sQ 1000 s.2.2.2.2.2.2.2.1 c.1).bind fun x1=>
    (jS 1000 17 [(s.2.1.getD c.1.toNat (0,0,0)).1,(s.2.1.getD c.1.toNat (0,0,0)).2.1,(s.2.1.getD c.1.toNat (0,0,0)).2.2,(x1.length:Int),s.1]).bind fun x2=>
    some (s,[(c.1,x2)],0))
   else none)
  else bif decide (c.2.1 = 14) then ((Fs 1000 r s).bind fun x3=>
   some (x3.1,x3.2,0))
  else(wi 1000 (wS r (wA s (c.1,0))) c.2).bind fun x4=>
  bif !(decide (x4.1=0)) then some (s,[],x4.1)
  else NQ c.1 c.2.1 x4
theorem vSq (r:qS)(s:qu)(c:tv):Jy 1000 r s c=(AF 1000 r c).bind fun x0=>
  bif !x0 then some (s,[],5) else bif s.2.2.2.2.2.2.2.2.2.2 then(bif !(decide (c.2.1=9)) then some (s,[],7) else AH r s c) else AH r s c:=rfl
theorem yYc {r:qS}(hr:jU r){s t:qD}(ho:s.ov=false){who:Int}{l l':List yA}{f:jM}{paid:Int}(hB:Fu r s who f t l l' paid):
    ∃ u o, ((ta 1000 t.t t.B.1 t.B.2.1 t.B.2.2.1 t.B.2.2.2 t.pr t.ho t.m t.ids t.to t.ov (decide (f.1=13))).bind fun x5=>
      bif zO (l.length + x5.2.2.2.2.2.2.2.2.2.2.2.length) 64 then (let y0:List yA:=(l++x5.2.2.2.2.2.2.2.2.2.2.2)
       bif decide (f.1 = 1) then ((nE 1000 x5.2.2.2.2.2.2.2.1 f.2.1).bind fun x6=>
        bif decide (x6 ≥ 0) then ((vt 1000 (NR ((0:Int),dk r t who l) y0) 19 [f.2.1]).bind fun x7=>
         some ((qZ x5),x7.2.2.2.2.2.2.2.2.2.2.2.2.2.2.2.2.2,(0:Int)))
        else some ((qZ x5),y0,0))
       else some ((qZ x5),y0,0))
      else none)=some (u.st,o,(0:Int))∧NQ who f.1 (0,qQ r t who l' paid)=some (u.st,o,(0:Int))∧yE r u∧mT o∧o.length≤200∧u.ids=t.ids:=by
  have h:=hB.dealt.inv
  have AI:=hB.dealt.ov.trans ho
  have hl:=hB.dealt.few
  have hm:=h.waits.len
  obtain⟨C,m',d,e1,Jo,e3,e4,e5,e6,e7⟩:=vCg h.bk h.waits.dist h.waits.may (by omega) t.t t.pr t.ho t.ids t.to t.ov (decide (f.1=13))
  have hd:d.length≤40:=by
    have:=e6.length_eq
    rw[List.length_append] at this
    omega
  have uI:=e5.length_le
  have B1:=Er d
  have hu:=h.settled AI e3 e4 e5
  have dG:l'.length≤2:=by
    have:=hB.told
    by_cases hw:who= -1
    · rw[if_pos hw] at this;rw[←this];exact hl
    · rw[if_neg hw] at this;rw[this,List.length_cons] at hl;omega
  have key:NQ who f.1 (0,qQ r t who l' paid)=bif decide (paid>0) then(bif decide (jz m' paid≥0) then some ((t.t,C.1,C.2.1,C.2.2.1,C.2.2.2,t.pr,t.ho,m',t.ids,t.to,t.ov),(l++vD d)++[me who 19 paid],(0:Int)) else some ((t.t,C.1,C.2.1,C.2.2.1,C.2.2.2,t.pr,t.ho,m',t.ids,t.to,t.ov),l++vD d,0)) else some ((t.t,C.1,C.2.1,C.2.2.1,C.2.2.2,t.pr,t.ho,m',t.ids,t.to,t.ov),l++vD d,0):=by
    have es:mS 1000 (qQ r t who l' paid).2.2.2.2.2.1 (qQ r t who l' paid).2.2.2.2.2.2.1 (qQ r t who l' paid).2.2.2.2.2.2.2.1 (qQ r t who l' paid).2.2.2.2.2.2.2.2.1 (qQ r t who l' paid).2.2.2.2.2.2.2.2.2.1 (qQ r t who l' paid).2.2.2.2.2.2.2.2.2.2.1 (qQ r t who l' paid).2.2.2.2.2.2.2.2.2.2.2.1 (qQ r t who l' paid).2.2.2.2.2.2.2.2.2.2.2.2.1 (qQ r t who l' paid).2.2.2.2.2.2.2.2.2.2.2.2.2.1 (qQ r t who l' paid).2.2.2.2.2.2.2.2.2.2.2.2.2.2.1 (qQ r t who l' paid).2.2.2.2.2.2.2.2.2.2.2.2.2.2.2.1 (decide (f.1=13))=_:=Jo
    have eo:(qQ r t who l' paid).2.2.2.2.2.2.2.2.2.2.2.2.2.2.2.2.2.1=l':=rfl
    have ep:(qQ r t who l' paid).2.2.2.2.2.2.2.2.2.2.2.2.2.2.2.2.2.2=paid:=rfl
    have ef:lY 1000 m' paid=some (jz m' paid):=ME (by omega) (by omega) paid
    unfold NQ
    simp only[es,eo,ep,Of0,Fm,af]
    have ht:=hB.told
    by_cases hw:who= -1
    · rw[if_pos hw] at ht
      rw[aa hw,qT (n:=l'.length) (by omega) (by omega),qT (n:=l'.length+(vD d).length) (by omega) (by omega),qT (n:=(l'++vD d).length+1) (by rw[List.length_append];omega) (by rw[List.length_append];omega),ht]
      simp only[aA,ak,aj]
      rw[ef]
      rfl
    · rw[if_neg hw] at ht
      have er:[((who,(15,0,0,0,0,0,0)):yA)]++l'=l:=ht.symm
      rw[ab hw,er,qT (n:=1+l'.length) (by omega) (by omega),qT (n:=l.length+(vD d).length) (by omega) (by omega),qT (n:=(l++vD d).length+1) (by rw[List.length_append];omega) (by rw[List.length_append];omega)]
      simp only[bM,aj]
      rw[ef]
      rfl
  rw[e1,key]
  simp only[af]
  rw[qT (n:=l.length+(vD d).length) (by omega) (by omega)]
  simp only[aj]
  have fin:∀(o:List yA) {x:Option (qu×List yA×Int)},o.length≤200→mT o→x=some (({t with B:=C,m:=m'}:qD).st,o,(0:Int))→∃u o',some (({t with B:=C,m:=m'}:qD).st,o,(0:Int))=some (u.st,o',(0:Int))∧x=some (u.st,o',(0:Int))∧yE r u∧mT o'∧o'.length≤200∧u.ids=t.ids:=fun o _ hl hk hx=>⟨{t with B:=C,m:=m'},o,rfl,hx,hu,hk,hl,rfl⟩
  have k1:Kd (l++vD d):=hB.dealt.kd.append (VI _)
  have b1:(l++vD d).length≤199:=by rw[List.length_append];omega
  have b2:∀x:yA,(l++vD d++[x]).length≤200:=fun x=>by rw[List.length_append];simp;rw[List.length_append] at b1;omega
  have hp:=hB.paid
  by_cases h1:f.1=1
  · rw[if_pos h1] at hp
    subst hp
    rw[aa h1,aa (show f.2.1>0 from hB.pos h1)]
    simp only[aj]
    rw[Iu (by omega) (by omega)]
    simp only[af]
    cases decide (jz m' f.2.1≥0) with
    |false=>exact fin _ (by omega) k1.ne rfl
    |true=>
      simp only[aj]
      have ej:NR ((0:Int),dk r t who l) (l++vD d)=dk r t who (l++vD d):=rfl
      rw[ej,yDm (by rw[List.length_append];omega)]
      exact fin _ (b2 _) (k1.append (kn _ _ _ (by decide))).ne rfl
  · rw[if_neg h1] at hp
    subst hp
    rw[ab h1,ab (show¬(0:Int)>0 by decide)]
    exact fin _ (by omega) k1.ne rfl
theorem vTz {r:qS}{s:qD}(h:yE r s){who:Int}(hw:0≤who∧who<r.1)(c:tv)(hc:c.1=who)(h9:c.2.1=9):
  ∃o,Jz 1000 s.st who=some o∧AH r s.st c=some (s.st,o,0)∧o.length≤200∧mT o:=by
 have hm:=h.waits.len
 have hn:=h.n
 have hb:zB who s.B.1.length=true:=fq hw.1 (by omega)
 have e1:s.st.2.1=s.B.1:=rfl
 have e2:s.st.2.2.2.2.2.2.2.1=s.m:=rfl
 unfold Jz AH
 rw[aa h9,hc,e1,e2,hb,yBm (by omega) (by unfold qV;omega),My (by omega) (by unfold qV;omega)]
 simp only[aj,af,Of5]
 exact⟨_,rfl,rfl,by simp,(VH ⟨by simp,by simp⟩).ne⟩
theorem VQ {r:qS}(hr:jU r){s:qD}(h:yE r s)(c:tv):
  ∃t o e,mg 1000 r s.st c=some (t.st,o,e)∧Jy 1000 r s.st c=some (t.st,o,e)∧AG r s c.2 t o e:=by
 obtain⟨e,he,hm,hb⟩:=vHz r s c (fun e=>(some (s.st,[],e):Option (qu×List yA×Int))) (AH r s.st c)
 have hR:Jy 1000 r s.st c=bif decide (e=0) then AH r s.st c else some (s.st,[],e):=by
  rw[vSq]
  have eo:s.st.2.2.2.2.2.2.2.2.2.2=s.ov:=rfl
  rw[eo]
  cases hx:AF 1000 r c with
  |none=>rw[hx] at hb;cases hb
  |some x=>
   rw[hx] at hb
   simp only[af,Option.some.injEq] at hb
   exact hb
 unfold mg
 rw[he,hR]
 simp only[af]
 by_cases h0:e=0
 ·obtain⟨hw,AI⟩:=hm h0
  rw[aa h0]
  simp only[aA,ak,aj]
  by_cases h9:c.2.1=9
  ·have uA:0≤c.1∧c.1<r.1:=by omega
   obtain⟨o,ho,kK,hol,fj⟩:=vTz h uA c rfl h9
   rw[aa h9,kK]
   simp only[aj]
   rw[ho]
   exact⟨s,o,0,rfl,rfl,h,fun e=>absurd rfl e,fj,hol,fun _ h=>.inl h⟩
  ·have ho:s.ov=false:=by
    cases g:s.ov with
    |false=>rfl
    |true=>exact absurd (AI g) h9
   have fin:∀{t:qD} {x y:Option (qu×List yA×Int)},(∀x∈t.ids,x∈s.ids∨x=c.2.2.1)→(∃u o,x=some (u.st,o,(0:Int))∧y=some (u.st,o,(0:Int))∧yE r u∧mT o∧o.length≤200∧u.ids=t.ids)→∃t o e,x=some (t.st,o,e)∧y=some (t.st,o,e)∧AG r s c.2 t o e:=by
    intro t x y hi ⟨u,o,g1,sS,g2,g3,g4,g5⟩
    exact⟨u,o,0,g1,sS,g2,fun e=>absurd rfl e,g3,g4,by rw[g5];exact hi⟩
   unfold AH
   rw[ab h9]
   simp only[ak]
   by_cases hp:c.1= -1
   ·rw[aa hp]
    have hf:10≤c.2.1∧c.2.1≤14:=by omega
    have ed:wS r (wA s.st c.1)=fV r s (-1):=by rw[hp];rfl
    have er:wS r (wA s.st (c.1,0))=rk r s (-1):=by rw[hp];rfl
    simp only[aA,ak]
    rw[ed,er]
    by_cases VR:c.2.1=14
    ·have g0:Fv 1000 (fV r s (-1)) c.2=some (0,dk r s (-1) []):=by
      unfold Fv
      rw[VR]
      rfl
     rw[g0]
     simp only[af]
     rw[aa VR]
     have bd:=h.tk
     have BQ:=hr.cl
     have IZ:=hr.pe
     obtain⟨x,x1,x2⟩:=vEc r h.bk h.waits.dist h.waits.may (by have:=h.waits.len;omega) ⟨by omega,by omega⟩ (by omega) ho
     obtain⟨C,m',ov,o,y1,y2,_,_,y3,y4⟩:=vDx (k:=1000) (by decide) hr h ho
     rw[x1] at y1
     have y1:=Option.some.inj y1
     subst y1
     refine⟨_,o,0,(congrArg (fun z=>Option.bind z _) x1).trans rfl,(congrArg (fun z=>Option.bind z _) x2).trans rfl,y2,fun e=>absurd rfl e,?_,by omega,fun _ h=>.inl h⟩
     rcases y4 with⟨_,_,rfl,_⟩|⟨l,d,n,rfl,_,_,_⟩
     ·exact(vBw (.inr rfl) _).ne.append (vHp _ _)
     ·exact((vBw (.inl rfl) _).append (VI _)).ne
    ·obtain⟨e,d,d',g1,sS,g2⟩:=vE4 hr h (f:=c.2) (by omega)
     rw[g1,ab VR,sS]
     simp only[af,ak]
     by_cases hz:e=0
     ·obtain⟨t,l,l',paid,rfl,rfl,hd⟩:=g2 hz
      rw[aa hz,hp]
      simp only[aA,ak]
      subst hz
      exact fin hd.dealt.ids (yYc hr ho hd)
     ·rw[ab hz]
      exact⟨s,[],e,rfl,rfl,AG.none h e⟩
   ·rw[ab hp,ab (show¬c.2.1=14 by omega)]
    have hf:1≤c.2.1∧c.2.1≤8:=by omega
    have uA:0≤c.1∧c.1<r.1:=by omega
    have ed:NS 1000 (wS r (wA s.st c.1)) 15 []=some (dk r s c.1 [me c.1 15 0]):=rfl
    have er:wS r (wA s.st (c.1,0))=rk r s c.1:=rfl
    obtain⟨e,d,d',g1,sS,g2⟩:=vN9 hr h ho uA (f:=c.2) hf
    simp only[bM,aj,ak]
    rw[ed,er,sS]
    simp only[af]
    rw[g1]
    simp only[af]
    by_cases hz:e=0
    ·obtain⟨t,l,l',paid,rfl,rfl,hd⟩:=g2 hz
     rw[aa hz]
     simp only[aA,ak]
     subst hz
     exact fin hd.dealt.ids (yYc hr ho hd)
    ·rw[ab hz]
     exact⟨s,[],e,rfl,rfl,AG.none h e⟩
 ·rw[ab h0]
  exact⟨s,[],e,rfl,rfl,AG.none h e⟩
def tA (s t:qD):Prop:=∀i,i<s.B.1.length→(t.B.1.getD i ad).1<(s.B.1.getD i ad).1→0≤(t.B.1.getD i ad).1+(t.B.1.getD i ad).2.1
theorem tA.same {s t:qD}(h:∀i,i<s.B.1.length→(t.B.1.getD i ad).1=(s.B.1.getD i ad).1):tA s t:=fun i hi bd=>by rw[h i hi] at bd;omega
theorem tA.refl (s:qD):tA s s:=tA.same fun _ _=>rfl
theorem tA.set {s t:qD}{j:Nat}{a:qR}(h:t.B.1=s.B.1.set j a)(ha:a.1<(s.B.1.getD j ad).1→0≤a.1+a.2.1):tA s t:=fun i hi=>by
 rw[h,jN]
 split
 ·next h=>rw[←h.1];exact ha
 ·omega
structure abW (r:qS) (s:qD) (f:jM) (t:qD) (l:List yA):Prop where
 inv:yE r t
 tk:t.t=s.t
 ov:t.ov=s.ov
 few:l.length≤2
 to:t.to=s.to+(if f.1=10 then f.2.2.1 else if f.1=11 then-f.2.2.1 else 0)
 fell:tA s t
 kd:Kd l
 ids:∀x∈t.ids,x∈s.ids∨x=f.2.1
structure Did (k:Nat) (r:qS) (s:qD) (c:tv) (t:qD) (o:List yA) (e:Int):Prop where
 inv:yE r t
 bad:e≠0→t=s∧o=[]
 to:e=0→t.to=s.to+(if c.2.1=10 then c.2.2.2.1 else if c.2.1=11 then-c.2.2.2.1 else 0)
 still:t=s∨(t.ov=false→fw k t.B (vW t.m t.t)=none)
 fell:tA s t
 ne:mT o
 few:o.length≤100
 ids:∀x∈t.ids,x∈s.ids∨x=c.2.2.1
instance AJ:DecidableEq zF:=fun a b=>inferInstanceAs (Decidable (a=b))
theorem vL6 {k}{a b:List zF}(hk:a.length<k)(hl:a.length<9223372036854775808):JA k a b=some (decide (a=b)):=by
 unfold JA
 by_cases hlen:a.length=b.length
 case neg=>
  have e:decide (((a.length:Nat):Int)=((b.length:Nat):Int))=false:=by grind
  have:a≠b:=by grind
  simp_all
 have e:decide (((a.length:Nat):Int)=((b.length:Nat):Int))=true:=by grind
 have := lg (L := fun n i => JB k n a b i) (N := a.length) (fun i => decide (a.getD i pd = b.getD i pd)) (.inl ()) (.inr false) (fun n=>by
  show Fw k _ a b a.length=_
  unfold Fw
  simp) (fun n i hi=>by
  show Fw k _ a b i=_
  unfold Fw
  have e7:=eq7 (a.getD i pd) (b.getD i pd)
  simp only[qH,qJ hi hl]
  simp_all) hk
 rw[this,HU pd hlen]
 grind
theorem vRr {r s}(hr:jU r)(h:yE r s):JC 1000 s.st s.st=some true:=by
 have hb:wL s.B.1 s.B.2.1 s.B.2.2.1 s.B.2.2.2:=h.bk
 have hZ:=h.bk.n6
 have nA:=h.bk.n1
 have hm:=h.waits.len
 have hi:=h.waits.idl
 have h3:=hr.n3
 have hL:=h.laid 0 (by omega)
 have e1:HX 1000 s.B.1 s.B.2.1 s.B.2.2.1 s.B.2.2.2 s.B.1 s.B.2.1 s.B.2.2.1 s.B.2.2.2=some true:=by
  rw[vH1 (by decide) hb.toSized]
  simp
 have e2:sI 1000 s.pr s.pr=some true:=by rw[L3 (by rw[hL.pl];omega) (by rw[hL.pl];omega),aa rfl]
 have e3:yr 1000 s.ho s.ho=some true:=by
  have hol:=h.hol
  rw [TG (by omega) (by omega) (fun i hi=>by
   have:=(h.laid i (by omega)).hl
   omega),aa rfl]
 have e4:JA 1000 s.m s.m=some true:=by rw[vL6 (by omega) (by omega),aa rfl]
 have e5:sI 1000 s.ids s.ids=some true:=by rw[L3 (by omega) (by omega),aa rfl]
 unfold JC
 have f0:s.st.1=s.t:=rfl
 have f9:s.st.2.2.2.2.2.2.2.2.2.1=s.to:=rfl
 have f10:s.st.2.2.2.2.2.2.2.2.2.2=s.ov:=rfl
 have q:nU s.ov s.ov=true:=by cases s.ov<;>rfl
 rw[f0,f9,f10,aa rfl,aa rfl,q]
 refine(congrArg (fun z=>Option.bind z _) e1).trans ?_
 refine(congrArg (fun z=>Option.bind z _) e2).trans ?_
 refine(congrArg (fun z=>Option.bind z _) e3).trans ?_
 refine(congrArg (fun z=>Option.bind z _) e4).trans ?_
 refine(congrArg (fun z=>Option.bind z _) e5).trans ?_
 rfl
def gK (r:qS):qD where
 t:=0
 B:=(List.replicate r.1.toNat (0,0,0),List.replicate r.1.toNat (List.replicate r.1.toNat (-1)),List.replicate r.1.toNat (-1),List.replicate r.1.toNat (List.replicate r.1.toNat 0))
 pr:=r.2.1.map Prod.fst
 ho:=List.replicate r.1.toNat (List.replicate r.2.1.length 0)
 m:=[]
 ids:=[]
 to:=0
 ov:=false
structure AK (r:qS):Prop where
 ok:jU r
 inv:yE r (gK r)
 new:oV 1000 r=some (gK r).st
 cl:r.2.2.2.1≤20
 abK:oV 20000 r=some (gK r).st
theorem NT n:gJ n [] [] where
 dist:=List.Pairwise.nil
 len:=by decide
 sort:=List.Pairwise.nil
 may:=by simp
 time:=by simp
 were:=by simp
 asc:=List.Pairwise.nil
 pos:=by simp
 idl:=by decide
def r0:qS:=(3,[(100,1000),(7,0)],12,20,4)
def r1:qS:=(4,[(100,1000),(7,0)],12,20,100)
def r2:qS:=(3,[],20,20,4)
def r3:qS:=(3,[(100,1000),(7,0)],0,6,1)
theorem VT {pr h}(h1:pr=[100,7])(h2:h=[0,0]):j4 [(100,1000),(7,0)] pr h:=by
 subst h1;subst h2
 exact⟨by decide,rfl,rfl,by decide,by decide,by decide⟩
theorem NU {B}(h:lW B.1 B.2.1 B.2.2.1 B.2.2.2=true):qU B:=TB.1 h
theorem vWi:AK r0:=⟨⟨by decide,by decide,by decide,by decide,by decide,by decide,by decide⟩,
  { tk:=by decide,bk:=NU (by rfl),n:=rfl,hol:=rfl,
    laid:=fun i hi=>by
      have e:∀i,i<(gK r0).B.1.length→(gK r0).ho.getD i []=[0,0]:=by decide
      exact VT rfl (e i hi)
    cred:=by decide,most:=by decide,waits:=NT _,sum:=by decide,tot:=by decide,over:=by decide,none:=nofun},by rfl,by decide,by rfl⟩
theorem vXv:AK r1:=⟨⟨by decide,by decide,by decide,by decide,by decide,by decide,by decide⟩,
  { tk:=by decide,bk:=NU (by rfl),n:=rfl,hol:=rfl,
    laid:=fun i hi=>by
      have e:∀i,i<(gK r1).B.1.length→(gK r1).ho.getD i []=[0,0]:=by decide
      exact VT rfl (e i hi)
    cred:=by decide,most:=by decide,waits:=NT _,sum:=by decide,tot:=by decide,over:=by decide,none:=nofun},by rfl,by decide,by rfl⟩
theorem vXg:AK r2:=⟨⟨by decide,by decide,by decide,by decide,by decide,by decide,by decide⟩,
  { tk:=by decide,bk:=NU (by rfl),n:=rfl,hol:=rfl,
    laid:=fun i hi=>by
      have e:∀i,i<(gK r2).B.1.length→(gK r2).ho.getD i []=[]:=by decide
      rw[e i hi]
      exact⟨by decide,rfl,rfl,by decide,by decide,by decide⟩
    cred:=by decide,most:=by decide,waits:=NT _,sum:=by decide,tot:=by decide,over:=by decide,none:=nofun},by rfl,by decide,by rfl⟩
theorem VU:AK r3:=⟨⟨by decide,by decide,by decide,by decide,by decide,by decide,by decide⟩,
  { tk:=by decide,bk:=NU (by rfl),n:=rfl,hol:=rfl,
    laid:=fun i hi=>by
      have e:∀i,i<(gK r3).B.1.length→(gK r3).ho.getD i []=[0,0]:=by decide
      exact VT rfl (e i hi)
    cred:=by decide,most:=by decide,waits:=NT _,sum:=by decide,tot:=by decide,over:=by decide,none:=nofun},by rfl,by decide,by rfl⟩
def tB (s c:Int):Int:=wK .u64 (shl .u64 s 8) (IntKind.wrap .u64 c)
def JD (b:AC):Int:=zA (b.foldl tB 0)
def kf:Nat→AC→AC
 |0,_=>[]
 |m+1,b=>JD (b.take 8)::kf m (b.drop 8)
theorem VV:∀(m:Nat) (b:AC),(kf m b).length=m
 |0,_=>rfl
 |m+1,b=>by simp[kf,VV m]
theorem yEz:∀(m:Nat) (b:AC),kf (m+1) b=kf m b++[JD ((b.drop (8*m)).take 8)]
 |0,b=>by simp[kf]
 |m+1,b=>by
  have h:=yEz m (b.drop 8)
  rw[show kf (m+1+1) b=JD (b.take 8)::kf (m+1) (b.drop 8) from rfl,h]
  rw[List.drop_drop,show 8+8*m=8*(m+1) by omega]
  rfl
theorem vA4 {x:AC}{i:Nat}(h:i<x.length)(s:Int):(x.take (i+1)).foldl tB s=tB ((x.take i).foldl tB s) (x.getD i 0):=by
 rw[←ft x i 0 h,List.foldl_append];rfl
theorem VW {k:Nat}(hk:9≤k)(s0 x r0:AC)(hx:x.length=8):Fx k k s0 0 x 8 0 r0=some (s0,x.foldl tB 0,r0):=by
 obtain ⟨s, h1, h2⟩ := yZ (L := fun n i (s : Int) => Fx k n s0 s x 8 i r0) (N := 8) (fun s => (s0, s, r0)) (fun i s => s = (x.take i).foldl tB 0) (fun n s _ => rfl) (fun n i s hi hs=>by
  refine⟨tB s (x.getD i 0),?_,by rw[vA4 (by omega),hs]⟩
  show NV k (Fx k n) s0 s x 8 (i:Int) r0=_
  unfold NV
  rw[aa (show(i:Int)<8 by omega),aj,fq (by omega) (by omega),aj,qJ (N:=8) hi (by omega),ao]
  rfl) (n:=k) (s:=0) (by omega) rfl
 rw[List.take_of_length_le (by omega)] at h2
 subst h2
 exact h1
theorem yLj {k:Nat}(hk:9≤k):∀(m n:Nat) (b r:AC),b.length=8*m→m<n→r.length+m≤17592186044416→Fy k n b r=some (r++kf m b)
 |0,n,b,r,hb,hn,_=>by
  obtain⟨n,rfl⟩:∃x,n=x+1:=⟨n-1,by omega⟩
  show Fz k (Fy k n) b r=_
  unfold Fz
  rw[ab (by omega),ak]
  simp[kf]
 |m+1,n,b,r,hb,hn,hr=>by
  obtain⟨n,rfl⟩:∃x,n=x+1:=⟨n-1,by omega⟩
  show Fz k (Fy k n) b r=_
  unfold Fz
  have ht:(b.take 8).length=8:=by rw[List.length_take];omega
  have e8:((b.take 8).length:Int)=8:=by rw[ht];rfl
  rw[aa (show(b.length:Int)>0 by omega),aj,aa (show(8:Int)≤(b.length:Int) by omega),aj,e8,VW hk _ _ _ ht,af]
  dsimp only
  rw[qT (by omega) (by omega),aj,aa (show(8:Int)≤(b.length:Int) by omega),aj]
  rw[yLj hk m n _ _ (by rw[List.length_drop];omega) (by omega) (by simp;omega)]
  show some ((r++[zA _])++kf m (b.drop 8))=_
  rw[List.append_assoc]
  rfl
theorem yXd (n:Nat):Int.tmod (n:Int) 8=((n%8:Nat):Int):=rfl
def kz (b:AC):AC×Int:=if b.length%8=0 then(kf (b.length/8) b,0) else([],2)
theorem vHr {k:Nat}{b:AC}(hk:9≤k)(hb:b.length<8*k)(bz:b.length≤140737488355328):tC k b=some (kz b):=by
 unfold tC kz
 rw[yXd]
 by_cases h:b.length%8=0
 ·rw[if_pos h,aa (by omega),yLj hk (b.length/8) k b [] (by omega) (by omega) (by simp;omega)]
  rfl
 ·rw[if_neg h,ab (by omega)]
  rfl
theorem vHq {k:Nat}(hk:9≤k)(x:AC)(hx:x.length=8):NW k x=some (JD x):=by
 unfold NW
 obtain ⟨s, h1, h2⟩ := yZ (L := fun n i (s : Int) => JE k n x s i) (N := 8) (fun s => s) (fun i s => s = (x.take i).foldl tB 0) (fun n s _ => rfl) (fun n i s hi hs=>by
  refine⟨tB s (x.getD i 0),?_,by rw[vA4 (by omega),hs]⟩
  show NX k (JE k n) x s (i:Int)=_
  unfold NX
  rw[aa (show(i:Int)<8 by omega),aj,fq (by omega) (by omega),aj,qJ (N:=8) hi (by omega),ao]
  rfl) (n:=k) (s:=0) (by omega) rfl
 rw[List.take_of_length_le (by omega)] at h2
 subst h2
 rw[h1]
 rfl
theorem yGa {k:Nat}(hk:9≤k)(b:AC)(M:Nat)(hM:b.length=8*M)(hb:M≤17592186044416):∀(m n j:Nat),j+m=M→m<n→AL k n b ((8*j:Nat):Int) (kf j b)=some (kf M b)
 |0,n,j,hj,hn=>by
  obtain⟨n,rfl⟩:∃x,n=x+1:=⟨n-1,by omega⟩
  show FA k (AL k n) b _ _=_
  unfold FA
  rw[ab (by omega),ak,show j=M by omega]
 |m+1,n,j,hj,hn=>by
  obtain⟨n,rfl⟩:∃x,n=x+1:=⟨n-1,by omega⟩
  show FA k (AL k n) b _ _=_
  unfold FA
  have ew:zA (((8*j:Nat):Int)+8)=((8*(j+1):Nat):Int):=by rw[zR (by omega) (by omega)];omega
  rw[ew,aa (show((8*j:Nat):Int)<(b.length:Int) by omega),aj,aa (show(0:Int)≤((8*j:Nat):Int) by omega),aa (show((8*j:Nat):Int)≤((8*(j+1):Nat):Int) by omega),
   aa (show((8*(j+1):Nat):Int)≤(b.length:Int) by omega),ao,ao,show 8*(j+1)-8*j=8 by omega]
  have hl:(qW b (8*j) 8).length=8:=by simp[qW];omega
  rw[show(true&&true&&true)=true from rfl,aj,vHq hk _ hl,af]
  rw[qT (by rw[VV];omega) (by rw[VV];omega),aj]
  rw[show kf j b++[JD (qW b (8*j) 8)]=kf (j+1) b from(yEz j b).symm]
  exact yGa hk b M hM hb m n (j+1) (by omega) (by omega)
theorem VX {k:Nat}{b:AC}(hk:9≤k)(hb:b.length<8*k)(bz:b.length≤140737488355328):NY k b=some (kz b):=by
 unfold NY kz
 rw[yXd]
 by_cases h:b.length%8=0
 ·rw[if_pos h,aa (by omega)]
  have:=yGa hk b (b.length/8) (by omega) (by omega) (b.length/8) k 0 (by omega) (by omega)
  show(AL k k b ((8*0:Nat):Int) (kf 0 b)).bind _=_
  rw[this]
  rfl
 ·rw[if_neg h,ab (by omega)]
  rfl
def yLe:AC:=[(-1),6,1,2,2,2,1,1,2,0,2,2,2,0,0,0,1,5,4,1,1,1,1,1]
def oW (x:Int):Int:=if 0≤x∧x<24 then yLe.getD x.toNat 0 else-1
theorem vNi (k:Nat)(x:Int):AB k x=some (oW x):=by
 unfold AB oW
 by_cases h:x<0
 ·rw[aa h,if_neg (by omega)];rfl
 ·rw[ab h,ak]
  by_cases h2:x≥24
  ·rw[aa h2,if_neg (by omega)];rfl
  ·rw[ab h2,ak,fq (by omega) (by omega),aj,if_pos (by omega)]
   rfl
theorem vMs (k:Nat)(x:Int):tw k x=some (oW x):=by
 by_cases h:0≤x∧x<24
 ·obtain⟨n,rfl⟩:∃n:Nat,x=n:=⟨x.toNat,by omega⟩
  have hn:n<24:=by omega
  have:∀n:Nat,n<24→tw 0 (n:Int)=some (oW (n:Int)):=by decide
  exact this n hn
 ·have e:oW x= -1:=by unfold oW;rw[if_neg h]
  rw[e]
  unfold tw
  have ne:∀c:Int,0≤c→c<24→decide (x=c)=false:=fun c h1 h2=>ab (by omega)
  rw[ne 9 (by omega) (by omega),ne 13 (by omega) (by omega),ne 14 (by omega) (by omega),ne 15 (by omega) (by omega),ne 2 (by omega) (by omega),ne 6 (by omega) (by omega),ne 7 (by omega) (by omega),ne 16 (by omega) (by omega),
   ne 19 (by omega) (by omega),ne 20 (by omega) (by omega),ne 21 (by omega) (by omega),ne 22 (by omega) (by omega),ne 23 (by omega) (by omega),ne 3 (by omega) (by omega),ne 4 (by omega) (by omega),ne 5 (by omega) (by omega),ne 8 (by omega) (by omega),
   ne 10 (by omega) (by omega),ne 11 (by omega) (by omega),ne 12 (by omega) (by omega),ne 18 (by omega) (by omega),ne 17 (by omega) (by omega),ne 1 (by omega) (by omega)]
  rfl
abbrev FB:Type:=Int×Int×Int×Int×Int×Int×Int
def tD (b:AC):FB×Int:=
 if b=[] then((0,0,0,0,0,0,0),2)
 else if(kz (b.drop 1)).2≠0∨((kz (b.drop 1)).1.length:Int)≠oW (zA (b.getD 0 0)) then((0,0,0,0,0,0,0),2)
 else((zA (b.getD 0 0),(kz (b.drop 1)).1.getD 0 0,(kz (b.drop 1)).1.getD 1 0,(kz (b.drop 1)).1.getD 2 0,(kz (b.drop 1)).1.getD 3 0,(kz (b.drop 1)).1.getD 4 0,(kz (b.drop 1)).1.getD 5 0),0)
theorem vOq (l:AC)(i:Nat):(bif Nat.blt i l.length then l.getD i 0 else 0)=l.getD i 0:=by
 by_cases h:i<l.length
 ·rw[show Nat.blt i l.length=true by simp[Nat.blt_eq,h]];rfl
 ·rw[show Nat.blt i l.length=false by
   cases e:Nat.blt i l.length with
   |false=>rfl
   |true=>rw[Nat.blt_eq] at e;omega]
  rw[List.getD_eq_getElem?_getD,List.getElem?_eq_none (by omega)];rfl
theorem yPk {k:Nat}{b:AC}(hk:9≤k)(hb:b.length≤8*k)(bz:b.length≤140737488355328):nM k b=some (tD b):=by
 unfold nM tD
 cases b with
 |nil=>rfl
 |cons c l=>
  rw[if_neg (by simp)]
  have e0:((c::l).length:Int)=(l.length:Int)+1:=by simp
  rw[ab (by omega),ak,aa (show(1:Int)≤((c::l).length:Int) by omega),aj,vHr hk (by simp at hb⊢;omega) (by simp at bz⊢;omega),af]
  by_cases h:(kz (List.drop 1 (c::l))).2=0
  ·rw[aa h,fq (by omega) (by simp),vMs]
   simp only[aA,ak,aj,af]
   by_cases h2:((kz (List.drop 1 (c::l))).1.length:Int)=oW (zA ((c::l).getD 0 0))
   ·rw[aa h2,if_neg (fun hh=>hh.elim (fun e=>e h) fun e=>e h2)]
    simp only[aA,ak,vOq]
   ·rw[ab h2,if_pos (.inr h2)]
    rfl
  ·rw[ab h,if_pos (.inl h)]
   rfl
theorem vU5 (x:Int):oW x≤6:=by
 unfold oW
 split
 ·rename_i h
  obtain⟨n,rfl⟩:∃n:Nat,x=n:=⟨x.toNat,by omega⟩
  have:∀n:Nat,n<24→yLe.getD n 0≤6:=by decide
  exact this n (by omega)
 ·omega
theorem vXo (k m:Nat)(b0:FB)(x:Int)(l:AC)(hl:l.length≤6):
  NZ k (m+7) 0 b0 (x,0,0,0,0,0,0) l=some (b0,(x,l.getD 0 0,l.getD 1 0,l.getD 2 0,l.getD 3 0,l.getD 4 0,l.getD 5 0)):=by
 match l,hl with
 |[],_=>rfl
 |[_],_=>rfl
 |[_,_],_=>rfl
 |[_,_,_],_=>rfl
 |[_,_,_,_],_=>rfl
 |[_,_,_,_,_],_=>rfl
 |[_,_,_,_,_,_],_=>rfl
 |_::_::_::_::_::_::_::l,hl=>exact absurd hl (by simp)
theorem vM0 {k:Nat}{b:AC}(hk:9≤k)(hb:b.length≤8*k)(bz:b.length≤140737488355328):JF k b=some (tD b):=by
 unfold JF tD
 cases b with
 |nil=>rfl
 |cons c l=>
  rw[if_neg (by simp)]
  have e0:((c::l).length:Int)=(l.length:Int)+1:=by simp
  rw[ab (by omega),ak,fq (by omega) (by simp),aj,aa (show(1:Int)≤((c::l).length:Int) by omega),aj,VX hk (by simp at hb⊢;omega) (by simp at bz⊢;omega),af]
  by_cases h:(kz (List.drop 1 (c::l))).2=0
  ·rw[aa h,vNi]
   simp only[aA,ak,af]
   by_cases h2:((kz (List.drop 1 (c::l))).1.length:Int)=oW (zA ((c::l).getD 0 0))
   ·rw[aa h2,if_neg (fun hh=>hh.elim (fun e=>e h) fun e=>e h2)]
    have hm:=vU5 (zA ((c::l).getD 0 0))
    obtain⟨m,rfl⟩:∃m,k=m+7:=⟨k-7,by omega⟩
    simp only[aA,ak]
    rw[vXo _ _ _ _ _ (by omega)]
    rfl
   ·rw[ab h2,if_pos (.inr h2)]
    rfl
  ·rw[ab h,if_pos (.inl h)]
   rfl
abbrev mh:Type:=Int×Int×Int×Int×Int×Int×Int×Int
abbrev lr:Type:=Int×Int×AC×Int×Int
abbrev mi:Type:=Int×AC×Int×AC×Int×Int×Int×Bool×Bool×Int
abbrev qz:Type:=Int×Int×Int×Bool
abbrev VY:Type:=Int×List (Int×Int)×Int×Int×Int
abbrev N0:Type:=Int×List (Int×Int×Int)×EQ×AC×EQ×AC×EQ×List (Int×Int×Int×Int×Int×Int×Int)×AC×Int×Bool
abbrev tE:Type:=Int×List (Int×Int)×Int×Int×Int×Int×List (Int×Int×Int)×EQ×AC×EQ×AC×EQ×List (Int×Int×Int×Int×Int×Int×Int)×AC×Int×Bool×Int×Bool
abbrev N1:Type:=Int×Int×Bool×Bool
def d0:lr:=(0,0,[],0,0)
def zI (ev:Int)(bG:List lr)(n i:Int)(R:VY)(c:N1)(D:mi)(G:tE)(L:qz)(c2:N1)(outs:List (List mh))(asked:List mh):=
 (ev,bG,n,i,R,c,((D.1,D.2.2.1,D.2.2.2.2):Int×Int×Int×Int×Int×Bool×Bool×Int),D.2.1,D.2.2.2.1,G,L,c2,outs,asked)
section
variable {k:Nat} {rec:JG} {ev n i:Int} {bG:List lr} {R:VY} {c c2:N1} {D:mi} {G:tE} {L:qz} {outs:List (List mh)} {asked:List mh}
theorem N2 (h:outs.length≤1000000):zO (outs.length+1) 24=true:=qT (by omega) (by omega)
theorem vEz (hi:¬i<n):AM k rec (.inl (zI ev bG n i R c D G L c2 outs asked))=some (.inr (c,G,L,(D.1,D.2.2.1,D.2.2.2.2),D.2.1,D.2.2.2.1,c2,outs,asked)):=by
 unfold AM
 dsimp only[zI]
 grind
end
abbrev kg (ro:Int)(x:AC)(sx:Int)(y:AC)(sy cA cK op:Int):mi:=(ro,x,sx,y,sy,cA,cK,false,false,op)
section
variable {k:Nat} {ro sx sy cA cK op:Int} {x y b:AC}
theorem yTm (h:(b.length:Int)≤zA (ro-(x.length:Int)))(hr:x.length+b.length≤1000000):tF k (kg ro x sx y sy cA cK op) 0 b=some (0,kg ro (x++b) sx y sy cA cK (zA (op+1))):=by
 show(bif decide ((b.length:Int)>zA (ro-(x.length:Int))) then _ else(bif zO (x.length+b.length) 1 then _ else none))=_
 rw[ab (by omega),ak,qT (by omega) (by omega)]
 rfl
theorem vTc (h:(b.length:Int)>zA (ro-(x.length:Int))):tF k (kg ro x sx y sy cA cK op) 0 b=some (3,kg ro x sx y sy cA cK op):=by
 show(bif decide ((b.length:Int)>zA (ro-(x.length:Int))) then _ else _)=_
 simp_all
theorem vC0 (h:(b.length:Int)≤zA (ro-(y.length:Int)))(hr:y.length+b.length≤1000000):tF k (kg ro x sx y sy cA cK op) 1 b=some (0,kg ro x sx (y++b) sy cA cK (zA (op+1))):=by
 show(bif decide ((b.length:Int)>zA (ro-(y.length:Int))) then _ else(bif zO (y.length+b.length) 1 then _ else none))=_
 rw[ab (by omega),ak,qT (by omega) (by omega)]
 rfl
theorem vM6 (h:(b.length:Int)>zA (ro-(y.length:Int))):tF k (kg ro x sx y sy cA cK op) 1 b=some (3,kg ro x sx y sy cA cK op):=by
 show(bif decide ((b.length:Int)>zA (ro-(y.length:Int))) then _ else _)=_
 simp_all
theorem vW5:N3 k (kg ro x sx y sy cA cK op) 0=some (0,kg ro [] 0 y sy cA cK (zA (op+1))):=rfl
theorem vX5:N3 k (kg ro x sx y sy cA cK op) 1=some (0,kg ro x sx [] 0 cA cK (zA (op+1))):=rfl
theorem VZ:JH k (kg ro x sx y sy cA cK op)=some (0,kg ro x (x.length:Int) y (y.length:Int) cA cK (zA (op+1))):=rfl
end
def vT (n:Int)(i:Nat):Int:=IntKind.wrap .u8 (shr .i64 n (8*(i:Int)))
def re (n:Int):AC:=[vT n 7,vT n 6,vT n 5,vT n 4,vT n 3,vT n 2,vT n 1,vT n 0]
def nN (l:AC):AC:=l.flatMap re
theorem tG:∀l,(nN l).length=8*l.length
 |[]=>rfl
 |n::l=>by
  have:=tG l
  simp[nN] at this⊢
  rw[this]
  simp[re]
  omega
theorem V0 {k n} v (i:Nat)(hi:i≤7) aO bx bo r (hr:r.length≤1000000000):
  wj k (n+1) v (i:Int) aO bx bo r=wj k n v ((i:Int)-1) aO bx bo (r++[vT v i]):=by
 show N4 k (wj k n) v (i:Int) aO bx bo r=_
 unfold N4
 have e8:zA (8*(i:Int))=8*(i:Int):=zR (by omega) (by omega)
 rw[aa (by simp),aj,e8,ab (by omega),bM,aj,qT (by omega) (by omega),aj,zR (by omega) (by omega)]
 rfl
theorem vDf {k}(hk:9≤k) v aO bx bo r (hr:r.length≤100000000):
  wj k k v 7 aO bx bo r=some (aO,bx,bo,r++re v):=by
 have gen:∀m,wj k (m+9) v 7 aO bx bo r=some (aO,bx,bo,r++re v):=fun m=>by
  have h:=fun n i hi r' pJ=>V0 (k:=k) (n:=n) v i hi aO bx bo r' pJ
  have h7:=h (m+8) 7 (by omega) r (by omega)
  have h6:=h (m+7) 6 (by omega) (r++[vT v 7]) (by grind)
  have h5:=h (m+6) 5 (by omega) ((r++[vT v 7])++[vT v 6]) (by grind)
  have h4:=h (m+5) 4 (by omega) (((r++[vT v 7])++[vT v 6])++[vT v 5]) (by grind)
  have h3:=h (m+4) 3 (by omega) ((((r++[vT v 7])++[vT v 6])++[vT v 5])++[vT v 4]) (by grind)
  have h2:=h (m+3) 2 (by omega) (((((r++[vT v 7])++[vT v 6])++[vT v 5])++[vT v 4])++[vT v 3]) (by grind)
  have h1:=h (m+2) 1 (by omega) ((((((r++[vT v 7])++[vT v 6])++[vT v 5])++[vT v 4])++[vT v 3])++[vT v 2]) (by simp;omega)
  have h0:=h (m+1) 0 (by omega) (((((((r++[vT v 7])++[vT v 6])++[vT v 5])++[vT v 4])++[vT v 3])++[vT v 2])++[vT v 1]) (by simp;omega)
  refine(h7.trans (h6.trans (h5.trans (h4.trans (h3.trans (h2.trans (h1.trans (h0.trans ?_))))))))
  show some (aO,bx,bo,_)=_
  simp only[List.append_assoc,List.cons_append,List.nil_append]
  rfl
 obtain⟨m,rfl⟩:∃m,k=m+9:=⟨k-9,by omega⟩
 exact gen m
theorem yWl {k}(hk:9≤k) l (hl:l.length≤1000000):∀(m n i:Nat),i+m=l.length→m<n→AN k n l (l.length:Int) (i:Int) (nN (l.take i))=some (nN l)
 |0,n,i,hi,hn=>by
  obtain⟨n,rfl⟩:∃x,n=x+1:=⟨n-1,by omega⟩
  show FC k (AN k n) l _ _ _=_
  unfold FC
  simp_all
 |m+1,n,i,hi,hn=>by
  obtain⟨n,rfl⟩:∃x,n=x+1:=⟨n-1,by omega⟩
  show FC k (AN k n) l _ _ _=_
  unfold FC
  have bd:i<l.length:=by omega
  rw[aa (by grind),aj,fq (by omega) (by omega),aj,ao,
   vDf hk _ _ _ _ _ (by rw[tG,List.length_take];omega),af,qJ (N:=l.length) bd (by omega)]
  rw[show nN (l.take i)++re (l.getD i 0)=nN (l.take (i+1)) by
   rw[←ft l i 0 bd]
   simp[nN]]
  exact yWl hk l hl m n (i+1) (by omega) (by omega)
theorem JI {k}(hk:9≤k) l (hl:l.length≤1000000)(ue:l.length<k):wk k l=some (nN l):=by
 unfold wk
 have h8:zA (8*(l.length:Int))=((8*l.length:Nat):Int):=by rw[zR (by omega) (by omega)];omega
 rw[h8]
 have hm:pV 0 ((8*l.length:Nat):Int) 1=true:=by
  grind
 rw[hm,aj]
 have:=yWl hk l hl l.length k 0 (by omega) ue
 show(AN k k l (l.length:Int) ((0:Nat):Int) (nN (l.take 0))).bind _=_
 simp_all
def AO (l:AC):AC:=re (l.length:Int)++nN l
theorem V1 {k}(hk:9≤k) l (hl:l.length≤1000000)(ue:l.length<k):N5 k l=some (AO l):=by
 unfold N5
 rw[JI hk [(l.length:Int)] (by simp) (by grind),af,JI hk l hl ue,af]
 rw[qT (by rw[tG,tG];grind) (by rw[tG,tG];grind)]
 rfl
def wm (b:AC):AC:=[IntKind.wrap .u8 (shr .i64 (b.length:Int) 8),IntKind.wrap .u8 (b.length:Int)]++b
theorem qZx k b:JJ k b=some (if b.length≤60000 then(wm b,true) else([],false)):=by
 unfold JJ
 by_cases h:b.length≤60000
 ·rw[ab (by omega),ak,qT (by omega) (by omega),if_pos h]
  rfl
 grind
def kA (l:EQ):AC:=l.flatMap AO
theorem JK l:(AO l).length=8*(l.length+1):=by
 simp[AO,tG]
 show 8+_=_
 omega
theorem vK4 {l:EQ}{i}(h:i<l.length):kA (l.take i)++AO (l.getD i [])=kA (l.take (i+1)):=by
 rw[←ft l i [] h]
 simp[kA]
structure eS (l:EQ):Prop where
 n:l.length≤900
 r:∀x∈l,x.length≤900
theorem vZs {l}(h:∀x∈l,x.length≤900):(kA l).length≤8000*l.length:=by
 induction l with
 |nil=>simp[kA]
 |cons x l ih=>
  have h1:=ih (by grind)
  have h2:=h x (by simp)
  simp[kA,JK] at h1⊢
  omega
theorem vEp {k}(hk:1000≤k){l}(h:eS l):JL k l=some (kA l):=by
 have hn:=h.n
 unfold JL
 obtain ⟨s, h1, h2⟩ := yZ (L := fun n i (s : AC) => FD k n l (l.length : Int) i s) (N := l.length) (fun s => s) (fun i s => s = kA (l.take i)) (fun n s _=>by
  show FE k (FD k n) l _ _ s=_
  unfold FE
  simp) (fun n i s hi hs=>by
  refine⟨s++AO (l.getD i []),?_,by rw[hs,vK4 hi]⟩
  show FE k (FD k n) l _ (i:Int) s=_
  unfold FE
  have hr:=h.r _ (jK (d:=[]) hi)
  have uj:s.length≤8000*1000:=by
   have:=vZs (l:=l.take i) fun x hx=>h.r x (by grind)
   grind
  rw[aa (by grind),aj,fq (by omega) (by omega),aj,ao,V1 (by omega) _ (by omega) (by omega),af,
   qT (by rw[JK];omega) (by rw[JK];omega),aj,qJ (N:=l.length) hi (by omega)]) (n:=k) (s:=[]) (by omega) rfl
 simp_all
def FF (a:Int×Int×Int):AC:=[a.1,a.2.1,a.2.2]
def FG (p:Int×Int×Int×Int×Int×Int×Int):AC:=[p.1,p.2.1,p.2.2.1,p.2.2.2.1,p.2.2.2.2.1,p.2.2.2.2.2.1,p.2.2.2.2.2.2]
def AP (s:N0):EQ:=
 (((((([[s.1,s.2.2.2.2.2.2.2.2.2.1,bif s.2.2.2.2.2.2.2.2.2.2 then 1 else 0,(s.2.1.length:Int),(s.2.2.1.length:Int),(s.2.2.2.1.length:Int),(s.2.2.2.2.1.length:Int),(s.2.2.2.2.2.2.1.length:Int),(s.2.2.2.2.2.2.2.1.length:Int)]]++
  s.2.1.map FF)++s.2.2.1)++[s.2.2.2.1])++s.2.2.2.2.1)++[s.2.2.2.2.2.1])++s.2.2.2.2.2.2.1)++s.2.2.2.2.2.2.2.1.map FG++[s.2.2.2.2.2.2.2.2.1]
theorem vB7 {α β:Type}(f:α→β) d {l:List α}{i}(h:i<l.length):(l.take i).map f++[f (l.getD i d)]=(l.take (i+1)).map f:=by
 rw[←ft l i d h];simp
theorem vMy {k}{l:List (Int×Int×Int)}(hl:l.length≤900)(hk:1000≤k)(s:N0)(b) r (hr:r.length≤1000000):AQ k k l (l.length:Int) 0 s b r=some (s,b,r++l.map FF):=by
 obtain ⟨t, h1, h2⟩ := yZ (L := fun n i (t : EQ) => AQ k n l (l.length : Int) i s b t) (N := l.length) (fun t => (s, b, t)) (fun i t => t = r ++ (l.take i).map FF) (fun n t _=>by
  show FH k (AQ k n) l _ _ s b t=_
  unfold FH
  simp) (fun n i t hi ht=>by
  refine⟨t++[FF (l.getD i (0,0,0))],?_,by rw[ht,List.append_assoc,vB7 FF (0,0,0) hi]⟩
  show FH k (AQ k n) l _ (i:Int) s b t=_
  unfold FH
  have:t.length≤1001000:=by grind
  rw[aa (by grind),aj,fq (by omega) (by omega),aj,qT (by omega) (by omega),aj,qJ (N:=l.length) hi (by omega)]
  rfl) (n:=k) (s:=r) (by omega) (by simp)
 simp_all
theorem vT0 {k}{l:List (Int×Int×Int×Int×Int×Int×Int)}(hl:l.length≤900)(hk:1000≤k)(s:N0) r (hr:r.length≤1000000):AR k k l (l.length:Int) 0 s r=some (s,r++l.map FG):=by
 obtain ⟨t, h1, h2⟩ := yZ (L := fun n i (t : EQ) => AR k n l (l.length : Int) i s t) (N := l.length) (fun t => (s, t)) (fun i t => t = r ++ (l.take i).map FG) (fun n t _=>by
  show FI k (AR k n) l _ _ s t=_
  unfold FI
  simp) (fun n i t hi ht=>by
  refine⟨t++[FG (l.getD i (0,0,0,0,0,0,0))],?_,by rw[ht,List.append_assoc,vB7 FG (0,0,0,0,0,0,0) hi]⟩
  show FI k (AR k n) l _ (i:Int) s t=_
  unfold FI
  have:t.length≤1001000:=by grind
  rw[aa (by grind),aj,fq (by omega) (by omega),aj,qT (by omega) (by omega),aj,qJ (N:=l.length) hi (by omega)]
  rfl) (n:=k) (s:=r) (by omega) (by simp)
 simp_all
theorem vG9 {k}(hk:1000≤k){s}(h:eS (AP s)):kB k s=some (kA (AP s)):=by
 have hn:=h.n
 simp only[AP,List.length_append,List.length_map] at hn
 unfold kB
 rw[show N6 k s.2.2.2.2.2.2.2.2.2.2=some (bif s.2.2.2.2.2.2.2.2.2.2 then 1 else 0) by unfold N6;grind,af]
 rw[vMy (by omega) hk _ _ _ (by simp),af]
 dsimp only
 rw[qT (by grind) (by grind),aj,qT (by grind) (by grind),aj,qT (by simp;omega) (by grind),aj,qT (by simp;omega) (by simp;omega),aj,
  qT (by simp;omega) (by simp;omega),aj,vT0 (by omega) hk _ _ (by simp;omega),af]
 dsimp only
 rw[qT (by simp;omega) (by simp;omega),aj]
 show(JL k (AP s)).bind (fun x1=>some x1)=_
 rw[vEp hk h]
 rfl
structure oX (D:mi):Prop where
 abL:D.2.2.2.2.2.2.2.1=false
 down:D.2.2.2.2.2.2.2.2.1=false
 room:0≤D.1∧D.1≤200000
 x:(D.2.1.length:Int)≤D.1
 y:(D.2.2.2.1.length:Int)≤D.1
def wV (D:mi)(i:Int):AC:=if i=0 then D.2.1 else D.2.2.2.1
theorem oX.as {D}(h:oX D):∃ro x sx y sy cA cK op,D=kg ro x sx y sy cA cK op∧0≤ro∧ro≤200000∧(x.length:Int)≤ro∧(y.length:Int)≤ro:=by
 obtain⟨ro,x,sx,y,sy,cA,cK,ar,dn,op⟩:=D
 obtain⟨h1,h2,h3,h4,h5⟩:=h
 subst h1;subst h2
 grind
theorem N7 {ro sx sy cA cK op x y}(h0:0≤ro)(h1:ro≤200000)(hx:(x.length:Int)≤ro)(hy:(y.length:Int)≤ro):oX (kg ro x sx y sy cA cK op):=⟨rfl,rfl,by grind,hx,hy⟩
theorem vMx {k D}(h:oX D){i}(hi:i=0∨i=1){b}(hb:b.length≤100000):
  ((b.length:Int)>D.1-((wV D i).length:Int)∧tF k D i b=some (3,D))∨
  ((b.length:Int)≤D.1-((wV D i).length:Int)∧∃D1 D2,tF k D i b=some (0,D1)∧JH k D1=some (0,D2)∧oX D2∧D2.1=D.1∧wV D2 i=wV D i++b∧wV D2 (1-i)=wV D (1-i)):=by
 obtain⟨ro,x,sx,y,sy,cA,cK,op,rfl,h0,h1,hx,hy⟩:=h.as
 rcases hi with rfl|rfl
 ·have hw:zA (ro-(x.length:Int))=ro-(x.length:Int):=zR (by omega) (by omega)
  by_cases hf:(b.length:Int)>ro-(x.length:Int)
  ·exact .inl ⟨hf,vTc (by rw[hw];exact hf)⟩
  ·refine .inr ⟨by show(b.length:Int)≤ro-(x.length:Int);omega,_,_,yTm (by omega) (by omega),VZ,N7 h0 h1 (by rw[List.length_append];omega) hy,rfl,rfl,rfl⟩
 ·have hw:zA (ro-(y.length:Int))=ro-(y.length:Int):=zR (by omega) (by omega)
  by_cases hf:(b.length:Int)>ro-(y.length:Int)
  ·exact .inl ⟨hf,vM6 (by rw[hw];exact hf)⟩
  ·refine .inr ⟨by show(b.length:Int)≤ro-(y.length:Int);omega,_,_,vC0 (by rw[hw];omega) (by omega),VZ,N7 h0 h1 hx (by rw[List.length_append];omega),rfl,rfl,rfl⟩
structure V2 (L:qz):Prop where
 side:L.1=0∨L.1=1
 gen:1≤L.2.1∧L.2.1≤4611686018427387904
 rows:0≤L.2.2.1∧L.2.2.1≤1000000
 stale:L.2.2.2=false
theorem yUa b:(wm b).length=b.length+2:=by rfl
theorem vK2 {k D}(h:oX D){L}(hL:V2 L){b}(hb:b.length≤60000):
  ((b.length:Int)+2>D.1-((wV D L.1).length:Int)∧AT k L D b=some (10,L,D))∨
  ((b.length:Int)+2≤D.1-((wV D L.1).length:Int)∧∃D2,AT k L D b=some (0,(L.1,L.2.1,zA (L.2.2.1+1),L.2.2.2),D2)∧oX D2∧D2.1=D.1∧wV D2 L.1=wV D L.1++wm b∧wV D2 (1-L.1)=wV D (1-L.1)):=by
 have hr:((wm b).length:Int)=(b.length:Int)+2:=by rfl
 unfold AT
 rw[qZx,if_pos hb,af,hL.stale]
 rcases vMx (k:=k) h hL.side (b:=wm b) (by omega) with⟨h1,h2⟩|⟨h1,D1,D2,h2,h3,h4,h5,h6,h7⟩
 all_goals simp_all
theorem vO4 {k}(hk:9≤k){D}(h:oX D){L}(hL:V2 L)(hg:L.2.1<4611686018427387904){b}(hb:b.length≤50000)(uF:(b.length:Int)+10≤D.1):
  ∃D2,wo k L D b=some (0,(1-L.1,L.2.1+1,0,false),D2)∧oX D2∧D2.1=D.1∧wV D2 (1-L.1)=wm (re (L.2.1+1)++b)∧wV D2 L.1=wV D L.1:=by
 obtain⟨ro,x,sx,y,sy,cA,cK,op,rfl,h0,h1,hx,hy⟩:=h.as
 obtain⟨si,ge,rw',st⟩:=L
 have kp:=hL.gen
 dsimp only at kp hg
 have uF:(b.length:Int)+10≤ro:=uF
 have e1:zA (ge+1)=ge+1:=zR (by omega) (by omega)
 have hlen:(wm (re (ge+1)++b)).length=b.length+10:=by rfl
 unfold wo N8
 rw[e1,JI hk [ge+1] (by simp) (by simp;omega),af,show nN [ge+1]=re (ge+1) by simp[nN]]
 rw[qT (by show(8+b.length)*1≤_;omega) (by show 8+b.length≤_;omega),aj,qZx,if_pos (by rw[List.length_append];show 8+b.length≤_;omega),af]
 rw[aA,ak,ab (by omega),ak]
 rw[show V3 k (kg ro x sx y sy cA cK op)=some ro from rfl,af,hlen,ab (by omega),ak]
 rcases hL.side with hs|hs<;>dsimp only at hs<;>subst hs
 ·rw[show zA (1-0)=1 from rfl,vX5,af]
  rw[show decide ((0:Int)=0)=true from rfl,aA,ak,vC0 (by rw[zR (by simp;omega) (by simp;omega)];simp;omega) (by simp;omega),af]
  exact⟨_,rfl,N7 h0 h1 hx (by simp_all),rfl,rfl,rfl⟩
 ·rw[show zA (1-1)=0 from rfl,vW5,af]
  rw[show decide ((0:Int)=0)=true from rfl,aA,ak,yTm (by rw[zR (by simp;omega) (by omega)];simp;omega) (by simp;omega),af]
  rw[show decide ((0:Int)=0)=true from rfl,aA,ak,VZ]
  exact⟨_,rfl,N7 h0 h1 (by simp_all) hy,rfl,rfl,rfl⟩
structure Tk (L:qz) (N:Nat):Prop where
 side:L.1=0∨L.1=1
 gen:1≤L.2.1∧L.2.1≤(N:Int)+1
 rows:0≤L.2.2.1∧L.2.2.1≤(N:Int)
 stale:L.2.2.2=false
theorem Tk.takes {L N}(h:Tk L N)(hN:N≤1000000):V2 L:=⟨h.side,⟨h.gen.1,by have:=h.gen.2;omega⟩,⟨h.rows.1,by have:=h.rows.2;omega⟩,h.stale⟩
theorem Tk.more {L N M}(h:Tk L N)(hN:N≤M):Tk L M:=⟨h.side,⟨h.gen.1,by have:=h.gen.2;omega⟩,⟨h.rows.1,by have:=h.rows.2;omega⟩,h.stale⟩
structure abX (k:Nat) (s:N0) (b:AC):Prop where
 is:kB k s=some b
 len:b.length≤50000
end Go.Ab.Gi
