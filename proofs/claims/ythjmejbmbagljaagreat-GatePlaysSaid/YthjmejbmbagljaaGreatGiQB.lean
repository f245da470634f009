/- Plain proofs, part 1. -/
import Derived.Test.YthjmejbmbagljaaGreatGiQA
set_option linter.unusedVariables false
set_option linter.unusedSimpArgs false
set_option maxRecDepth 100000
namespace Go.Ab.Gi
open Go.Ab
theorem aaf {k}(hk:200≤k){B}(hb:qS B){m}(hd:qL m)(hm:∀q∈m,yN B.1.length q)(bS:m.length≤64) pa (sa:List (Int×Int)) cu cl pe t (ht:0≤t∧t<1099511627776)(Ms:pe≠0) pr ho ids to:
  ∃(C:BT) (m':List zI) (ov:Bool) (o:List yJ),ym k pa sa cu cl pe t B.1 B.2.1 B.2.2.1 B.2.2.2 pr ho m ids to false=some (t+1,C.1,C.2.1,C.2.2.1,C.2.2.2,pr,ho,m',ids,to,ov,o)∧vYg t cl B C m m' ov o∧fZ B C∧(ov=false→fW k C (wC m' (t+1))=none)∧
   ((ov=true∧m'=[]∧o=m.map (wR 22)++iY B B.1.length∧C=B)∨∃l d n,o=l.map (wR 21)++vP d∧List.Perm (l++n) m∧List.Perm (d++m') n∧ov=false):=by
 have hY:=hb.n6;have w:zA (t+1)=t+1:=zQ;unfold ym Cm;simp only[w,ak,ae];cases hc:decide (t+1=cl) with
 |true=>
  simp only[ai];rw[yK6 hY hk (by omega)];simp only[ae];refine⟨B,[],true,_,rfl,⟨hb,rfl,List.nil_sublist m,hc.symm,fun _=>rfl,(fun e=>by cases e),(fun p hp=>by cases hp),fun p hp _=>?_,fun q hq=>?_,?_⟩,fZ.refl B,(fun e=>by cases e),.inl ⟨rfl,rfl,rfl,rfl⟩⟩
  ·rw[Cl,(G5 (.inr rfl) hd).1 hp,vCr]
  ·rw[Cl,(G5 (.inr rfl) hd).2 hq,vCr]
  ·rw[aA,List.length_map];unfold iY;rw[List.length_map,List.length_range];simp;omega
 |false=>
  simp only[ak];rw[yTw hk (by omega)];simp only[ae];have hs:∃x,Hc k pa sa cu cl pe (t+1)=some x:=by
   unfold Hc;cases decide (t+1>0) with
   |false=>exact⟨_,rfl⟩
   |true=>
    cases decide (t+1<cl) with
    |false=>exact⟨_,rfl⟩
    |true=>
     have:decide (pe=0)=false:=ab Ms;rw[this];exact⟨_,rfl⟩
  obtain⟨x,hx⟩:=hs;rw[hx];simp only[ae];have cP:List.Sublist (m.filter (fun p=> !vE (t+1) p)) m:=List.filter_sublist;have dP:=cP.length_le;have td:qL (m.filter (fun p=> !vE (t+1) p)):=List.Pairwise.sublist cP hd;obtain⟨C,m',d,f1,f2,f3,f4,f5,f6,f7⟩:=vUf hk hb td (fun q hq=>hm q (cP.subset hq)) (by omega) (t+1) x;have hlen:=f5.length_eq;rw[aA] at hlen;have hSt:uX k (t+1) B.1 B.2.1 B.2.2.1 B.2.2.2 pr ho (m.filter (fun p=> !vE (t+1) p)) ids to false x=some (t+1,C.1,C.2.1,C.2.2.1,C.2.2.2,pr,ho,m',ids,to,false,vP d):=by
   unfold uX;rw[f1];simp only[ae];rw[vA8 (by omega) (by omega)];rfl
  rw[hSt];have ahv:(m.filter (vE (t+1))).length+(m.filter (fun p=> !vE (t+1) p)).length=m.length:=by
   rw[←List.countP_eq_length_filter,←List.countP_eq_length_filter];have:=List.length_eq_countP_add_countP (vE (t+1)) (l:=m);simp only[Bool.not_eq_true,Bool.decide_eq_false] at this;exact this.symm
  have Et:=G0 d;have hr:zO (((m.filter (vE (t+1))).map (wR 21)).length+(vP d).length) 64=true:=qG (by rw[List.length_map];omega) (by rw[List.length_map];omega);simp only[ae,hr,ai];have hdd:qL (d++m'):=td.perm f5;have uY:qL d:=(List.pairwise_append.1 hdd).1;have hdm:∀p∈d,p∈m.filter (fun p=> !vE (t+1) p):=by grind
  have nr:∀p∈d,yN B.1.length p:=fun p hp=>hm p (cP.subset (hdm p hp))
  have uZ:qL (m.filter (vE (t+1))):=hd.filter _;have yn:∀p∈m,vE (t+1) p=false→∀q∈m.filter (vE (t+1)),q.1≠p.1:=by
   intro p hp hl q hq e;have h1:=List.mem_filter.1 hq;have:=hd.eq_of h1.1 hp e;subst this;rw[hl] at h1;exact absurd h1.2 (by simp)
  refine⟨C,m',false,_,rfl,⟨f2,f3,f4.trans cP,hc.symm,(fun e=>by cases e),fun _ p hp=>?_,fun p hp=>?_,fun p hp hn=>?_,fun q hq=>?_,?_⟩,yS2 hk hb td (fun q hq=>hm q (cP.subset hq)) (by omega) (t+1) x f1,(fun _=>f6),.inr ⟨m.filter (vE (t+1)),d,m.filter (fun p=> !vE (t+1) p),rfl,List.filter_append_perm _ _,f5,rfl⟩⟩
  ·have:=(List.mem_filter.1 (f4.subset hp)).2
   simpa using this
  ·have h1:=List.mem_filter.1 (f4.subset hp);have hl:vE (t+1) p=false:=by simpa using h1.2
   rw[Cl,(G5 (.inl rfl) uZ).2 (yn p h1.1 hl),(Rf uY nr).2 (hdd.not_in (l:=d) hp)]
  ·cases hl:vE (t+1) p with
   |true=>
    have h1:p∈m.filter (vE (t+1)):=List.mem_filter.2 ⟨hp,hl⟩;have h2:∀q∈d,q.1≠p.1:=by
     grind
    rw[Cl,(G5 (.inl rfl) uZ).1 h1,(Rf uY nr).2 h2]
   |false=>
    have h1:p∈m.filter (fun p=> !vE (t+1) p):=List.mem_filter.2 ⟨hp,by rw[hl];rfl⟩;have h2:p∈d:=by
     rcases List.mem_append.1 (f5.symm.subset h1) with h|h
     ·exact h
     ·exact absurd h hn
    rw[Cl,(G5 (.inl rfl) uZ).2 (yn p hp hl),(Rf uY nr).1 h2]
  ·rw[Cl,(G5 (.inl rfl) uZ).2 (by grind),(Rf uY nr).2 (fun p hp=>hq p (cP.subset (hdm p hp)))]
  ·rw[aA,List.length_map];simp;omega
abbrev jL:=EQ
abbrev qQ:=Int×List om×Int×Int×Int
abbrev jH:=Int×Int×Int×Int×Int×Int×Int
abbrev aag:=Int×List om×Int×Int×Int×Int×List yA×jL×AC×jL×AC×jL×List zI×AC×Int×Bool×Int×List yJ
structure qH where
 t:Int
 B:BT
 pr:AC
 ho:jL
 m:List zI
 ids:AC
 to:Int
 ov:Bool
abbrev tf:=Int×List yA×jL×AC×jL×AC×jL×List zI×AC×Int×Bool
def qH.st (s:qH):tf:=(s.t,s.B.1,s.B.2.1,s.B.2.2.1,s.B.2.2.2,s.pr,s.ho,s.m,s.ids,s.to,s.ov)
def dk (r:qQ)(s:qH)(who:Int)(l:List yJ):aag:=(r.1,r.2.1,r.2.2.1,r.2.2.2.1,r.2.2.2.2,s.t,s.B.1,s.B.2.1,s.B.2.2.1,s.B.2.2.2,s.pr,s.ho,s.m,s.ids,s.to,s.ov,who,l)
structure wT (r:qQ):Prop where
 pa:1≤r.1∧r.1≤6
 n3:r.2.1.length≤3
 price:∀i,i<r.2.1.length→0≤(r.2.1.getD i uS).1∧(r.2.1.getD i uS).1≤1048576
 cut:∀i,i<r.2.1.length→0≤(r.2.1.getD i uS).2∧(r.2.1.getD i uS).2≤10000
 cu:0≤r.2.2.1∧r.2.2.1≤r.2.2.2.1
 cl:1≤r.2.2.2.1∧r.2.2.2.1≤1048576
 pe:1≤r.2.2.2.2∧r.2.2.2.2≤1048576
def nu (m:List zI):Prop:=List.Pairwise (fun p q=>wA p q=true) m
structure la (n:Nat) (m:List zI) (ids:AC):Prop where
 dist:qL m
 len:m.length≤40
 sort:nu m
 may:∀p∈m,yN n p
 time:∀p∈m,0≤p.2.2.2.2.2.1∧p.2.2.2.2.2.1≤p.2.2.2.2.2.2∧p.2.2.2.2.2.2≤1048576
 were:∀p∈m,p.1∈ids
 asc:qt ids
 pos:∀x∈ids,1≤x
 idl:ids.length≤200
structure yF (r:qQ) (s:qH):Prop where
 tk:0≤s.t∧s.t≤r.2.2.2.1
 bk:qS s.B
 n:(s.B.1.length:Int)=r.1
 hol:s.ho.length=s.B.1.length
 laid:∀i,i<s.B.1.length→ki r.2.1 s.pr (s.ho.getD i [])
 cred:∀i,i<s.B.1.length→(s.B.1.getD i ad).2.1=gD r.2.1 s.pr (s.ho.getD i [])
 most:∀i,i<s.B.1.length→(s.B.1.getD i ad).2.1≤1152921504606846976
 waits:la s.B.1.length s.m s.ids
 sum:qI (fun i=>(s.B.1.getD i ad).1) s.B.1.length=s.to
 tot:0≤s.to∧s.to≤1152921504606846976
 over:s.ov=decide (s.t=r.2.2.2.1)
 none:s.ov=true→s.m=[]
theorem nv k a b c:vF k a b c=some (decide (a≥b)&&decide (a≤c)):=by
 unfold vF;grind
theorem nR {α:Type} c (a b:α):(bif c then some a else some b)=some (bif c then a else b):=by grind
def ld (pa t:Int)(p:zI):Bool:=
 decide (p.2.1≥0)&&decide (p.2.1<pa)&&(decide (p.2.2.1≥0)&&decide (p.2.2.1<pa)&&(decide (p.1≥1)&&(decide (p.2.2.2.1≥1)&&(decide (p.2.2.2.1≤1099511627776)&&(decide (p.2.2.2.2.1≥1)&&(!decide (p.2.1=p.2.2.1)&&(decide (p.2.2.2.2.1≤3)&&(decide (p.2.2.2.2.2.1≥0)&&(decide (p.2.2.2.2.2.1≤p.2.2.2.2.2.2)&&(decide (p.2.2.2.2.2.2≥t)&&decide (p.2.2.2.2.2.2≤1048576)))))))))))
theorem aah k (r:qQ) w:Mt k r w=some (decide (w≥0)&&decide (w<r.1)):=by
 unfold Mt;grind
theorem aai k (r:qQ) t (p:zI):Rh k r t p=some (ld r.1 t p):=by
 unfold Rh ld;simp[aah,nR]
def rf (cu cl t c:Int):Int:=bif decide (t≥cl) then 7 else bif decide (c=3)&&decide (t≥cu) then 7 else 0
theorem yLz k (r:qQ) t c:Cn k r t c=some (rf r.2.2.1 r.2.2.2.1 t c):=by
 unfold Cn rf;grind
def nx (r:qQ)(t:Int)(p:zI):Int:=bif !ld r.1 t p then 1 else rf r.2.2.1 r.2.2.2.1 t p.2.2.2.2.1
theorem aaj k (r:qQ) t (p:zI):Hd k r t p=some (nx r t p):=by
 unfold Hd nx;rw[aai];simp[yLz];grind
def ga (who:Int)(f:jH):zI:=(f.2.1,who,f.2.2)
def iZ (r:qQ)(s:qH)(who:Int)(f:jH):Int×List zI×AC:=
 bif !(decide (f.2.2.1≥0)&&decide (f.2.2.1≤r.1-1)) then(1,s.m,s.ids)
 else bif !(decide (f.2.2.2.2.1≥1)&&decide (f.2.2.2.2.1≤3)) then(1,s.m,s.ids)
 else bif !decide (nx r s.t (ga who f)=0) then(nx r s.t (ga who f),s.m,s.ids)
 else bif decide (f.2.1∈s.ids) then(6,s.m,s.ids)
 else bif decide (200≤s.ids.length) then(3,s.m,s.ids)
 else bif (vU s.m f.2.1).isSome then(6,s.m,s.ids)
 else bif decide (40≤s.m.length) then(3,s.m,s.ids)
 else(0,px s.m (ga who f),qu s.ids f.2.1)
theorem vQk {k}(hk:9999≤k){r}(hr:wT r){s}(h:la s.B.1.length s.m s.ids) who l f:
  ∃d,Ri k (dk r s who l) f.2=some ((iZ r s who f).1,d)∧((iZ r s who f).1=0→d=dk r {s with m:=(iZ r s who f).2.1,ids:=(iZ r s who f).2.2} who l):=by
 have hp:=hr.pa;have hi:=h.idl;have hm:=h.len;have w1:zA (r.1-1)=r.1-1:=zQ;have eD:Ri k (dk r s who l) f.2=(vF k f.2.2.1 0 (zA (r.1-1))).bind fun x0=>
  bif !x0 then some (1,dk r s who l)
  else(vF k f.2.2.2.2.1 1 3).bind fun x1=>
  bif !x1 then some (1,dk r s who l)
  else(Hd k r s.t (ga who f)).bind fun x2=>
  bif !(decide (x2=0)) then some (x2,dk r s who l)
  else(Gu k s.ids f.2.1).bind fun x3=>
  bif !(decide (x3.2=0)) then some (x3.2,dk r s who l)
  else(xY k s.m (ga who f)).bind fun x4=>
  bif !(decide (x4.2=0)) then some (x4.2,dk r s who l)
  else some (0,dk r {s with m:=x4.1,ids:=x3.1} who l):=rfl
 rw[eD,nv,nv,aaj,w1,vXd (by omega) (by omega) h.asc,Zz (by omega) (by omega) (by unfold qW;omega)];simp only[ae];unfold iZ;cases decide (f.2.2.1≥0)&&decide (f.2.2.1≤r.1-1) with
 |false=>exact by simp
 |true=>
 cases decide (f.2.2.2.2.1≥1)&&decide (f.2.2.2.2.1≤3) with
 |false=>exact by simp
 |true=>
 by_cases hc:nx r s.t (ga who f)=0
 ·rw[aa hc];by_cases h1:f.2.1∈s.ids
  ·rw[aa h1];exact by simp
  ·rw[ab h1];by_cases h2:200≤s.ids.length
   ·rw[aa h2];exact by simp
   ·rw[ab h2];have e1:(ga who f).1=f.2.1:=rfl;rw[e1];cases(vU s.m f.2.1).isSome with
    |true=>exact by simp
    |false=>
     by_cases h3:40≤s.m.length
     ·rw[aa h3];exact by simp
     ·rw[ab h3];exact by simp
 ·rw[ab hc];exact by simp
def ny (who kd a:Int):yJ:=(who,kd,a,0,0,0,0,0)
theorem yYo {k l}(hl:l.length≤9999) r s who kd a:yo k (dk r s who l) kd [a]=some (dk r s who (l++[ny who kd a])):=by
 have e:yo k (dk r s who l) kd [a]=bif zO (l.length+1) 64 then some (dk r s who (l++[ny who kd a])) else none:=rfl
 rw[e,qG];rfl
def lf (r:qQ)(s:qH)(who:Int)(f:jH):Int×List zI×List yJ:=match vU s.m f.2.1 with
 |none=>(4,s.m,[])
 |some x=>
  bif !decide ((s.m.getD x pd).2.1=who) then(4,s.m,[])
  else bif decide (f.1=2) then(0,yL s.m x,[ny who 20 f.2.1])
  else bif decide (f.1 = 4) then (bif !(decide (f.2.2.1≥1)&&decide (f.2.2.1≤3)) then(1,s.m,[])
   else bif !decide (rf r.2.2.1 r.2.2.2.1 s.t f.2.2.1=0) then(rf r.2.2.1 r.2.2.2.1 s.t f.2.2.1,s.m,[])
   else(0,px (yL s.m x) ((s.m.getD x pd).1,(s.m.getD x pd).2.1,(s.m.getD x pd).2.2.1,(s.m.getD x pd).2.2.2.1,f.2.2.1,(s.m.getD x pd).2.2.2.2.2.1,(s.m.getD x pd).2.2.2.2.2.2),[]))
  else bif decide (f.2.2.1=0) then(0,LS (yL s.m x) (s.m.getD x pd),[])
  else bif decide (f.2.2.1=1) then(0,px (yL s.m x) (s.m.getD x pd),[])
  else(1,s.m,[])
theorem aak {k}(hk:9999≤k){r s}(h:la s.B.1.length s.m s.ids) who {l}(hl:l.length≤9999)(f:jH):
  ∃d,Co k (dk r s who l) f=some ((lf r s who f).1,d)∧((lf r s who f).1=0→d=dk r {s with m:=(lf r s who f).2.1} who (l++(lf r s who f).2.2)):=by
 have hm:=h.len;have oX:qW s.m:=by unfold qW;omega
 have eD : Co k (dk r s who l) f = ((pw k s.m f.2.1).bind fun x0=>
   bif decide (x0<0) then some (((0,0,0,0,0,0,0):zI),(4:Int))
   else bif zB x0 s.m.length then (bif !(decide ((s.m.getD x0.toNat (0,0,0,0,0,0,0)).2.1=who)) then some ((0,0,0,0,0,0,0),4)
    else bif zB x0 s.m.length then some ((s.m.getD x0.toNat (0,0,0,0,0,0,0)),0)
    else none)
   else none).bind fun x0=>
  bif !(decide (x0.2=0)) then some (x0.2,dk r s who l)
  else bif decide (f.1 = 2) then ((qs k s.m f.2.1).bind fun x1=>
   (yo k (dk r {s with m:=x1.1} who l) 20 [f.2.1]).bind fun x2=>
   some (x1.2.2.2.2.2.2.2.2,x2))
  else bif decide (f.1 = 4) then ((vF k f.2.2.1 1 3).bind fun x3=>
   bif !x3 then some (1,dk r s who l)
   else(Cn k r s.t f.2.2.1).bind fun x4=>
   bif !(decide (x4=0)) then some (x4,dk r s who l)
   else(Gp k s.m f.2.1 f.2.2.1).bind fun x5=>
   some (x5.2,dk r {s with m:=x5.1} who l))
  else bif decide (f.2.2.1 = 0) then ((Gs k s.m f.2.1).bind fun x6=>
   some (x6.2,dk r {s with m:=x6.1} who l))
  else bif decide (f.2.2.1 = 1) then ((Gq k s.m f.2.1).bind fun x7=>
   some (x7.2,dk r {s with m:=x7.1} who l))
  else some (1,dk r s who l):=rfl
 rw[eD,Gg (by omega) (by omega)];unfold lf fk;cases hx:vU s.m f.2.1 with
 |none=>exact by simp
 |some x=>
  have du:=kW hx;have e1:decide ((x:Int)<0)=false:=by simp
  simp only[ae,e1,ak,qA,aa du.1,ai,ao];by_cases hw:(s.m.getD x (0,0,0,0,0,0,0)).2.1=who
  ·have xy:(s.m.getD x pd).2.1=who:=hw;rw[aa hw];by_cases h2:f.1=2
   ·rw[aa h2];simp only[ai,B9 (show s.m.length<k by omega) oX,ae,yYo hl];unfold iD;rw[hx];exact by simp
   ·rw[ab h2];simp only[ak];by_cases h4:f.1=4
    ·rw[aa h4];simp only[ai,nv,ae,yLz,ZC (show 3≤k by omega) (by grind) oX h.dist hm hx];cases decide (f.2.2.1≥1)&&decide (f.2.2.1≤3) with
     |false=>exact by simp
     |true=>
      simp only[aB,ak];by_cases hc:rf r.2.2.1 r.2.2.2.1 s.t f.2.2.1=0
      all_goals simp_all
    ·rw[ab h4];simp only[ak];by_cases h0:f.2.2.1=0
     ·rw[aa h0];simp only[ai,vOg (show 3≤k by omega) (by grind) oX hx,ae];exact by simp
     ·rw[ab h0];simp only[ak];by_cases h1:f.2.2.1=1
      ·rw[aa h1];simp only[ai,vUa (show 3≤k by omega) (by grind) oX h.dist hm hx,ae];exact by simp
      ·rw[ab h1];exact by simp
  ·have xy:¬(s.m.getD x pd).2.1=who:=hw;rw[ab hw];exact by simp
def qW6 (s:qH)(a:List yA)(b:jL)(m:AC):qH:={s with B:=(a,b,m,s.B.2.2.2)}
def lg (r:qQ)(s:qH)(who:Int)(f:jH):Int×qH:=
 bif decide (f.1 = 5) then (bif !((decide (f.2.1≥0)&&decide (f.2.1≤r.1-1))&& !decide (f.2.1=who)) then(1,s)
  else bif !(decide (f.2.2.1≥-1)&&decide (f.2.2.1≤1152921504606846976)) then(1,s)
  else(0,qW6 s s.B.1 (s.B.2.1.set who.toNat ((s.B.2.1.getD who.toNat []).set f.2.1.toNat f.2.2.1)) s.B.2.2.1))
 else bif decide (f.1 = 6) then (bif !(decide (f.2.1≥-1)&&decide (f.2.1≤1152921504606846976)) then(1,s)
  else(0,qW6 s s.B.1 s.B.2.1 (s.B.2.2.1.set who.toNat f.2.1)))
 else bif !(decide (f.2.1≥0)&&decide (f.2.1≤1152921504606846976)) then(1,s)
 else(0,qW6 s (s.B.1.set who.toNat ((s.B.1.getD who.toNat ad).1,(s.B.1.getD who.toNat ad).2.1,f.2.1)) s.B.2.1 s.B.2.2.1)
theorem vW9 {k}(hk:9999≤k){r}(hr:wT r){s}(hb:qS s.B)(hn:(s.B.1.length:Int)=r.1){who}(hw:0≤who∧who<r.1) l (f:jH):
    ∃d,Cp k (dk r s who l) f=some ((lg r s who f).1,d)∧((lg r s who f).1=0→d=dk r (lg r s who f).2 who l):=by
  have hp:=hr.pa;have w1:zA (r.1-1)=r.1-1:=zQ;obtain⟨w,rfl⟩:=Int.eq_ofNat_of_zero_le hw.1;have gE:w<s.B.1.length:=by omega
  have eD:Cp k (dk r s w l) f=(gC k s.B.1 s.B.2.1 s.B.2.2.1 s.B.2.2.2).bind fun x0=>
    bif decide (f.1 = 5) then (((vF k f.2.1 0 (zA (r.1-1))).bind fun x0=>bif x0 then some (!(decide (f.2.1=(w:Int)))) else some false).bind fun x1=>
      bif !x1 then some (1,dk r s w l)
      else(vF k f.2.2.1 (-1) 1152921504606846976).bind fun x2=>
      bif !x2 then some (1,dk r s w l)
      else bif zB (w : Int) x0.2.1.length then (bif zB f.2.1 (x0.2.1.getD (w:Int).toNat []).length then
        some (0,dk r {s with B:=(x0.1,(x0.2.1.set (w:Int).toNat ((x0.2.1.getD (w:Int).toNat []).set f.2.1.toNat f.2.2.1)),x0.2.2.1,x0.2.2.2)} w l)
       else none)
      else none)
    else bif decide (f.1 = 6) then ((vF k f.2.1 (-1) 1152921504606846976).bind fun x3=>
      bif !x3 then some (1,dk r s w l)
      else bif zB (w:Int) x0.2.2.1.length then some (0,dk r {s with B:=(x0.1,x0.2.1,(x0.2.2.1.set (w:Int).toNat f.2.1),x0.2.2.2)} w l)
      else none)
    else(vF k f.2.1 0 1152921504606846976).bind fun x4=>
    bif !x4 then some (1,dk r s w l)
    else bif zB (w:Int) x0.1.length then some (0,dk r {s with B:=((x0.1.set (w:Int).toNat ((x0.1.getD (w:Int).toNat (0,0,0)).1,(x0.1.getD (w:Int).toNat (0,0,0)).2.1,f.2.1)),x0.2.1,x0.2.2.1,x0.2.2.2)} w l)
    else none:=rfl
  rw[eD,Lc (by omega) hb.toSized,w1];simp only[ae,nv,qA,ao];unfold lg;rw[ao];by_cases h5:f.1=5
  · rw[aa h5];simp only[ai];cases hc:decide (f.2.1≥0)&&decide (f.2.1≤r.1-1) with
    |false=>exact by simp
    |true=>
      simp  at hc;cases decide (f.2.1=(w:Int)) with
      |true=>exact by simp
      |false=>
        cases decide (f.2.2.1≥-1)&&decide (f.2.2.1≤1152921504606846976) with
        |false=>exact by simp
        |true=>
          have b1:decide (w<s.B.2.1.length)=true:=aa (by rw[hb.bl];exact gE);have b2:zB f.2.1 (s.B.2.1.getD w []).length=true:=jB hc.1 (by rw[hb.br w gE];omega);simp only[ai,ae,bN,aB,ak,b1,b2,Bool.and_self];exact⟨_,rfl,fun _=>rfl⟩
  · rw[ab h5];simp only[ak];by_cases h6:f.1=6
    · rw[aa h6];cases decide (f.2.1≥-1)&&decide (f.2.1≤1152921504606846976) with
      |false=>exact by simp
      |true=>
        have b1:decide (w<s.B.2.2.1.length)=true:=aa (by rw[hb.ml];exact gE);simp only[ai,aB,ak,b1];exact⟨_,rfl,fun _=>rfl⟩
    · rw[ab h6];cases decide (f.2.1≥0)&&decide (f.2.1≤1152921504606846976) with
      |false=>exact by simp
      |true=>
        have b1:decide (w<s.B.1.length)=true:=by grind
        simp only[ai,aB,ak,b1];exact⟨_,rfl,fun _=>rfl⟩
def He (s:qH)(w:Nat)(h:AC)(n:Int):Int×qH:=
 bif decide (n>1152921504606846976) then(8,s)
 else bif decide (n<(s.B.1.getD w ad).2.1)&&decide ((s.B.1.getD w ad).1+n<0) then(9,s)
 else(0,{s with B:=(s.B.1.set w ((s.B.1.getD w ad).1,n,(s.B.1.getD w ad).2.2),s.B.2.1,s.B.2.2.1,s.B.2.2.2),ho:=s.ho.set w h})
def lh (r:qQ)(s:qH)(who a many:Int):Int×qH:=
 bif !(decide (a≥0)&&decide (a≤(r.2.1.length:Int)-1)) then(1,s)
 else bif !(decide (many≥0)&&decide (many≤1099511627776)) then(1,s)
 else He s who.toNat ((s.ho.getD who.toNat []).set a.toNat many) (gD r.2.1 s.pr ((s.ho.getD who.toNat []).set a.toNat many))
theorem ki.set {sa pr h}(L:ki sa pr h){i}(hi:i<sa.length){v}(hv:0≤v∧v≤1099511627776):ki sa pr (h.set i v):=
 ⟨L.n3,L.pl,by rw[List.length_set];exact L.hl,L.cut,L.price,fun j hj=>by
  rw[fG];split
  ·exact hv
  ·exact L.hold j hj⟩
theorem ki.setP {sa pr h}(L:ki sa pr h){i}(hi:i<sa.length){v}(hv:0≤v∧v≤1048576):ki sa (pr.set i v) h:=
 ⟨L.n3,by rw[List.length_set];exact L.pl,L.hl,L.cut,fun j hj=>by
  rw[fG];split
  ·exact hv
  ·exact L.price j hj,L.hold⟩
theorem aal {k}{l:jL}(hl:l.length≤9999):Hf k l=some l:=by
 unfold Hf;rw[qG];rfl
theorem aam {k}(hk:9999≤k){r}(hr:wT r){s}(h:yF r s){who}(hw:0≤who∧who<r.1) l a many:
    ∃d,Rj k (dk r s who l) a many=some ((lh r s who a many).1,d)∧((lh r s who a many).1=0→d=dk r (lh r s who a many).2 who l):=by
  have hp:=hr.pa;have h3:=hr.n3;have hn:=h.n;have hY:=h.bk.n6;have hol:=h.hol;have w1:zA ((r.2.1.length:Int)-1)=(r.2.1.length:Int)-1:=zQ;obtain⟨w,rfl⟩:=Int.eq_ofNat_of_zero_le hw.1;have gE:w<s.B.1.length:=by omega
  have eD:Rj k (dk r s w l) a many=((vF k a 0 (zA ((r.2.1.length:Int)-1))).bind fun x0=>some x0).bind fun x0=>
    bif !x0 then some (1,dk r s w l)
    else(vF k many 0 1099511627776).bind fun x1=>
    bif !x1 then some (1,dk r s w l)
    else(Hf k s.ho).bind fun x2=>
    bif zB (w : Int) x2.length then ((qy k (x2.getD (w:Int).toNat []) a many).bind fun x3=>
      bif zB (w:Int) x2.length then(
       bif zB (w : Int) (x2.set (w : Int).toNat x3).length then ((nk k r.2.1 s.pr ((x2.set (w:Int).toNat x3).getD (w:Int).toNat [])).bind fun x4=>
        bif zB (w : Int) s.B.1.length then (bif !x4.2 then some (8,dk r s w l)
         else bif decide (x4.1>1152921504606846976) then some (8,dk r s w l)
         else bif decide (x4.1 < (s.B.1.getD (w : Int).toNat (0, 0, 0)).2.1) then (bif decide ((zA ((s.B.1.getD (w:Int).toNat (0,0,0)).1+x4.1))<0) then some (9,dk r s w l)
          else(gC k s.B.1 s.B.2.1 s.B.2.2.1 s.B.2.2.2).bind fun x5=>
          bif zB (w:Int) x5.1.length then
           some (0,dk r {s with B:=((x5.1.set (w:Int).toNat ((x5.1.getD (w:Int).toNat (0,0,0)).1,x4.1,(x5.1.getD (w:Int).toNat (0,0,0)).2.2)),x5.2.1,x5.2.2.1,x5.2.2.2),ho:=x2.set (w:Int).toNat x3} w l)
          else none)
         else(gC k s.B.1 s.B.2.1 s.B.2.2.1 s.B.2.2.2).bind fun x6=>
         bif zB (w:Int) x6.1.length then
          some (0,dk r {s with B:=((x6.1.set (w:Int).toNat ((x6.1.getD (w:Int).toNat (0,0,0)).1,x4.1,(x6.1.getD (w:Int).toNat (0,0,0)).2.2)),x6.2.1,x6.2.2.1,x6.2.2.2),ho:=x2.set (w:Int).toNat x3} w l)
         else none)
        else none)
       else none)
      else none)
    else none:=rfl
  rw[eD,w1,nv,nv,Lc (by omega) h.bk.toSized,aal (by omega)];simp only[ae,qA,ao];unfold lh;simp only[ao];cases hc:decide (a≥0)&&decide (a≤(r.2.1.length:Int)-1) with
  |false=>exact by simp
  |true=>
  simp only[aR,aZ] at hc;cases hm:decide (many≥0)&&decide (many≤1099511627776) with
  |false=>exact by simp
  |true=>
  obtain⟨i,rfl⟩:=Int.eq_ofNat_of_zero_le hc.1;have hi:i<r.2.1.length:=by omega
  have L:=h.laid w gE;have L2:=L.set hi (v:=many) (by grind);have b1:decide (w<s.ho.length)=true:=by grind
  have b2:decide (w<s.B.1.length)=true:=aa gE;have mC:qy k (s.ho.getD w []) (i:Int) many=some ((s.ho.getD w []).set i many):=by
    have:=yPu (k:=k) (l:=s.ho.getD w []) (by rw[L.hl];omega) (i:=(i:Int)) (by omega) (by rw[L.hl];omega) many;simp_all
  have Mu:(s.ho.set w ((s.ho.getD w []).set i many)).getD w []=(s.ho.getD w []).set i many:=by
    rw[fG,if_pos ⟨rfl,by omega⟩]
  have hv:=ZS (k:=k) L2 (by omega);have hb:=h.bk.nums.bal w gE;have Bg:=GB L2;simp only[aB,ak,b1,ai,mC,ae,List.length_set,Mu,hv,b2,ao];clear hv L2 Mu eD;generalize gD r.2.1 s.pr ((s.ho.getD w []).set i many)=n at Bg⊢;unfold He;cases h8':decide (n>1152921504606846976) with
  |true=>exact by simp
  |false=>
    have h8:¬n>1152921504606846976:=gW h8';have w2:zA ((s.B.1.getD w (0,0,0)).1+n)=(s.B.1.getD w (0,0,0)).1+n:=zQ (by have:=hb.1;simp only[ad] at this;omega) (by have:=hb.2;simp only[ad] at this;omega);simp only[w2,ak];cases decide (n<(s.B.1.getD w (0,0,0)).2.1) with
    |false=>exact by simp
    |true=>
      cases decide ((s.B.1.getD w (0,0,0)).1+n<0) with
      |true=>exact by simp
      |false=>exact by simp
def jW (a:yA)(n:Int):yA×Int:=bif fI (a.1+n,a.2.1,a.2.2) then((a.1+n,a.2.1,a.2.2),0) else(a,8)
theorem vHn {k}{a:yA}(ha:-4611686018427387904<a.1∧a.1<4611686018427387904){n}(hn:-1099511627776≤n∧n≤1099511627776):Mv k a n=some (jW a n):=by
 have ahJ:Rk k a.1 n=some (a.1+n,true):=by
  unfold Rk;have w1:n>0→zA (9223372036854775807-n)=9223372036854775807-n:=fun h=>zQ
  have w2:n<0→zA (-9223372036854775808-n)= -9223372036854775808-n:=fun h=>zQ
  have w3:zA (a.1+n)=a.1+n:=zQ;grind
 unfold Mv jW;simp[yNj];grind
abbrev u9:=Int×jH
theorem vRi k kd:∃n,uG k kd=some n∧-1≤n∧n≤6:=by
 have c:∀(b:Bool) (x y:Option Int),(∃n,x=some n∧-1≤n∧n≤6)→(∃n,y=some n∧-1≤n∧n≤6)→∃n,(bif b then x else y)=some n∧-1≤n∧n≤6:=by
  simp_all
 iterate 23 (refine c _ _ _ (by simp) ?_)
 simp
theorem yH9 {k}{s:AC}(hs:s.length≤6):∀n i,s.length<i+n→i≤s.length→∃x,mD k n s (s.length:Int) (i:Int)=some x
 |0,i,h,g=>by omega
 |n+1,i,h,g=>by
  show∃x,lI k (mD k n) s (s.length:Int) (i:Int)=some x;unfold lI;by_cases hi:i<s.length
  ·simp only[qV,aa hi,qA,ao];cases decide (s.getD i 0=0) with
   |false=>simp
   |true=>
    rw[qD hi (by omega)];exact yH9 hs n (i+1) (by omega) hi
  ·simp only[qV,ab hi];simp
theorem yE0 {k}(hk:10≤k)(f:jH):∃b,lJ k f=some b:=by
 unfold lJ;obtain⟨n,h1,h2,h3⟩:=vRi k f.1;rw[h1];simp;by_cases h0:n<0
 ·simp_all
 ·rw[ab h0,aa (by grind),aa h3];have hl:(qO [f.2.1,f.2.2.1,f.2.2.2.1,f.2.2.2.2.1,f.2.2.2.2.2.1,f.2.2.2.2.2.2] n.toNat (6-n.toNat)).length≤6:=by
   unfold qO;simp
  obtain⟨x,hx⟩:=yH9 (k:=k) hl k 0 (by omega) (by simp);rw[show((0:Nat):Int)=0 from rfl] at hx;rw[hx];cases x<;>exact by simp
theorem qZg k a:Rl k a=some (decide (a≥10)&&decide (a≤14)):=by
 unfold Rl;grind
theorem qWz k a:Mw k a=some (decide (a≥1)&&decide (a≤14)):=by
 unfold Mw;grind
def vGm (A B C D E F G b o:Bool):Int:=
 bif !(D&&C) then 5 else bif !b then 5 else bif B&&C then(bif !E then 5 else bif o&& !G then 7 else 0) else bif !(A&&F) then 5 else bif o&& !G then 7 else 0
theorem vY5:∀{A B C D E F G b o},vGm A B C D E F G b o=0→(D&&C&&((B&&E)||(!B&&A&&F))&&(!o||G))=true:=by
 intro A B C D E F G b o h;cases A<;>cases B<;>cases C<;>cases D<;>cases E<;>cases F<;>cases G<;>cases b<;>cases o<;>first|rfl|exact absurd h (by decide)
theorem vP8 {k}(hk:10≤k)(r:qQ)(s:qH)(c:u9):∃b,yp k r s.st c=some (vGm (decide (c.1≥0)) (decide (c.2.1≥10)) (decide (c.2.1≤14)) (decide (c.2.1≥1)) (decide (c.1= -1)) (decide (c.1<r.1)) (decide (c.2.1=9)) b s.ov):=by
 unfold yp;rw[qZg,qWz];obtain⟨b,hb⟩:=yE0 hk c.2;rw[hb];have eo:s.st.2.2.2.2.2.2.2.2.2.2=s.ov:=rfl;rw[eo];refine⟨b,?_⟩;generalize decide (c.1≥0)=A;generalize decide (c.2.1≥10)=B;generalize decide (c.2.1≤14)=C;generalize decide (c.2.1≥1)=D;generalize decide (c.1= -1)=E;generalize decide (c.1<r.1)=F;generalize decide (c.2.1=9)=G;generalize s.ov=o;cases A<;>cases B<;>cases C<;>cases D<;>cases E<;>cases F<;>cases G<;>cases b<;>cases o<;>rfl
theorem vMs {k}(hk:10≤k)(r:qQ)(s:qH)(c:u9):∃e,yp k r s.st c=some e∧
  (e=0→((10≤c.2.1∧c.2.1≤14∧c.1= -1)∨(1≤c.2.1∧c.2.1≤9∧0≤c.1∧c.1<r.1))∧(s.ov=true→c.2.1=9)):=by
 obtain⟨b,hb⟩:=vP8 hk r s c;refine⟨_,hb,fun e=>?_⟩;have:=vY5 e;grind
def jP (f:jH):AC:=[f.2.1,f.2.2.1,f.2.2.2.1,f.2.2.2.2.1,f.2.2.2.2.2.1,f.2.2.2.2.2.2]
theorem vD6 {k:Nat}{s:AC}:∀(n i:Nat),s.length≤6→mD k n s (s.length:Int) (i:Int)=some (.inl ())→∀j,i≤j→j<s.length→s.getD j 0=0
 |0,i,_,h,_,_,_=>by cases h
 |n+1,i,h6,h,j,h1,h2=>by
  have h:lI k (mD k n) s (s.length:Int) (i:Int)=some (.inl ()):=h;unfold lI at h;have hi:i<s.length:=by omega
  rw[aa (show(i:Int)<s.length by omega),qA,aa hi,ao] at h;simp only[ai] at h;cases hz:decide (s.getD i 0=0) with
  |false=>rw[hz] at h;cases h
  |true=>
   rw[hz] at h;simp only[aB,ak] at h;rw[qD hi (by omega)] at h;by_cases e:j=i
   ·subst e;exact uE hz
   ·exact vD6 n (i+1) h6 h j (by omega) h2
theorem yXx {k:Nat}{f:jH}(h:lJ k f=some true):0≤yP f.1∧∀j,(yP f.1).toNat≤j→j<6→(jP f).getD j 0=0:=by
 unfold lJ at h;rw[KR,ae] at h;have hm:=E0 f.1;by_cases h0:yP f.1<0
 ·rw[aa h0] at h;cases h
 ·rw[ab h0,aa (show(0:Int)≤yP f.1 by omega),aa hm] at h;simp only[ak,Bool.and_self,ai] at h;refine⟨by omega,fun j h1 h2=>?_⟩;have hs:qO [f.2.1,f.2.2.1,f.2.2.2.1,f.2.2.2.2.1,f.2.2.2.2.2.1,f.2.2.2.2.2.2] (yP f.1).toNat (6-(yP f.1).toNat)=(jP f).drop (yP f.1).toNat:=by
   unfold qO;show List.take _ ((jP f).drop _)=_;exact List.take_of_length_le (by rw[List.length_drop];show 6-_≤_;omega)
  rw[hs] at h;have hl:((jP f).drop (yP f.1).toNat).length=6-(yP f.1).toNat:=by rw[List.length_drop];rfl
  cases hz:mD k k ((jP f).drop (yP f.1).toNat) (((jP f).drop (yP f.1).toNat).length:Int) 0 with
  |none=>rw[hz] at h;cases h
  |some z=>
   rw[hz] at h;cases z with
   |inr b=>
    exfalso;have key:∀(n i:Nat) (b:Bool),mD k n ((jP f).drop (yP f.1).toNat) (((jP f).drop (yP f.1).toNat).length:Int) (i:Int)=some (.inr b)→i≤6→b=false:=by
     intro n
     induction n with
     |zero=>intro i b h;cases h
     |succ n ih=>
      intro i b h h6;have h:lI k (mD k n) _ _ _=some (.inr b):=h;unfold lI at h;by_cases hi:i<((jP f).drop (yP f.1).toNat).length
      ·rw[aa,qA,aa hi] at h;simp only[ai] at h;cases hz:decide (((jP f).drop (yP f.1).toNat).getD (i:Int).toNat 0=0) with
       |false=>rw[hz] at h;cases h;rfl
       |true=>
        rw[hz] at h;simp only[aB,ak] at h;rw[qD hi (by omega)] at h;exact ih (i+1) b h (by omega)
      ·rw[ab] at h;cases h
    have:=key k 0 b hz (by omega);subst this;cases h
   |inl u=>
    have:=vD6 (k:=k) k 0 (by omega) hz (j-(yP f.1).toNat) (Nat.zero_le _) (by omega);rw[bX,List.getElem?_drop] at this;rw[bX,←this]
    congr 2
    omega
theorem aan {k:Nat}(hk:10≤k){f:jH}(h0:0≤yP f.1)(hz:∀j,(yP f.1).toNat≤j→j<6→(jP f).getD j 0=0):lJ k f=some true:=by
 have hm:=E0 f.1;unfold lJ;rw[KR,ae,ab,aa (show(0:Int)≤yP f.1 by omega),aa hm];simp only[ak,Bool.and_self,ai];have hs:qO [f.2.1,f.2.2.1,f.2.2.2.1,f.2.2.2.2.1,f.2.2.2.2.2.1,f.2.2.2.2.2.2] (yP f.1).toNat (6-(yP f.1).toNat)=(jP f).drop (yP f.1).toNat:=by
  unfold qO;show List.take _ ((jP f).drop _)=_;exact List.take_of_length_le (by rw[List.length_drop];show 6-_≤_;omega)
 rw[hs];have hl:((jP f).drop (yP f.1).toNat).length=6-(yP f.1).toNat:=by rw[List.length_drop];rfl
 have hg:∀i,i<((jP f).drop (yP f.1).toNat).length→((jP f).drop (yP f.1).toNat).getD i 0=0:=fun i hi=>by
  have:=hz ((yP f.1).toNat+i) (by omega) (by omega);rw[bX] at this;rw[bX,List.getElem?_drop];exact this
 generalize (jP f).drop (yP f.1).toNat=s at hl hg⊢;have := fg (L := fun n i => mD k n s (s.length : Int) i) (N := s.length) (fun _ => true) (.inl ()) (.inr false) (fun n=>by
  show lI k _ s (s.length:Int) (s.length:Int)=_;unfold lI;rw[ab (Int.lt_irrefl _)];rfl) (fun n i hi=>by
  show lI k _ s (s.length:Int) (i:Int)=_;unfold lI;rw[aa (show(i:Int)<s.length by omega),qA,aa hi,ao,hg i hi,qD hi (by omega)];rfl) (n:=k) (by omega)
 rw[show qB (fun _=>true) s.length 0=true from wI.2 fun _ _=>rfl] at this;exact(congrArg (fun z=>Option.bind z _) this).trans rfl
theorem yWa:∀(n:Nat) (b:AC),P6 (fi n b)
 |0,_=>fun x hx=>absurd hx List.not_mem_nil
 |n+1,b=>fun x hx=>by
  have hx:x∈iA (b.take 8)::fi n (b.drop 8):=hx;rcases List.mem_cons.1 hx with rfl|hx
  ·unfold iA;exact⟨X4 _,X5 _⟩
  ·exact yWa n _ x hx
theorem aao {k:Nat}(hk:10≤k){b:AC}(h:(pn b).2=0):lJ k (pn b).1=some true∧P6 (jP (pn b).1):=by
 unfold pn at h⊢;by_cases h1:b=[]
 ·rw[if_pos h1] at h;cases h
 ·rw[if_neg h1] at h⊢;by_cases h2:(fH (b.drop 1)).2≠0∨((fH (b.drop 1)).1.length:Int)≠yP (zA (b.getD 0 0))
  ·rw[if_pos h2] at h;cases h
  ·rw[if_neg h2];have h3:((fH (b.drop 1)).1.length:Int)=yP (zA (b.getD 0 0)):=Decidable.byContradiction fun e=>h2 (.inr e)
   have h4:P6 (fH (b.drop 1)).1:=by
    unfold fH;split
    ·exact yWa _ _
    ·exact fun x hx=>absurd hx List.not_mem_nil
   generalize (fH (b.drop 1)).1=l at h3 h4;have hg:∀j,j<6→(jP (zA (b.getD 0 0),l.getD 0 0,l.getD 1 0,l.getD 2 0,l.getD 3 0,l.getD 4 0,l.getD 5 0)).getD j 0=l.getD j 0:=fun j hj=>by
    have:j=0∨j=1∨j=2∨j=3∨j=4∨j=5:=by omega
    rcases this with rfl|rfl|rfl|rfl|rfl|rfl<;>rfl
   refine⟨aan hk (by show 0≤yP (zA (b.getD 0 0));omega) (fun j h5 h6=>?_),fun x hx=>?_⟩
   ·have h5:(yP (zA (b.getD 0 0))).toNat≤j:=h5;rw[hg j h6,bX,List.getElem?_eq_none (by omega)];rfl
   ·obtain⟨j,hj,rfl⟩:=List.mem_iff_getElem.1 hx;have hj6:j<6:=hj;have:=hg j hj6;rw[bX,List.getElem?_eq_getElem hj] at this;have:(jP (zA (b.getD 0 0),l.getD 0 0,l.getD 1 0,l.getD 2 0,l.getD 3 0,l.getD 4 0,l.getD 5 0))[j]=l.getD j 0:=this;show-9223372036854775808≤(jP (zA (b.getD 0 0),l.getD 0 0,l.getD 1 0,l.getD 2 0,l.getD 3 0,l.getD 4 0,l.getD 5 0))[j]∧(jP (zA (b.getD 0 0),l.getD 0 0,l.getD 1 0,l.getD 2 0,l.getD 3 0,l.getD 4 0,l.getD 5 0))[j]<9223372036854775808;rw[this];by_cases sn:j<l.length
    ·rw[bX,List.getElem?_eq_getElem sn];exact h4 _ (List.getElem_mem sn)
    ·rw[bX,List.getElem?_eq_none (by omega)];show(-9223372036854775808:Int)≤0∧(0:Int)<9223372036854775808;omega
theorem yOo x:yK .i64 x 4294967295=x%4294967296:=yYm 32 (by omega) x
theorem vDg x:shr .i64 x 32=x/4294967296:=by
 show x.fdiv (2^(min 32 64))=_;grind
theorem vRd x:shl .i64 x 32=zA (x*4294967296):=rfl
theorem vO0 (x y:Int):yE false x y=max x y:=by
 unfold yE;by_cases h:y>x
 ·rw[aa h];show y=_;omega
 ·rw[ab h];show x=_;omega
theorem aap (x y:Int):yE true x y=min x y:=by
 unfold yE;by_cases h:y<x
 ·rw[aa h];show y=_;omega
 ·rw[ab h];show x=_;omega
section
variable {k:Nat} {ro sx sy cA cK op:Int} {x y b:AC} {ar:Bool}
theorem aaq (hx:0≤sx∧sx≤(x.length:Int))(hy:0≤sy∧sy≤(y.length:Int))(lx:x.length≤1000000)(ly:y.length≤1000000)(hk:cK<9223372036854775808):
  fK k (ro,x,sx,y,sy,cA,cK,ar,false,op)=some (false,(ro,x,sx,y,sy,cA,cK,ar,false,zA (op+1)))∨
  (ar=true∧∃a c:Nat,sx≤(a:Int)∧a≤x.length∧sy≤(c:Int)∧c≤y.length∧fK k (ro,x,sx,y,sy,cA,cK,ar,false,op)=some (true,(ro,x.take a,(a:Int),y.take c,(c:Int),cA,cK,ar,true,op))):=by
 cases ar with
 |false=>exact .inl rfl
 |true=>
 by_cases h:op<cA
 ·left;unfold fK;dsimp only;rw[aB,ak,aa h];rfl
 ·right;refine⟨rfl,?_⟩;obtain⟨a,ha⟩:∃a:Nat,sx+min (max cK 0) ((x.length:Int)-sx)=(a:Int):=⟨(sx+min (max cK 0) ((x.length:Int)-sx)).toNat,by omega⟩;obtain⟨c,hc⟩:∃c:Nat,sy+min (max cK 0-min (max cK 0) ((x.length:Int)-sx)) ((y.length:Int)-sy)=(c:Int):=⟨(sy+min (max cK 0-min (max cK 0) ((x.length:Int)-sx)) ((y.length:Int)-sy)).toNat,by omega⟩;refine⟨a,c,by omega,by omega,by omega,by omega,?_⟩;have w1:zA ((x.length:Int)-sx)=(x.length:Int)-sx:=zQ;have w2:zA ((y.length:Int)-sy)=(y.length:Int)-sy:=zQ;have w3:zA (max cK 0-min (max cK 0) ((x.length:Int)-sx))=max cK 0-min (max cK 0) ((x.length:Int)-sx):=zQ;have w4:zA (sx+min (max cK 0) ((x.length:Int)-sx))=(a:Int):=by rw[ha];exact zQ
  have w5:zA (sy+min (max cK 0-min (max cK 0) ((x.length:Int)-sx)) ((y.length:Int)-sy))=(c:Int):=by rw[hc];exact zQ
  unfold fK;dsimp only;simp only[vO0,aap,w1,w2,w3,w4,w5];rw[aB,ak,ab h,ak,aa (show(0:Int)≤(a:Int) by omega),aa (show(a:Int)≤(x.length:Int) by omega),aa (show(0:Int)≤(c:Int) by omega),aa (show(c:Int)≤(y.length:Int) by omega)];simp only[Bool.and_self,ai,ao,Nat.sub_zero]
end
structure vKr (D:vR):Prop where
 x:D.2.2.1=(D.2.1.length:Int)
 y:D.2.2.2.2.1=(D.2.2.2.1.length:Int)
 room:0≤D.1∧D.1≤200000
 lx:(D.2.1.length:Int)≤D.1
 ly:(D.2.2.2.1.length:Int)≤D.1
 ck:D.2.2.2.2.2.2.1<9223372036854775808
def wV (D:vR):Bool:=D.2.2.2.2.2.2.2.2.1
def vIy (D:vR):Bool:=D.2.2.2.2.2.2.2.1
structure ahK (D D':vR) (i:Int) (c:AC) (dn:Bool):Prop where
 clean:vKr D'
 room:D'.1=D.1
 it:kU D' i=c
 oth:kU D' (1-i)=kU D (1-i)
 dn:wV D'=dn
 ar:vIy D'=vIy D
structure Kb (k:Nat) (l:AC):Prop where
 n:l.length<k
 m:l.length≤100000
 w:P6 l
theorem vBv s:yH (iW s)=fV [s.1,s.2.2.2.2.2.2.2.2.2.1,bif s.2.2.2.2.2.2.2.2.2.2 then 1 else 0,(s.2.1.length:Int),(s.2.2.1.length:Int),(s.2.2.2.1.length:Int),(s.2.2.2.2.1.length:Int),(s.2.2.2.2.2.2.1.length:Int),(s.2.2.2.2.2.2.2.1.length:Int)]++
  (yH (s.2.1.map lG)++(yH s.2.2.1++(fV s.2.2.2.1++(yH s.2.2.2.2.1++(fV s.2.2.2.2.2.1++(yH s.2.2.2.2.2.2.1++(yH (s.2.2.2.2.2.2.2.1.map lH)++(fV s.2.2.2.2.2.2.2.2.1++[])))))))):=by
 simp[iW,yH]
theorem aar n (i:Nat)(hi:i≤7):IntKind.wrap .u8 (shr .u64 (IntKind.wrap .u64 n) (IntKind.wrap .u64 (8*(i:Int))))=vN n i:=by
 rw[vR3 n i hi];have e:∀x:Int,∀j:Nat,j≤56→shr .u64 x (j:Int)=x/2^j:=fun x j hj=>by
  unfold shr;rw[ao,Nat.min_eq_left (show j≤IntKind.bits .u64 from Nat.le_trans hj (by decide)),Int.fdiv_eq_ediv_of_nonneg _ (by grind)]
 have w:IntKind.wrap .u64 (8*(i:Int))=((8*i:Nat):Int):=by
  rw[Yg];omega
 rw[w,e _ _ (by omega),Yg,KT];have:i=0∨i=1∨i=2∨i=3∨i=4∨i=5∨i=6∨i=7:=by omega
 rcases this with rfl|rfl|rfl|rfl|rfl|rfl|rfl|rfl<;>(omega)<;>omega
theorem aas {k l}(j:Nat)(hj:j<l.length)(hl:l.length≤1000000):∀c n,c<n→c≤8→∀r:AC,r.length+c≤100000000→Mx k n l (j:Int) (8*(c:Int)-8) r=some (l,(j:Int),r++(fj (l.getD j 0)).drop (8-c)):=by
 intro c
 induction c with
 |zero=>
  intro n h1 _ r hr;obtain⟨n,rfl⟩:=ara n;rw[show(fj (l.getD j 0)).drop (8-0)=[] from rfl,List.append_nil];rfl
 |succ c ih=>
  intro n h1 h2 r hr;obtain⟨n,rfl⟩:=ara n;have g:=ih n (by omega) (by omega) (r++[vN (l.getD j 0) c]) (by grind);show Rm k (Mx k n) l _ _ r=_;unfold Rm;have e8:8*((c+1:Nat):Int)-8=8*(c:Int):=by omega
  have w:IntKind.wrap .u64 (8*(c:Int))=8*(c:Int):=by rw[Yg];omega
  rw[e8,aa,ai,jB,ai];rw[show decide (IntKind.wrap .u64 (8*(c:Int))<0)=false from by grind,bN,ai,qG,ai,ao];rw[aar _ _ (by omega),show zA (8*(c:Int)-8)=8*(c:Int)-8 by rw[zQ],g,List.append_assoc];have:c=0∨c=1∨c=2∨c=3∨c=4∨c=5∨c=6∨c=7:=by omega
  rcases this with rfl|rfl|rfl|rfl|rfl|rfl|rfl|rfl<;>rfl
theorem My {k}(hk:9≤k){l}(hl:l.length≤1000000)(pQ:l.length<k):yq k l=some (jM l):=by
 have all:∀(c n j:Nat),j+c=l.length→c<n→Cq k n l (j:Int) (jM (l.take j))=some (jM l):=by
  intro c
  induction c with
  |zero=>
   intro n j h1 h2;obtain⟨n,rfl⟩:=ara n;show Hg k (Cq k n) l _ _=_;unfold Hg;rw[ab,List.take_of_length_le (by omega)];rfl
  |succ c ih=>
   intro n j h1 h2;obtain⟨n,rfl⟩:=ara n;have hj:j<l.length:=by omega
   have g:=ih n (j+1) (by omega) (by omega);have hlen:(jM (l.take j)).length=8*j:=by rw[ql,bY];omega
   have g1:=aas (k:=k) j hj hl 8 k (by omega) (by omega) (jM (l.take j)) (by omega);rw[show(8*((8:Nat):Int)-8)=56 from rfl] at g1;show Hg k (Cq k n) l _ _=_;unfold Hg;rw[aa,ai,g1,ae];rw[qD hj (by omega)];have e:jM (l.take (j+1))=jM (l.take j)++(fj (l.getD j 0)).drop (8-8):=by
    rw[←fF l j 0 hj];simp[jM]
   rw[e] at g;exact g
 unfold yq;have:=all l.length k 0 (by omega) (by omega);have this:Cq k k l 0 []=some (jM l):=this;rw[this];rfl
theorem Cr {k}(hk:9≤k){l}(hl:l.length≤1000000)(pQ:l.length<k):kj k l=some (fV l):=by
 unfold kj;rw[My hk (by simp) (by grind),ae,My hk hl pQ,ae,qG (by simp[ql];omega) (by simp[ql];omega),ai];rfl
theorem qPe {k}(hk:9999≤k){l}(h:jC l):pD k l=some (yH l):=by
 have hn:=h.n;unfold pD;obtain ⟨s, h1, h2⟩ := vB (L := fun n i (s : AC) => Hh k n l i s) (N := l.length) (fun s => s) (fun i s => s = yH (l.take i)) (fun n s _=>by
  show Hi k (Hh k n) l _ s=_;unfold Hi;simp) (fun n i s hi hs=>by
  refine⟨s++fV (l.getD i []),?_,by rw[hs,yZx hi]⟩;show Hi k (Hh k n) l (i:Int) s=_;unfold Hi;have hr:=h.r _ (fU (d:=[]) hi);have pW:s.length≤20000*9999:=by
   have:=KU (l:=l.take i) fun x hx=>h.r x (by grind)
   grind
  rw[aa,ai,jB,ai,ao,Cr (by omega) (by omega) (by omega),ae,
   qG (by rw[sR];omega) (by rw[sR];omega),ai,qD (N:=l.length) hi (by omega)]) (n:=k) (s:=[]) (by omega) rfl
 simp_all
theorem qSk a b:yH (a++b)=yH a++yH b:=by simp[yH]
theorem vLx {k}(hk:9999≤k){s:uH}{b1:List (Int×Int×Int)×EQ×AC×EQ}(hl:b1.1.length≤2400) r (hr:r.length≤100000000):vd k k 0 s b1 r=some (s,b1,r++yH (b1.1.map lG)):=by
 obtain ⟨t, h1, h2⟩ := vB (L := fun n i (t : AC) => vd k n i s b1 t) (N := b1.1.length) (fun t => (s, b1, t)) (fun i t => t = r ++ yH ((b1.1.take i).map lG)) (fun n t _=>by
  show Hj k (vd k n) _ s b1 t=_;unfold Hj;simp) (fun n i t hi ht=>by
  refine⟨t++fV (lG (b1.1.getD i (0,0,0))),?_,by rw[ht,List.append_assoc,←P3 lG (0,0,0) hi,qSk];rfl⟩;show Hj k (vd k n) (i:Int) s b1 t=_;unfold Hj;have hlen:t.length≤100000000+20000*2400:=by
   have:=KU (l:=(b1.1.take i).map lG) fun x hx=>by
    obtain⟨y,_,rfl⟩:=List.mem_map.1 hx;show 3≤2400
    decide
   grind
  rw[aa,ai,jB,ai,ai,ai];have aT:=Cr (k:=k) (by omega) (l:=lG (b1.1.getD i (0,0,0))) (by show 3≤1000000;decide) (by show 3<k;omega);refine(congrArg (fun z=>Option.bind z _) aT).trans ?_;have h32:(fV (lG (b1.1.getD i (0,0,0)))).length=32:=rfl;simp only[ae];rw[qG,ai,qD (N:=b1.1.length) hi (by omega)]) (n:=k) (s:=r) (by omega) (by simp[yH])
 simp_all
theorem vR1 {k}(hk:9999≤k){s:uH}(hl:s.2.2.2.2.2.2.2.1.length≤2400) r (hr:r.length≤100000000):vf k k 0 s r=some (s,r++yH (s.2.2.2.2.2.2.2.1.map lH)):=by
 obtain ⟨t, h1, h2⟩ := vB (L := fun n i (t : AC) => vf k n i s t) (N := s.2.2.2.2.2.2.2.1.length) (fun t => (s, t)) (fun i t => t = r ++ yH ((s.2.2.2.2.2.2.2.1.take i).map lH)) (fun n t _=>by
  show Hk k (vf k n) _ s t=_;unfold Hk;simp) (fun n i t hi ht=>by
  refine⟨t++fV (lH (s.2.2.2.2.2.2.2.1.getD i (0,0,0,0,0,0,0))),?_,by rw[ht,List.append_assoc,←P3 lH (0,0,0,0,0,0,0) hi,qSk];rfl⟩;show Hk k (vf k n) (i:Int) s t=_;unfold Hk;have hlen:t.length≤100000000+20000*2400:=by
   have:=KU (l:=(s.2.2.2.2.2.2.2.1.take i).map lH) fun x hx=>by
    obtain⟨y,_,rfl⟩:=List.mem_map.1 hx;show 7≤2400
    decide
   grind
  rw[aa,ai,jB,ai];have aT:=Cr (k:=k) (by omega) (l:=lH (s.2.2.2.2.2.2.2.1.getD i (0,0,0,0,0,0,0))) (by show 7≤1000000;decide) (by show 7<k;omega);refine(congrArg (fun z=>Option.bind z _) aT).trans ?_;have bS:(fV (lH (s.2.2.2.2.2.2.2.1.getD i (0,0,0,0,0,0,0)))).length=64:=rfl;simp only[ae];rw[qG,ai,qD (N:=s.2.2.2.2.2.2.2.1.length) hi (by omega)]) (n:=k) (s:=r) (by omega) (by simp[yH])
 simp_all
theorem yUv {k}(hk:9999≤k){s}(h:jC (iW s)):ot k s=some (yH (iW s)):=by
  have hn:=h.n;have Ep:=h.n;have hr:=h.r;have bn:=KU hr;have eq:=vBv s;obtain⟨S,hS⟩:∃S,yH (iW s)=S:=⟨_,rfl⟩;rw[hS] at eq bn⊢;obtain⟨t,ac,bi,mu,po,pr,ho,pa,ids,to,ov⟩:=s;have dp : ∀ x, (x ∈ bi ∨ x = mu ∨ x ∈ po ∨ x = pr ∨ x ∈ ho ∨ x = ids) → x.length ≤ 2400 := fun x hx => hr x (by
    simp only[iW,List.mem_append,List.mem_singleton];rcases hx with h|h|h|h|h|h<;>simp[h])
  simp only[iW,aA,List.length_cons,List.length_nil,List.length_map] at hn;dsimp only at eq;have l1:=congrArg List.length eq;simp only[aA] at l1;have fb:jC bi:=⟨by omega,fun x hx=>dp x (.inl hx)⟩;have fp:jC po:=⟨by omega,fun x hx=>dp x (.inr (.inr (.inl hx)))⟩;have fh:jC ho:=⟨by omega,fun x hx=>dp x (.inr (.inr (.inr (.inr (.inl hx)))))⟩;have hmu:=dp mu (.inr (.inl rfl));have pq:=dp pr (.inr (.inr (.inr (.inl rfl))));have kI:=dp ids (.inr (.inr (.inr (.inr (.inr rfl)))));have go : ∀ (o : Int), ((kj k [t,to,o,(ac.length:Int),(bi.length:Int),(mu.length:Int),(po.length:Int),(ho.length:Int),(pa.length:Int)]).bind fun x0=>
      (vd k k 0 (t,ac,bi,mu,po,pr,ho,pa,ids,to,ov) (ac,bi,mu,po) x0).bind fun z=>
      (pD k z.2.1.2.1).bind fun x2=>
      bif zO (z.2.2.length + x2.length) 1 then ((kj k z.2.1.2.2.1).bind fun x3=>
       bif zO ((z.2.2 ++ x2).length + x3.length) 1 then ((pD k z.2.1.2.2.2).bind fun x4=>
        bif zO (((z.2.2 ++ x2) ++ x3).length + x4.length) 1 then ((kj k z.1.2.2.2.2.2.1).bind fun x5=>
         bif zO ((((z.2.2 ++ x2) ++ x3) ++ x4).length + x5.length) 1 then ((pD k z.1.2.2.2.2.2.2.1).bind fun x6=>
          bif zO (((((z.2.2 ++ x2) ++ x3) ++ x4) ++ x5).length + x6.length) 1 then ((vf k k 0 z.1 (((((z.2.2++x2)++x3)++x4)++x5)++x6)).bind fun z1=>
           (kj k z1.1.2.2.2.2.2.2.2.2.1).bind fun x8=>
           bif zO (z1.2.length+x8.length) 1 then some (z1.2++x8)
           else none)
          else none)
         else none)
        else none)
       else none)
      else none)=some (fV [t,to,o,(ac.length:Int),(bi.length:Int),(mu.length:Int),(po.length:Int),(ho.length:Int),(pa.length:Int)]++(yH (ac.map lG)++(yH bi++(fV mu++(yH po++(fV pr++(yH ho++(yH (pa.map lH)++(fV ids++[]))))))))):=fun o=>by
    have h9:(fV [t,to,o,(ac.length:Int),(bi.length:Int),(mu.length:Int),(po.length:Int),(ho.length:Int),(pa.length:Int)]).length=80:=rfl;have h9':(fV [t,to,bif ov then 1 else 0,(ac.length:Int),(bi.length:Int),(mu.length:Int),(po.length:Int),(ho.length:Int),(pa.length:Int)]).length=80:=rfl;rw[h9'] at l1;rw[Cr (by omega) (by simp) (by simp;omega)];simp only[ae];rw[vLx hk (by show ac.length≤2400;omega) _ (by omega)];simp only[ae];rw[qPe hk fb,ae,qG (by simp only[aA];omega) (by simp only[aA];omega),ai];rw[Cr (by omega) (by omega) (by omega),ae,qG (by simp only[aA];omega) (by simp only[aA];omega),ai];rw[qPe hk fp,ae,qG (by simp only[aA];omega) (by simp only[aA];omega),ai];rw[Cr (by omega) (by omega) (by omega),ae,qG (by simp only[aA];omega) (by simp only[aA];omega),ai];rw[qPe hk fh,ae,qG (by simp only[aA];omega) (by simp only[aA];omega),ai];rw[vR1 hk (by show pa.length≤2400;omega) _ (by simp only[aA];omega)];simp only[ae];rw[Cr (by omega) (by omega) (by omega),ae,qG (by simp only[aA];omega) (by simp only[aA];omega),ai];simp only[List.append_assoc,List.append_nil]
  rw[eq];unfold ot;cases ov with
  |false=>exact go 0
  |true=>exact go 1
def qT (D:vR):wX:=(D.2.1,D.2.2.2.1,D.2.2.1,D.2.2.2.2.1,D.1,D.2.2.2.2.2.2.2.2.2,D.2.2.2.2.2.1,D.2.2.2.2.2.2.1,D.2.2.2.2.2.2.2.1,D.2.2.2.2.2.2.2.2.1)
def hZ (L:wK):wK:=(L.2.1,L.1,L.2.2.1,L.2.2.2)
def mp {α:Type}(z:α×vR):α×wX:=(z.1,qT z.2)
def Hm {α:Type}(z:α×wK×vR):α×wK×wX:=(z.1,hZ z.2.1,qT z.2.2)
theorem vV2 {α β:Type}(f:α→β) c a b:Option.map f (bif c then a else b)=bif c then Option.map f a else Option.map f b:=by
 grind
theorem Rn k D:vg k (qT D)=(fK k D).map mp:=by
 unfold vg fK;simp[vV2];rfl
theorem vCd {k}{D D':vR}{c}(h:fK k D=some (c,D')):D'.2.1.length≤D.2.1.length∧D'.2.2.2.1.length≤D.2.2.2.1.length:=by
 unfold fK at h;grind
theorem vAl {k D i}(hi:i=0∨i=1){b}(hx:D.2.1.length≤1000000)(hy:D.2.2.2.1.length≤1000000)(hb:b.length≤1000000):Hn k (qT D) i b=(vh k D i b).map mp:=by
 show(bif wV D then _ else _)=Option.map mp (bif wV D then _ else _);cases wV D with
 |true=>rfl
 |false=>
  have hl:=@vCd k D;rcases hi with rfl|rfl
  · show(bif decide ((b.length:Int)>zA (D.1-(D.2.1.length:Int))) then _ else(vg k (qT D)).bind _)=Option.map mp (bif decide ((b.length:Int)>zA (D.1-(D.2.1.length:Int))) then _ else(fK k D).bind _);cases decide ((b.length:Int)>zA (D.1-(D.2.1.length:Int))) with
    |true=>rfl
    |false=>
     rw[Rn];cases hq:fK k D with
     |none=>rfl
     |some z=>
      obtain⟨c,D'⟩:=z;cases c with
      |true=>rfl
      |false=>
       have:=hl hq;show(bif zO (0+D'.2.1.length) 1 then(bif zO (D'.2.1.length+b.length) 1 then _ else none) else none)=Option.map mp (bif zO (D'.2.1.length+b.length) 1 then _ else none);rw[qG (n:=0+D'.2.1.length),qG (n:=D'.2.1.length+b.length)];rfl
  · show(bif decide ((b.length:Int)>zA (D.1-(D.2.2.2.1.length:Int))) then _ else(vg k (qT D)).bind _)=Option.map mp (bif decide ((b.length:Int)>zA (D.1-(D.2.2.2.1.length:Int))) then _ else(fK k D).bind _);cases decide ((b.length:Int)>zA (D.1-(D.2.2.2.1.length:Int))) with
    |true=>rfl
    |false=>
     rw[Rn];cases hq:fK k D with
     |none=>rfl
     |some z=>
      obtain⟨c,D'⟩:=z;cases c with
      |true=>rfl
      |false=>
       have:=hl hq;show(bif zO (0+D'.2.2.2.1.length) 1 then(bif zO (D'.2.2.2.1.length+b.length) 1 then _ else none) else none)=Option.map mp (bif zO (D'.2.2.2.1.length+b.length) 1 then _ else none);rw[qG (n:=0+D'.2.2.2.1.length),qG (n:=D'.2.2.2.1.length+b.length)];rfl
theorem yK2 k D:Ct k (qT D)=(tg k D).map mp:=by
 show(bif wV D then _ else _)=Option.map mp (bif wV D then _ else _);cases wV D with
 |true=>rfl
 |false=>
  rw[Rn];cases fK k D with
  |none=>rfl
  |some z=>
   obtain⟨c,D'⟩:=z;cases c<;>rfl
theorem vV8 k D {i}(hi:i=0∨i=1):yAh k (qT D) i=(Ho k D i).map mp:=by
 show(bif wV D then _ else _)=Option.map mp (bif wV D then _ else _);cases wV D with
 |true=>rfl
 |false=>
  rcases hi with rfl|rfl
  all_goals
   rw[Rn];cases fK k D with
   |none=>rfl
   |some z=>
    obtain⟨c,D'⟩:=z;cases c<;>rfl
theorem vM5 {k}{D D':vR}{i e}(hi:i=0∨i=1)(h:Ho k D i=some (e,D')):D'.2.1.length≤D.2.1.length∧D'.2.2.2.1.length≤D.2.2.2.1.length:=by
 have h:(bif wV D then some (11,D) else _)=some (e,D'):=h;cases hd:wV D with
 |true=>
  simp_all
 |false=>
  rw[hd] at h;have hl:=@vCd k D;cases hq:fK k D with
  |none=>
   rcases hi with rfl|rfl
   all_goals
    have h:(fK k D).bind _=some (e,D'):=h;simp_all
  |some z=>
   rcases hi with rfl|rfl
   all_goals
    have h:(fK k D).bind _=some (e,D'):=h;grind
theorem yL8 {k b}(hb:b.length≤60000):Mz k b=some (kT b,true):=by
 unfold Mz;rw[ab,ak,qG,ai];have e1:IntKind.wrap .u8 (zA (Int.tdiv (b.length:Int) 256))=IntKind.wrap .u8 (shr .i64 (b.length:Int) 8):=by
  have:Int.tdiv (b.length:Int) 256=((b.length/256:Nat):Int):=rfl;have h2:shr .i64 (b.length:Int) 8=(b.length:Int)/256:=by
   unfold shr;rw[Int.fdiv_eq_ediv_of_nonneg _ (by grind)];rfl
  rw[this,zQ,h2];rfl
 have e2:IntKind.wrap .u8 (Int.tmod (b.length:Int) 256)=IntKind.wrap .u8 (b.length:Int):=by
  have:Int.tmod (b.length:Int) 256=((b.length%256:Nat):Int):=rfl;rw[this,KT,KT];omega
 rw[e1,e2];rfl
theorem yNf {k:Nat}(hk:9≤k){D:vR}{i:Int}(hi:i=0∨i=1){g:Int}{b:AC}(hx:D.2.1.length≤1000000)(hy:D.2.2.2.1.length≤1000000)(hb:b.length≤50000):Hq k (qT D) g i b=(yr k D i g b).map mp:=by
  have hlen:(kT (fj g++b)).length=b.length+10:=by rw[P5,aA];show 8+b.length+2=_;omega
  unfold Hq yr;have hl:(fj g++b).length≤60000:=by rw[aA];show 8+b.length≤_;omega
  rw[E3 hk [g] (by simp) (by simp;omega),My hk (by simp) (by simp;omega)];simp only[ae];rw[show jM [g]=fj g by simp[jM]];rw[qG (by show(8+b.length)*1≤_;omega) (by show 8+b.length≤_;omega),P2,if_pos hl,yL8 hl];simp only[ai,ak,ae,aB];rw[show qQ1 k (qT D)=some D.1 from rfl,show Ro k D=some D.1 from rfl];simp only[ae];cases decide (((kT (fj g++b)).length:Int)>D.1)<;>cases decide (g>4611686018427387904)<;>try rfl
  simp only[ak];rw[vV8 k D hi];have hw:=@vM5 k D;cases hq:Ho k D i with
  |none=>rfl
  |some z=>
   obtain⟨e,D1⟩:=z;have hw:=hw hi hq;show(bif decide (e=0) then(Hn k (qT D1) i (kT (fj g++b))).bind _ else _)=Option.map mp (bif !(decide (e=0)) then _ else(vh k D1 i (kT (fj g++b))).bind _);cases he:decide (e=0) with
   |false=>
    show(bif decide (e=0) then _ else _)=_;rw[he];rfl
   |true=>
    rw[vAl hi (by omega) (by omega) (by omega)];cases vh k D1 i (kT (fj g++b)) with
    |none=>rfl
    |some z=>
     obtain⟨e,D2⟩:=z;show(bif decide (e=0) then(Ct k (qT D2)).bind _ else _)=Option.map mp (bif !(decide (e=0)) then _ else(tg k D2).bind _);rw[yK2];cases decide (e=0) with
     |false=>rfl
     |true=>cases tg k D2<;>rfl
theorem aat {k:Nat}{L:wK}(hs:L.1=0∨L.1=1){D:vR}{b:AC}(hx:D.2.1.length≤1000000)(hy:D.2.2.2.1.length≤1000000)(hb:b.length≤60000):yt k (hZ L) (qT D) b=(yu k L D b).map Hm:=by
  have hlen:=P5 b;obtain⟨m,g,n,st⟩:=L;unfold yt yu;rw[P2,if_pos hb,yL8 hb];show(bif st then _ else(Hn k (qT D) m (kT b)).bind _)=Option.map Hm (bif st then _ else(vh k D m (kT b)).bind _);cases st with
  |true=>rfl
  |false=>
   rw[vAl hs hx hy (by omega)];cases vh k D m (kT b) with
   |none=>rfl
   |some z=>
    obtain⟨e,D1⟩:=z;show(bif decide (e=3) then _ else bif decide (e=0) then(Ct k (qT D1)).bind _ else bif decide (e=0) then _ else _)=Option.map Hm (bif decide (e=3) then _ else bif decide (e=0) then(tg k D1).bind _ else bif decide (e=0) then _ else _);rw[yK2];cases decide (e=3) with
    |true=>rfl
    |false=>
     cases decide (e=0) with
     |false=>rfl
     |true=>
      cases tg k D1 with
      |none=>rfl
      |some z=>
       obtain⟨e,D2⟩:=z;show(bif decide (e=0) then _ else _)=Option.map Hm (bif decide (e=0) then _ else _);cases decide (e=0)<;>rfl
theorem aau {k:Nat}(hk:9≤k){L:wK}(hs:L.1=0∨L.1=1){D:vR}{b:AC}(hx:D.2.1.length≤1000000)(hy:D.2.2.2.1.length≤1000000)(hb:b.length≤50000):pE k (hZ L) (qT D) b=(ou k L D b).map Hm:=by
  unfold pE ou;have e2:zA (1-L.1)=1-L.1:=zQ;show(Hq k (qT D) (zA (L.2.1+1)) (zA (1-L.1)) b).bind _=_;rw[e2,yNf hk (by omega) hx hy hb];cases yr k D (1-L.1) (zA (L.2.1+1)) b with
  |none=>rfl
  |some z=>
   obtain⟨e,D1⟩:=z;show(bif decide (e=0) then some (e,(zA (L.2.1+1),zA (1-L.1),0,false),qT D1) else _)=Option.map Hm (bif decide (e=0) then some (e,(1-L.1,zA (L.2.1+1),0,false),D1) else _);rw[e2];cases decide (e=0)<;>rfl
theorem aav {k}(hk:10≤k)(f:zD):∃b,th k f=some b∧(b=true→0≤yP f.1):=by
 have key:∀(c n i:Nat),i+c=6→c<n→∀x:Int,∃z,yv k n x (i:Int) f=some z∧(z=.inl x∨z=.inr false):=by
  intro c
  induction c with
  |zero=>
   intro n i h1 h2 x;obtain⟨n,rfl⟩:=ara n;obtain rfl:i=6:=by omega
   exact⟨_,rfl,.inl rfl⟩
  |succ c ih=>
   intro n i h1 h2 x;obtain⟨n,rfl⟩:=ara n;obtain⟨z,g1,g2⟩:=ih n (i+1) (by omega) (by omega) x;have st:∀v:Int,∃z',(bif !decide (v=0) then some (.inr false) else yv k n x ((i+1:Nat):Int) f)=some z'∧(z'=.inl x∨z'=.inr false):=by grind
   have:i=0∨i=1∨i=2∨i=3∨i=4∨i=5:=by omega
   rcases this with rfl|rfl|rfl|rfl|rfl|rfl
   ·exact st f.2.1
   ·exact st f.2.2.1
   ·exact st f.2.2.2.1
   ·exact st f.2.2.2.2.1
   ·exact st f.2.2.2.2.2.1
   ·exact st f.2.2.2.2.2.2
 have hm:=E0 f.1;have e:yE false (yP f.1) 0=(((yP f.1).toNat:Nat):Int):=by
  grind
 obtain⟨z,g1,g2⟩:=key (6-(yP f.1).toNat) k (yP f.1).toNat (by omega) (by omega) (yP f.1);unfold th;rw[PY,ae,e,g1,ae];rcases g2 with rfl|rfl
 all_goals simp
theorem qPh x (s:Nat)(h:s≤62):shr .i64 x (s:Int)=x/2^s:=by
 have e:shr .i64 x (s:Int)=x.fdiv (2^(min (s:Int).toNat 64)):=rfl;grind
theorem tj x:shr .i64 x 16=x/65536:=qPh x 16 (by decide)
theorem yM7 x:shr .i64 x 32=x/4294967296:=qPh x 32 (by decide)
theorem vHa x:shr .i64 x 48=x/281474976710656:=qPh x 48 (by decide)
theorem aaw x:shr .i64 x 0=x:=by grind
theorem vi x:yK .i64 x 65535=x%65536:=yYm 16 (by decide) x
theorem Rp m (hm:m≤62){x y}(hx:0≤x)(hy:0≤y∧y<2^m)(hs:x*2^m+y<9223372036854775808):wU .i64 (x*2^m) y=x*2^m+y:=by
 obtain⟨a,rfl⟩:=Int.eq_ofNat_of_zero_le hx;obtain⟨b,rfl⟩:=Int.eq_ofNat_of_zero_le hy.1;have hp:(2:Int)^m=((2^m:Nat):Int):=by simp
 rw[hp] at hs hy⊢;have e1:(a:Int)*((2^m:Nat):Int)=((a*2^m:Nat):Int):=by simp
 rw[e1] at hs⊢;have hb:b<2^m:=by omega
 unfold wU tL;have MA:IntKind.i64.bits=64:=rfl;have e2:(BitVec.ofInt IntKind.i64.bits ((a*2^m:Nat):Int)|||BitVec.ofInt IntKind.i64.bits (b:Int)).toNat=a*2^m+b:=by
  rw[BitVec.toNat_or,BitVec.ofInt_natCast,BitVec.ofInt_natCast,BitVec.toNat_ofNat,BitVec.toNat_ofNat,MA,Nat.mod_eq_of_lt (by omega),Nat.mod_eq_of_lt (by omega)];have:=Nat.shiftLeft_add_eq_or_of_lt hb a;rw[Nat.shiftLeft_eq] at this;exact this.symm
 rw[e2];exact zQ
def V9 (l0 l1 l2 l3 l4 l5 l6 l7 l8:Int):Int:=l0+65536*(l1+65536*(l2+65536*(l3+65536*(l4+65536*(l5+65536*(l6+65536*(l7+65536*l8)))))))
theorem vQp (l0 l1 l2 l3 l4 l5 l6 l7 l8:Int){c1 c2 c3 c4 c5 c6 c7 c8:Int}(h1:c1=zA (l1+shr .i64 l0 16))(h2:c2=zA (l2+shr .i64 c1 16))(h3:c3=zA (l3+shr .i64 c2 16))(h4:c4=zA (l4+shr .i64 c3 16))(h5:c5=zA (l5+shr .i64 c4 16))(h6:c6=zA (l6+shr .i64 c5 16))(h7:c7=zA (l7+shr .i64 c6 16))(h8:c8=zA (l8+shr .i64 c7 16)):
  Hr 9999 [l0,l1,l2,l3,l4,l5,l6,l7,l8]=some [yK .i64 l0 65535,yK .i64 c1 65535,yK .i64 c2 65535,yK .i64 c3 65535,yK .i64 c4 65535,yK .i64 c5 65535,yK .i64 c6 65535,yK .i64 c7 65535,c8]:=by
 subst h8;subst h7;subst h6;subst h5;subst h4;subst h3;subst h2;subst h1
 kernel_rfl
theorem vDu {l0 l1 l2 l3 l4 l5 l6 l7 l8:Int}(g0:0≤l0∧l0≤1099511627776)(g1:0≤l1∧l1≤1099511627776)(g2:0≤l2∧l2≤1099511627776)(g3:0≤l3∧l3≤1099511627776)(g4:0≤l4∧l4≤1099511627776)(g5:0≤l5∧l5≤1099511627776)(g6:0≤l6∧l6≤1099511627776)(g7:0≤l7∧l7≤1099511627776)(g8:0≤l8∧l8≤1099511627776):∃d0 d1 d2 d3 d4 d5 d6 d7 d8,
  Hr 9999 [l0,l1,l2,l3,l4,l5,l6,l7,l8]=some [d0,d1,d2,d3,d4,d5,d6,d7,d8]∧V9 d0 d1 d2 d3 d4 d5 d6 d7 d8=V9 l0 l1 l2 l3 l4 l5 l6 l7 l8∧(0≤d0∧d0<65536)∧(0≤d1∧d1<65536)∧(0≤d2∧d2<65536)∧(0≤d3∧d3<65536)∧(0≤d4∧d4<65536)∧(0≤d5∧d5<65536)∧(0≤d6∧d6<65536)∧(0≤d7∧d7<65536)∧0≤d8:=by
 obtain⟨c1,nX⟩:∃c,c=l1+l0/65536:=⟨_,rfl⟩;have b1:0≤c1∧c1≤2199023255552:=by omega
 have h1:c1=zA (l1+shr .i64 l0 16):=by rw[tj,←nX,zQ]
 obtain⟨c2,dq⟩:∃c,c=l2+c1/65536:=⟨_,rfl⟩;have b2:0≤c2∧c2≤2199023255552:=by omega
 have h2:c2=zA (l2+shr .i64 c1 16):=by rw[tj,←dq,zQ]
 obtain⟨c3,dM⟩:∃c,c=l3+c2/65536:=⟨_,rfl⟩;have b3:0≤c3∧c3≤2199023255552:=by omega
 have h3:c3=zA (l3+shr .i64 c2 16):=by rw[tj,←dM,zQ]
 obtain⟨c4,gV⟩:∃c,c=l4+c3/65536:=⟨_,rfl⟩;have b4:0≤c4∧c4≤2199023255552:=by omega
 have h4:c4=zA (l4+shr .i64 c3 16):=by rw[tj,←gV,zQ]
 obtain⟨c5,nf⟩:∃c,c=l5+c4/65536:=⟨_,rfl⟩;have b5:0≤c5∧c5≤2199023255552:=by omega
 have h5:c5=zA (l5+shr .i64 c4 16):=by rw[tj,←nf,zQ]
 obtain⟨c6,EN⟩:∃c,c=l6+c5/65536:=⟨_,rfl⟩;have b6:0≤c6∧c6≤2199023255552:=by omega
 have h6:c6=zA (l6+shr .i64 c5 16):=by rw[tj,←EN,zQ]
 obtain⟨c7,EO⟩:∃c,c=l7+c6/65536:=⟨_,rfl⟩;have b7:0≤c7∧c7≤2199023255552:=by omega
 have h7:c7=zA (l7+shr .i64 c6 16):=by rw[tj,←EO,zQ]
 obtain⟨c8,hc8⟩:∃c,c=l8+c7/65536:=⟨_,rfl⟩;have b8:0≤c8∧c8≤2199023255552:=by omega
 have h8:c8=zA (l8+shr .i64 c7 16):=by rw[tj,←hc8,zQ]
 have run:=vQp l0 l1 l2 l3 l4 l5 l6 l7 l8 h1 h2 h3 h4 h5 h6 h7 h8;simp only[vi] at run;refine⟨_,_,_,_,_,_,_,_,_,run,?_,⟨Int.emod_nonneg _ (by decide),Int.emod_lt_of_pos _ (by decide)⟩,⟨Int.emod_nonneg _ (by decide),Int.emod_lt_of_pos _ (by decide)⟩,⟨Int.emod_nonneg _ (by decide),Int.emod_lt_of_pos _ (by decide)⟩,⟨Int.emod_nonneg _ (by decide),Int.emod_lt_of_pos _ (by decide)⟩,⟨Int.emod_nonneg _ (by decide),Int.emod_lt_of_pos _ (by decide)⟩,⟨Int.emod_nonneg _ (by decide),Int.emod_lt_of_pos _ (by decide)⟩,⟨Int.emod_nonneg _ (by decide),Int.emod_lt_of_pos _ (by decide)⟩,⟨Int.emod_nonneg _ (by decide),Int.emod_lt_of_pos _ (by decide)⟩,b8.1⟩;unfold V9;clear run h1 h2 h3 h4 h5 h6 h7 h8;omega
theorem vS9 l0 l1 l2 l3 l4 l5 l6 l7 l8 n:Rq 9999 [l0,l1,l2,l3,l4,l5,l6,l7,l8] n=Hr 9999 [zA (l0*n),zA (l1*n),zA (l2*n),zA (l3*n),zA (l4*n),zA (l5*n),zA (l6*n),zA (l7*n),zA (l8*n)]:=by
 have e:Rr 9999 9999 n 0 [l0,l1,l2,l3,l4,l5,l6,l7,l8]=some [zA (l0*n),zA (l1*n),zA (l2*n),zA (l3*n),zA (l4*n),zA (l5*n),zA (l6*n),zA (l7*n),zA (l8*n)]:=by kernel_rfl
 unfold Rq;simp_all
theorem vNo l0 l1 l2 l3 l4 l5 l6 l7 l8 n:V9 l0 l1 l2 l3 l4 l5 l6 l7 l8*n=V9 (l0*n) (l1*n) (l2*n) (l3*n) (l4*n) (l5*n) (l6*n) (l7*n) (l8*n):=by
 unfold V9;grind
theorem aax l0 l1 l2 l3 l4 l5 l6 l7 l8 {x0 x1 x2 x3 x4 x5 x6 x7 x8 r0 r1 r2 r3 r4 r5 r6 r7 r8 r9}(h8:x8=zA (shl .i64 r9 16+l8))(h7:x7=zA (shl .i64 r8 16+l7))(h6:x6=zA (shl .i64 r7 16+l6))(h5:x5=zA (shl .i64 r6 16+l5))(h4:x4=zA (shl .i64 r5 16+l4))(h3:x3=zA (shl .i64 r4 16+l3))(h2:x2=zA (shl .i64 r3 16+l2))(h1:x1=zA (shl .i64 r2 16+l1))(h0:x0=zA (shl .i64 r1 16+l0))(h9:r9=0)(k8:r8=Int.tmod x8 10000)(k7:r7=Int.tmod x7 10000)(k6:r6=Int.tmod x6 10000)(k5:r5=Int.tmod x5 10000)(k4:r4=Int.tmod x4 10000)(k3:r3=Int.tmod x3 10000)(k2:r2=Int.tmod x2 10000)(k1:r1=Int.tmod x1 10000)(k0:r0=Int.tmod x0 10000):
  MB 9999 9999 10000 0 8 [l0,l1,l2,l3,l4,l5,l6,l7,l8]=some [zA (Int.tdiv x0 10000),zA (Int.tdiv x1 10000),zA (Int.tdiv x2 10000),zA (Int.tdiv x3 10000),zA (Int.tdiv x4 10000),zA (Int.tdiv x5 10000),zA (Int.tdiv x6 10000),zA (Int.tdiv x7 10000),zA (Int.tdiv x8 10000)]:=by
 subst h0;subst k1;subst h1;subst k2;subst h2;subst k3;subst h3;subst k4;subst h4;subst k5;subst h5;subst k6;subst h6;subst k7;subst h7;subst k8;subst h8;subst h9
 kernel_rfl
theorem vj x:shl .i64 x 16=zA (x*65536):=rfl
theorem aay q0 q1 q2 q3 (h : decide (q3 ≥ 32768) = false) : ((Hs 9999 9999 4 [q0,q1,q2,q3,0,0,0,0,0]).bind fun z1=>
 match z1 with
 | .inl z2 => bif zB 3 z2.length then (bif decide ((z2.getD 3 0)≥32768) then some ((0:Int),false)
   else bif zB 3 z2.length then (bif zB 2 z2.length then (bif zB 1 z2.length then (bif zB 0 z2.length then some ((wU .i64 (wU .i64 (wU .i64 (shl .i64 (z2.getD 3 0) 48) (shl .i64 (z2.getD 2 0) 32)) (shl .i64 (z2.getD 1 0) 16)) (z2.getD 0 0)),true)
      else none)
     else none)
    else none)
   else none)
  else none
 |.inr z3=>some (z3.1,z3.2))=some (wU .i64 (wU .i64 (wU .i64 (shl .i64 q3 48) (shl .i64 q2 32)) (shl .i64 q1 16)) q0,true):=by
  have e:Hs 9999 9999 4 [q0,q1,q2,q3,0,0,0,0,0]=some (.inl [q0,q1,q2,q3,0,0,0,0,0]):=by rfl
  rw[e];simp only[ae];have e3:([q0,q1,q2,q3,0,0,0,0,0]:AC).getD 3 0=q3:=rfl;rw[e3,h];rfl
theorem aaz {q0 q1 q2 q3}(h0:0≤q0∧q0<65536)(h1:0≤q1∧q1<65536)(h2:0≤q2∧q2<65536)(h3:0≤q3∧q3<32768):
  wU .i64 (wU .i64 (wU .i64 (shl .i64 q3 48) (shl .i64 q2 32)) (shl .i64 q1 16)) q0=q0+65536*(q1+65536*(q2+65536*q3)):=by
 have s3:shl .i64 q3 48=zA (q3*281474976710656):=rfl;have s2:shl .i64 q2 32=zA (q2*4294967296):=rfl;have s1:shl .i64 q1 16=zA (q1*65536):=rfl;rw[s3,s2,s1,zQ (x:=q3*281474976710656),zQ (x:=q2*4294967296),zQ (x:=q1*65536)];have b1:=Rp 48 (by decide) (x:=q3) (y:=q2*4294967296) h3.1 (by omega) (by omega);have p48:(2:Int)^48=281474976710656:=rfl;rw[p48] at b1;have b2:=Rp 32 (by decide) (x:=q3*65536+q2) (y:=q1*65536) (by omega) (by omega) (by omega);have p32:(2:Int)^32=4294967296:=rfl;rw[p32] at b2;have b3:=Rp 16 (by decide) (x:=(q3*65536+q2)*65536+q1) (y:=q0) (by omega) (by omega) (by omega);grind
theorem aaA {l0 l1 l2 l3 l4 l5 l6 l7 l8}(g0:0≤l0∧l0<65536)(g1:0≤l1∧l1<65536)(g2:0≤l2∧l2<65536)(g3:0≤l3∧l3<65536)(g4:0≤l4∧l4<65536)(g5:0≤l5∧l5<65536)(g6:0≤l6∧l6<65536)(g7:0≤l7∧l7<65536)(g8:0≤l8∧l8≤0)(hV:V9 l0 l1 l2 l3 l4 l5 l6 l7 l8/10000≤1152921504606846976):Rs 9999 [l0,l1,l2,l3,l4,l5,l6,l7,l8] 10000=some (V9 l0 l1 l2 l3 l4 l5 l6 l7 l8/10000,true):=by
  obtain⟨r9,h9⟩:∃r:Int,r=0:=⟨_,rfl⟩;obtain⟨x8,hx8⟩:∃x,x=r9*65536+l8:=⟨_,rfl⟩;obtain⟨r8,hr8⟩:∃r,r=x8%10000:=⟨_,rfl⟩;obtain⟨q8,hq8⟩:∃q,q=x8/10000:=⟨_,rfl⟩;have v8:x8=10000*q8+r8∧0≤r8∧r8<10000∧0≤x8∧x8<655360000:=by omega
  have h8:x8=zA (shl .i64 r9 16+l8):=by rw[vj,zQ (x:=r9*65536),←hx8,zQ]
  have k8:r8=Int.tmod x8 10000:=by rw[Int.tmod_eq_emod_of_nonneg (by omega)];exact hr8
  have t8:zA (Int.tdiv x8 10000)=q8:=by rw[Int.tdiv_eq_ediv_of_nonneg (by omega),←hq8,zQ]
  obtain⟨x7,hx7⟩:∃x,x=r8*65536+l7:=⟨_,rfl⟩;obtain⟨r7,hr7⟩:∃r,r=x7%10000:=⟨_,rfl⟩;obtain⟨q7,hq7⟩:∃q,q=x7/10000:=⟨_,rfl⟩;have v7:x7=10000*q7+r7∧0≤r7∧r7<10000∧0≤x7∧x7<655360000:=by omega
  have h7:x7=zA (shl .i64 r8 16+l7):=by rw[vj,zQ (x:=r8*65536),←hx7,zQ]
  have k7:r7=Int.tmod x7 10000:=by rw[Int.tmod_eq_emod_of_nonneg (by omega)];exact hr7
  have t7:zA (Int.tdiv x7 10000)=q7:=by rw[Int.tdiv_eq_ediv_of_nonneg (by omega),←hq7,zQ]
  obtain⟨x6,PI⟩:∃x,x=r7*65536+l6:=⟨_,rfl⟩;obtain⟨r6,hr6⟩:∃r,r=x6%10000:=⟨_,rfl⟩;obtain⟨q6,hq6⟩:∃q,q=x6/10000:=⟨_,rfl⟩;have v6:x6=10000*q6+r6∧0≤r6∧r6<10000∧0≤x6∧x6<655360000:=by omega
  have h6:x6=zA (shl .i64 r7 16+l6):=by rw[vj,zQ (x:=r7*65536),←PI,zQ]
  have k6:r6=Int.tmod x6 10000:=by rw[Int.tmod_eq_emod_of_nonneg (by omega)];exact hr6
  have t6:zA (Int.tdiv x6 10000)=q6:=by rw[Int.tdiv_eq_ediv_of_nonneg (by omega),←hq6,zQ]
  obtain⟨x5,hx5⟩:∃x,x=r6*65536+l5:=⟨_,rfl⟩;obtain⟨r5,hr5⟩:∃r,r=x5%10000:=⟨_,rfl⟩;obtain⟨q5,hq5⟩:∃q,q=x5/10000:=⟨_,rfl⟩;have v5:x5=10000*q5+r5∧0≤r5∧r5<10000∧0≤x5∧x5<655360000:=by omega
  have h5:x5=zA (shl .i64 r6 16+l5):=by rw[vj,zQ (x:=r6*65536),←hx5,zQ]
  have k5:r5=Int.tmod x5 10000:=by rw[Int.tmod_eq_emod_of_nonneg (by omega)];exact hr5
  have t5:zA (Int.tdiv x5 10000)=q5:=by rw[Int.tdiv_eq_ediv_of_nonneg (by omega),←hq5,zQ]
  obtain⟨x4,hx4⟩:∃x,x=r5*65536+l4:=⟨_,rfl⟩;obtain⟨r4,hr4⟩:∃r,r=x4%10000:=⟨_,rfl⟩;obtain⟨q4,hq4⟩:∃q,q=x4/10000:=⟨_,rfl⟩;have v4:x4=10000*q4+r4∧0≤r4∧r4<10000∧0≤x4∧x4<655360000:=by omega
  have h4:x4=zA (shl .i64 r5 16+l4):=by rw[vj,zQ (x:=r5*65536),←hx4,zQ]
  have k4:r4=Int.tmod x4 10000:=by rw[Int.tmod_eq_emod_of_nonneg (by omega)];exact hr4
  have t4:zA (Int.tdiv x4 10000)=q4:=by rw[Int.tdiv_eq_ediv_of_nonneg (by omega),←hq4,zQ]
  obtain⟨x3,hx3⟩:∃x,x=r4*65536+l3:=⟨_,rfl⟩;obtain⟨r3,hr3⟩:∃r,r=x3%10000:=⟨_,rfl⟩;obtain⟨q3,hq3⟩:∃q,q=x3/10000:=⟨_,rfl⟩;have v3:x3=10000*q3+r3∧0≤r3∧r3<10000∧0≤x3∧x3<655360000:=by omega
  have h3:x3=zA (shl .i64 r4 16+l3):=by rw[vj,zQ (x:=r4*65536),←hx3,zQ]
  have k3:r3=Int.tmod x3 10000:=by rw[Int.tmod_eq_emod_of_nonneg (by omega)];exact hr3
  have t3:zA (Int.tdiv x3 10000)=q3:=by rw[Int.tdiv_eq_ediv_of_nonneg (by omega),←hq3,zQ]
  obtain⟨x2,Ei⟩:∃x,x=r3*65536+l2:=⟨_,rfl⟩;obtain⟨r2,so⟩:∃r,r=x2%10000:=⟨_,rfl⟩;obtain⟨q2,hq2⟩:∃q,q=x2/10000:=⟨_,rfl⟩;have v2:x2=10000*q2+r2∧0≤r2∧r2<10000∧0≤x2∧x2<655360000:=by omega
  have h2:x2=zA (shl .i64 r3 16+l2):=by rw[vj,zQ (x:=r3*65536),←Ei,zQ]
  have k2:r2=Int.tmod x2 10000:=by rw[Int.tmod_eq_emod_of_nonneg (by omega)];exact so
  have t2:zA (Int.tdiv x2 10000)=q2:=by rw[Int.tdiv_eq_ediv_of_nonneg (by omega),←hq2,zQ]
  obtain⟨x1,du⟩:∃x,x=r2*65536+l1:=⟨_,rfl⟩;obtain⟨r1,xj⟩:∃r,r=x1%10000:=⟨_,rfl⟩;obtain⟨q1,hq1⟩:∃q,q=x1/10000:=⟨_,rfl⟩;have v1:x1=10000*q1+r1∧0≤r1∧r1<10000∧0≤x1∧x1<655360000:=by omega
  have h1:x1=zA (shl .i64 r2 16+l1):=by rw[vj,zQ (x:=r2*65536),←du,zQ]
  have k1:r1=Int.tmod x1 10000:=by rw[Int.tmod_eq_emod_of_nonneg (by omega)];exact xj
  have t1:zA (Int.tdiv x1 10000)=q1:=by rw[Int.tdiv_eq_ediv_of_nonneg (by omega),←hq1,zQ]
  obtain⟨x0,hx0⟩:∃x,x=r1*65536+l0:=⟨_,rfl⟩;obtain⟨r0,tY⟩:∃r,r=x0%10000:=⟨_,rfl⟩;obtain⟨q0,hq0⟩:∃q,q=x0/10000:=⟨_,rfl⟩;have v0:x0=10000*q0+r0∧0≤r0∧r0<10000∧0≤x0∧x0<655360000:=by omega
  have h0:x0=zA (shl .i64 r1 16+l0):=by rw[vj,zQ (x:=r1*65536),←hx0,zQ]
  have k0:r0=Int.tmod x0 10000:=by rw[Int.tmod_eq_emod_of_nonneg (by omega)];exact tY
  have t0:zA (Int.tdiv x0 10000)=q0:=by rw[Int.tdiv_eq_ediv_of_nonneg (by omega),←hq0,zQ]
  have run:=aax l0 l1 l2 l3 l4 l5 l6 l7 l8 h8 h7 h6 h5 h4 h3 h2 h1 h0 h9 k8 k7 k6 k5 k4 k3 k2 k1 k0;rw[t0,t1,t2,t3,t4,t5,t6,t7,t8] at run;clear h0 k0 t0 h1 k1 t1 h2 k2 t2 h3 k3 t3 h4 k4 t4 h5 k5 t5 h6 k6 t6 h7 k7 t7 h8 k8 t8;have hv:10000*V9 q0 q1 q2 q3 q4 q5 q6 q7 q8+r0=V9 l0 l1 l2 l3 l4 l5 l6 l7 l8:=by unfold V9;omega
  have hq:V9 q0 q1 q2 q3 q4 q5 q6 q7 q8=V9 l0 l1 l2 l3 l4 l5 l6 l7 l8/10000:=by omega
  rw[←hq] at hV⊢;unfold V9 at hV;have z8:q8=0:=by omega
  have z7:q7=0:=by omega
  have z6:q6=0:=by omega
  have z5:q5=0:=by omega
  have z4:q4=0:=by omega
  have z3:q3<32768:=by omega
  rw[z4,z5,z6,z7,z8] at run;have eU:Rs 9999 [l0,l1,l2,l3,l4,l5,l6,l7,l8] 10000=(MB 9999 9999 10000 0 8 [l0,l1,l2,l3,l4,l5,l6,l7,l8]).bind fun z=>(Hs 9999 9999 4 z).bind fun z1=>
   match z1 with
   | .inl z2 => bif zB 3 z2.length then (bif decide ((z2.getD 3 0)≥32768) then some ((0:Int),false)
     else bif zB 3 z2.length then (bif zB 2 z2.length then (bif zB 1 z2.length then (bif zB 0 z2.length then some ((wU .i64 (wU .i64 (wU .i64 (shl .i64 (z2.getD 3 0) 48) (shl .i64 (z2.getD 2 0) 32)) (shl .i64 (z2.getD 1 0) 16)) (z2.getD 0 0)),true)
        else none)
       else none)
      else none)
     else none)
    else none
   |.inr z3=>some (z3.1,z3.2):=rfl
  rw[eU,run];simp only[ae];refine(aay q0 q1 q2 q3 ab).trans ?_;rw[aaz ⟨by omega,by omega⟩ ⟨by omega,by omega⟩ ⟨by omega,by omega⟩ ⟨by omega,z3⟩];unfold V9;rw[z4,z5,z6,z7,z8];exact by simp
theorem aaB (a b x0 x1 x2 x3:Int):Rt 9999 9999 b 0 [x0,x1,x2,x3] [0,0,0,0,0,0,0,0,0]=some [zA (0+zA (x0*yK .i64 (shr .i64 b 0) 65535)),zA (zA (0+zA (x0*yK .i64 (shr .i64 b 16) 65535))+zA (x1*yK .i64 (shr .i64 b 0) 65535)),zA (zA (zA (0+zA (x0*yK .i64 (shr .i64 b 32) 65535))+zA (x1*yK .i64 (shr .i64 b 16) 65535))+zA (x2*yK .i64 (shr .i64 b 0) 65535)),zA (zA (zA (zA (0+zA (x0*yK .i64 (shr .i64 b 48) 65535))+zA (x1*yK .i64 (shr .i64 b 32) 65535))+zA (x2*yK .i64 (shr .i64 b 16) 65535))+zA (x3*yK .i64 (shr .i64 b 0) 65535)),zA (zA (zA (0+zA (x1*yK .i64 (shr .i64 b 48) 65535))+zA (x2*yK .i64 (shr .i64 b 32) 65535))+zA (x3*yK .i64 (shr .i64 b 16) 65535)),zA (zA (0+zA (x2*yK .i64 (shr .i64 b 48) 65535))+zA (x3*yK .i64 (shr .i64 b 32) 65535)),zA (0+zA (x3*yK .i64 (shr .i64 b 48) 65535)),0,0]:=by kernel_rfl
theorem aaC {x0 x1 x2 x3 y0 y1 y2 y3}:(x0+65536*x1+4294967296*x2+281474976710656*x3)*(y0+65536*y1+4294967296*y2+281474976710656*y3)=V9 (x0*y0) (x0*y1+x1*y0) (x0*y2+x1*y1+x2*y0) (x0*y3+x1*y2+x2*y1+x3*y0) (x1*y3+x2*y2+x3*y1) (x2*y3+x3*y2) (x3*y3) 0 0:=by
 have row:∀x:Int,x*(y0+65536*y1+4294967296*y2+281474976710656*y3)=x*y0+65536*(x*y1)+4294967296*(x*y2)+281474976710656*(x*y3):=by grind
 rw[Int.add_mul,Int.add_mul,Int.add_mul,Int.mul_assoc,Int.mul_assoc,Int.mul_assoc,row,row,row,row];unfold V9;omega
theorem aaD {a b}(ha:0≤a∧a≤1048576)(hb:0≤b∧b≤1099511627776):∃d0 d1 d2 d3 d4 d5 d6 d7 d8,
  Ru 9999 a b=some [d0,d1,d2,d3,d4,d5,d6,d7,d8]∧V9 d0 d1 d2 d3 d4 d5 d6 d7 d8=a*b∧(0≤d0∧d0<65536)∧(0≤d1∧d1<65536)∧(0≤d2∧d2<65536)∧(0≤d3∧d3<65536)∧(0≤d4∧d4<65536)∧(0≤d5∧d5<65536)∧(0≤d6∧d6<65536)∧(0≤d7∧d7<65536)∧d8=0:=by
 obtain⟨x0,hx0⟩:∃z,z=a%65536:=⟨_,rfl⟩;have yw:0≤x0∧x0≤65535:=by omega
 obtain⟨x1,du⟩:∃z,z=a/65536%65536:=⟨_,rfl⟩;have yx:0≤x1∧x1≤65535:=by omega
 obtain⟨x2,Ei⟩:∃z,z=a/4294967296%65536:=⟨_,rfl⟩;have yy:0≤x2∧x2≤65535:=by omega
 obtain⟨x3,hx3⟩:∃z,z=a/281474976710656%65536:=⟨_,rfl⟩;have yz:0≤x3∧x3≤65535:=by omega
 obtain⟨y0,VE⟩:∃z,z=b%65536:=⟨_,rfl⟩;have y8:0≤y0∧y0≤65535:=by omega
 obtain⟨y1,Wr⟩:∃z,z=b/65536%65536:=⟨_,rfl⟩;have y9:0≤y1∧y1≤65535:=by omega
 obtain⟨y2,Ws⟩:∃z,z=b/4294967296%65536:=⟨_,rfl⟩;have za:0≤y2∧y2≤65535:=by omega
 obtain⟨y3,hy3⟩:∃z,z=b/281474976710656%65536:=⟨_,rfl⟩;have zb:0≤y3∧y3≤65535:=by omega
 have ea:a=x0+65536*x1+4294967296*x2+281474976710656*x3:=by omega
 have eb:b=y0+65536*y1+4294967296*y2+281474976710656*y3:=by omega
 have dg:Rv 9999 a=some [x0,x1,x2,x3]:=by
  unfold Rv;rw[tj,yM7,vHa,vi,vi,vi,vi,←hx0,←du,←Ei,←hx3]
 have run:=aaB a b x0 x1 x2 x3;rw[aaw,tj,yM7,vHa,vi,vi,vi,vi,←VE,←Wr,←Ws,←hy3] at run;have D5:=aaC (x0:=x0) (x1:=x1) (x2:=x2) (x3:=x3) (y0:=y0) (y1:=y1) (y2:=y2) (y3:=y3);rw[←ea,←eb] at D5;have hm:=wF ha.1 ha.2 hb.1 hb.2;have m00:=wF yw.1 yw.2 y8.1 y8.2;have m01:=wF yw.1 yw.2 y9.1 y9.2;have m02:=wF yw.1 yw.2 za.1 za.2;have m03:=wF yw.1 yw.2 zb.1 zb.2;have m10:=wF yx.1 yx.2 y8.1 y8.2;have m11:=wF yx.1 yx.2 y9.1 y9.2;have m12:=wF yx.1 yx.2 za.1 za.2;have m13:=wF yx.1 yx.2 zb.1 zb.2;have m20:=wF yy.1 yy.2 y8.1 y8.2;have m21:=wF yy.1 yy.2 y9.1 y9.2;have m22:=wF yy.1 yy.2 za.1 za.2;have m23:=wF yy.1 yy.2 zb.1 zb.2;have m30:=wF yz.1 yz.2 y8.1 y8.2;have m31:=wF yz.1 yz.2 y9.1 y9.2;have m32:=wF yz.1 yz.2 za.1 za.2;have m33:=wF yz.1 yz.2 zb.1 zb.2;generalize x0*y0=z00 at*
 generalize x0*y1=Rw at*
 generalize x0*y2=MC at*
 generalize x0*y3=Ht at*
 generalize x1*y0=z10 at*
 generalize x1*y1=Rx at*
 generalize x1*y2=MD at*
 generalize x1*y3=ME at*
 generalize x2*y0=z20 at*
 generalize x2*y1=Ry at*
 generalize x2*y2=Rz at*
 generalize x2*y3=RA at*
 generalize x3*y0=z30 at*
 generalize x3*y1=z31 at*
 generalize x3*y2=z32 at*
 generalize x3*y3=z33 at*
 rw[zQ (x:=z00)] at run;rw[zQ (x:=Rw)] at run;rw[zQ (x:=MC)] at run;rw[zQ (x:=Ht)] at run;rw[zQ (x:=z10)] at run;rw[zQ (x:=Rx)] at run;rw[zQ (x:=MD)] at run;rw[zQ (x:=ME)] at run;rw[zQ (x:=z20)] at run;rw[zQ (x:=Ry)] at run;rw[zQ (x:=Rz)] at run;rw[zQ (x:=RA)] at run;rw[zQ (x:=z30)] at run;rw[zQ (x:=z31)] at run;rw[zQ (x:=z32)] at run;rw[zQ (x:=z33)] at run;rw[zQ (x:=0+z00)] at run;rw[zQ (x:=0+Rw)] at run;rw[zQ (x:=0+MC)] at run;rw[zQ (x:=0+Ht)] at run;rw[zQ (x:=0+Rw+z10)] at run;rw[zQ (x:=0+MC+Rx)] at run;rw[zQ (x:=0+Ht+MD)] at run;rw[zQ (x:=0+ME)] at run;rw[zQ (x:=0+MC+Rx+z20)] at run;rw[zQ (x:=0+Ht+MD+Ry)] at run;rw[zQ (x:=0+ME+Rz)] at run;rw[zQ (x:=0+RA)] at run;rw[zQ (x:=0+Ht+MD+Ry+z30)] at run;rw[zQ (x:=0+ME+Rz+z31)] at run;rw[zQ (x:=0+RA+z32)] at run;rw[zQ (x:=0+z33)] at run;obtain⟨d0,d1,d2,d3,d4,d5,d6,d7,d8,c1,c2,n0,n1,n2,n3,n4,n5,n6,n7,n8⟩:=vDu (l0:=0+z00) (l1:=0+Rw+z10) (l2:=0+MC+Rx+z20) (l3:=0+Ht+MD+Ry+z30) (l4:=0+ME+Rz+z31) (l5:=0+RA+z32) (l6:=0+z33) (l7:=0) (l8:=0) (by omega) (by omega) (by omega) (by omega) (by omega) (by omega) (by omega) (by omega) (by omega);refine⟨d0,d1,d2,d3,d4,d5,d6,d7,d8,?_,?_,n0,n1,n2,n3,n4,n5,n6,n7,?_⟩
 ·unfold Ru;rw[dg];simp only[ae];rw[run];simp only[ae];rw[c1];rfl
 ·rw[c2,D5];unfold V9;omega
 ·have:V9 d0 d1 d2 d3 d4 d5 d6 d7 d8=a*b:=by
   rw[c2,D5];unfold V9;omega
  unfold V9 at this;omega
theorem vP0 {p m c:Int}(hp:0≤p∧p≤1048576)(hm:0≤m∧m≤1099511627776)(hc:0≤c∧c≤10000):RB 9999 p m c=some (uR p m c,true):=by
 obtain⟨d0,d1,d2,d3,d4,d5,d6,d7,d8,e1,e2,n0,n1,n2,n3,n4,n5,n6,n7,n8⟩:=aaD hp hm;have zc:=wF hp.1 hp.2 hm.1 hm.2;have hn:0≤10000-c∧10000-c≤10000:=by omega
 have wn:zA (10000-c)=10000-c:=zQ;have hw:=yZr hp hm hc;unfold uR at hw⊢;have hpn:=wF zc.1 zc.2 hn.1 hn.2;have eV:=vNo d0 d1 d2 d3 d4 d5 d6 d7 d8 (10000-c);rw[e2] at eV;unfold RB;rw[ab (show¬p<0 by omega),ab (show¬m<0 by omega),ab (show¬c<0 by omega),ab (show¬c>10000 by omega),e1,wn];simp only[ak,ae];rw[vS9];generalize 10000-c=n at*
 have u0:=wF n0.1 (show d0≤65535 by omega) hn.1 hn.2;have u1:=wF n1.1 (show d1≤65535 by omega) hn.1 hn.2;have u2:=wF n2.1 (show d2≤65535 by omega) hn.1 hn.2;have u3:=wF n3.1 (show d3≤65535 by omega) hn.1 hn.2;have u4:=wF n4.1 (show d4≤65535 by omega) hn.1 hn.2;have u5:=wF n5.1 (show d5≤65535 by omega) hn.1 hn.2;have u6:=wF n6.1 (show d6≤65535 by omega) hn.1 hn.2;have u7:=wF n7.1 (show d7≤65535 by omega) hn.1 hn.2;have u8:0≤d8*n∧d8*n≤0:=by rw[n8,Int.zero_mul];omega
 generalize d0*n=t0 at*
 generalize d1*n=t1 at*
 generalize d2*n=t2 at*
 generalize d3*n=t3 at*
 generalize d4*n=t4 at*
 generalize d5*n=t5 at*
 generalize d6*n=t6 at*
 generalize d7*n=t7 at*
 generalize d8*n=t8 at*
 rw[zQ (x:=t0),zQ (x:=t1),zQ (x:=t2),zQ (x:=t3),zQ (x:=t4),zQ (x:=t5),zQ (x:=t6),zQ (x:=t7),zQ (x:=t8)];obtain⟨e0,e1,e2,e3,e4,e5,e6,e7,e8,f1,f2,k0,k1,k2,k3,k4,k5,k6,k7,k8⟩:=vDu (l0:=t0) (l1:=t1) (l2:=t2) (l3:=t3) (l4:=t4) (l5:=t5) (l6:=t6) (l7:=t7) (l8:=t8) (by omega) (by omega) (by omega) (by omega) (by omega) (by omega) (by omega) (by omega) (by omega);rw[f1];simp only[ae];rw[←eV] at f2;have z8:e8≤0:=by unfold V9 at f2;omega
 rw[aaA k0 k1 k2 k3 k4 k5 k6 k7 ⟨k8,z8⟩ (by rw[f2];exact hw.2),f2];rfl
theorem yBi k x y:Hu k x.1 x.2.1 x.2.2.1 x.2.2.2.1 x.2.2.2.2.1 x.2.2.2.2.2.1 x.2.2.2.2.2.2 y.1 y.2.1 y.2.2.1 y.2.2.2.1 y.2.2.2.2.1 y.2.2.2.2.2.1 y.2.2.2.2.2.2=some (wA x y):=by
 unfold Hu wA;grind
theorem aaE k {a b}(ha:0≤a∧a≤4611686018427387904)(hb:0≤b∧b≤1152921504606846976):Hv k a b=some (a+b,true):=by
 unfold Hv;rw[zQ (x:=a+b),zQ (x:=9223372036854775807-b),ab (show¬a>9223372036854775807-b by omega),ab (show¬b<0 by omega)];simp
theorem yC2 {sa pr h}(L:ki sa pr h):zd 9999 sa pr h=some (gD sa pr h,true):=by
 have h3:=L.n3;obtain ⟨s', g1, g2⟩ := vB (L := fun n i (v : Int) => MF 9999 n sa pr h v i) (N := sa.length) (fun v => (.inl v : Int ⊕ Int × Bool)) (fun i v => v = qI (oq sa pr h) i) (fun n v _=>by
  show Hw 9999 _ sa pr h v (sa.length:Int)=_;unfold Hw;simp) (fun n i v hi hv=>by
  refine⟨v+oq sa pr h i,?_,by rw[hv];rfl⟩;show Hw 9999 (MF 9999 n) sa pr h v (i:Int)=_;unfold Hw;have hw:=L5 L hi;have hb:=QX (g:=oq sa pr h) (n:=i) (fun j hj=>L5 L (by omega));have ed:sa.getD i (0,0)=sa.getD i uS:=rfl;rw[aa (by grind),qA,qA,qA,aa hi,aa (show i<pr.length by rw[L.pl];exact hi),aa (show i<h.length by rw[L.hl];exact hi),ao,ed,vP0 (L.price i hi) (L.hold i hi) (L.cut i hi)];simp only[ae];have e:uR (pr.getD i 0) (h.getD i 0) (sa.getD i uS).2=oq sa pr h i:=rfl;rw[e,aaE _ (by omega) hw,qD hi (by omega)];rfl) (n:=9999) (s:=0) (by omega) rfl
 unfold zd;rw[aa (show(pr.length:Int)=(sa.length:Int) by rw[L.pl]),aa (show(h.length:Int)=(sa.length:Int) by rw[L.hl]),g1,g2];rfl
theorem Cu {α:Type}{d}(l:List α){i} h:l.getD i d=l[i]:=by
 simp_all
theorem vk {k l}(hk:l.length<k)(hl:qW l) id:ow k l id=some (iD l id):=by
 unfold qW at hl;unfold ow;rw[LN hk (by omega)];unfold fk iD;cases hp:vU l id with
 |none=>rfl
 |some x=>
  have hx:=(kW hp).1;have e1:decide ((x:Int)<0)=false:=ab;have e2:decide ((0:Int)≤(x:Int))=true:=by simp
  have e3:decide ((x:Int)≤(l.length:Int))=true:=aa;have e4:decide ((0:Int)≤((x+1:Nat):Int))=true:=aa;have e5:decide (((x+1:Nat):Int)≤(l.length:Int))=true:=aa;have l1:=List.length_take_le x l;have l2:(l.drop (x+1)).length≤l.length:=by rw[List.length_drop];omega
  have e6:zO (0+(l.take x).length) 56=true:=qG;have e7:zO ((l.take x).length+(l.drop (x+1)).length) 56=true:=qG;simp only[ae,e3,e5,qD hx (show l.length<9223372036854775808 by omega),qA,aa hx,ao,e6,e7];rfl
theorem yBy (q p:zI):iX q p= !wA p q:=by
 unfold iX wA;rcases Int.lt_trichotomy q.2.1 p.2.1 with h|h|h
 ·have h1:¬p.2.1<q.2.1:=by omega
  have h2:¬p.2.1=q.2.1:=by omega
  simp[h,h1,h2]
 ·rcases Int.lt_trichotomy q.2.2.2.2.1 p.2.2.2.2.1 with g|g|g
  ·have g1:¬p.2.2.2.2.1≤q.2.2.2.2.1:=by omega
   simp[h,g,g1]
  ·simp[h,g]
  ·have g1:¬q.2.2.2.2.1<p.2.2.2.2.1:=by omega
   have g2:p.2.2.2.2.1≤q.2.2.2.2.1:=by omega
   simp[h,g1,g2]
 ·have h1:¬q.2.1<p.2.1:=by omega
  have h2:¬q.2.1=p.2.1:=by omega
  simp[h,h1,h2]
theorem RD {k}{l:List zI}(hl:l.length≤9999){x}(hx:x≤l.length) y:Cv k l x y.1 y.2.1 y.2.2.1 y.2.2.2.1 y.2.2.2.2.1 y.2.2.2.2.2.1 y.2.2.2.2.2.2=some (l.take x++(y::l.drop x)):=by
 unfold Cv;have e1:(decide (0≤(x:Int))&&decide ((x:Int)≤((l.length:Nat):Int)))=true:=by simp_all
 have e2:zO (0+(l.take x).length) 56=true:=qG (by grind) (by grind);have e3:zO ((l.take x).length+1) 56=true:=qG (by grind) (by grind);rw[e1,ao,e2,e3];have e4:zO ((l.take x++[(y.1,(y.2.1,(y.2.2.1,(y.2.2.2.1,(y.2.2.2.2.1,(y.2.2.2.2.2.1,y.2.2.2.2.2.2))))))]).length+(l.drop x).length) 56=true:=qG (by grind) (by grind);grind
theorem yDf {k}{l:List zI}(hk:l.length<k)(hl:l.length≤9999) y:Hy k l y.1 y.2.1 y.2.2.1 y.2.2.2.1 y.2.2.2.2.1 y.2.2.2.2.2.1 y.2.2.2.2.2.2=some (((l.takeWhile (fun q=>wA q y)).length:Nat):Int):=by
 have := Gl (L := fun n i => Hz k n l i y.1 y.2.1 y.2.2.1 y.2.2.2.1 y.2.2.2.2.1 y.2.2.2.2.2.1 y.2.2.2.2.2.2) (N := l.length) (fun x => wA (l.getD x pd) y) (fun i => (i : Int)) (fun n=>by
  show HA k _ l l.length _ _ _ _ _ _ _=_;unfold HA;simp) (fun n i hi=>by
  show HA k _ l i _ _ _ _ _ _ _=_;unfold HA;have h1:=yBi k (l.getD i pd) y;simp only[qA,qV,ao,aa hi,ai,h1,ae,qD hi (by grind)]
  ) l.length 0 k (by omega) hk
 have e:((0:Nat):Int)=0:=rfl;unfold Hy;have h':Hz k k l 0 y.1 y.2.1 y.2.2.1 y.2.2.2.1 y.2.2.2.2.1 y.2.2.2.2.2.1 y.2.2.2.2.2.2=_:=this;rw[h',Gm (fun q=>wA q y) l pd l.length 0 (by omega),List.drop_zero,Nat.zero_add];rfl
theorem vYe {k:Nat}{l:List zI}(hk:l.length<k)(hl:l.length≤9999)(p:zI):
  Cw k l p.1 p.2.1 p.2.2.1 p.2.2.2.1 p.2.2.2.2.1 p.2.2.2.2.2.1 p.2.2.2.2.2.2=some (bif (vU l p.1).isSome then(l,6) else bif decide (40≤l.length) then(l,3) else(px l p,0)):=by
 unfold Cw;rw[LN hk (by omega)];unfold fk;cases hp:vU l p.1 with
 |some x=>
  have e1:decide ((x:Int)≥0)=true:=aa;simp only[ae,e1,ai,Option.isSome_some]
 |none=>
  have e1:decide ((-1:Int)≥0)=false:=rfl;simp only[ae,e1,ak,Option.isSome_none];by_cases h:40≤l.length
  ·rw[aa h,aa (show(l.length:Int)≥40 by omega)];rfl
  ·rw[ab h,ab (show¬(l.length:Int)≥40 by omega)];simp only[ak];rw[yDf hk hl p];simp only[ae];rw[RD hl (Ca _ l) p,(oh _ l).1,(oh _ l).2];rfl
theorem vVn {k l}(bK:l.length<k)(hl:qW l){id x}(hx:vU l id=some x) c:
  MG k l id c=some (px (yL l x) ((l.getD x pd).1,(l.getD x pd).2.1,(l.getD x pd).2.2.1,(l.getD x pd).2.2.2.1,c,(l.getD x pd).2.2.2.2.2.1,(l.getD x pd).2.2.2.2.2.2),0):=by
 have du:=kW hx;have hlen:=og du.1;have dL:=hl;unfold qW at dL;unfold MG;rw[vk bK hl];unfold iD;rw[hx];simp only[ae];have h1:=yDf (k:=k) (l:=yL l x) (by omega) (by omega) ((l.getD x pd).1,(l.getD x pd).2.1,(l.getD x pd).2.2.1,(l.getD x pd).2.2.2.1,c,(l.getD x pd).2.2.2.2.2.1,(l.getD x pd).2.2.2.2.2.2);rw[h1];simp only[ae];have h2:=RD (k:=k) (l:=yL l x) (by omega) (Ca (fun q=>wA q ((l.getD x pd).1,(l.getD x pd).2.1,(l.getD x pd).2.2.1,(l.getD x pd).2.2.2.1,c,(l.getD x pd).2.2.2.2.2.1,(l.getD x pd).2.2.2.2.2.2)) (yL l x)) ((l.getD x pd).1,(l.getD x pd).2.1,(l.getD x pd).2.2.1,(l.getD x pd).2.2.2.1,c,(l.getD x pd).2.2.2.2.2.1,(l.getD x pd).2.2.2.2.2.2);rw[h2,(oh _ (yL l x)).1,(oh _ (yL l x)).2];rfl
theorem aaF {k l}(bK:l.length<k)(hl:qW l){id x}(hx:vU l id=some x):
  MH k l id=some (px (yL l x) (l.getD x pd),0):=by
 have du:=kW hx;have hlen:=og du.1;have dL:=hl;unfold qW at dL;unfold MH;rw[vk bK hl];unfold iD;rw[hx];simp only[ae];rw[yDf (k:=k) (l:=yL l x) (by omega) (by omega) (l.getD x pd)];simp only[ae];rw[RD (k:=k) (l:=yL l x) (by omega) (Ca (fun q=>wA q (l.getD x pd)) (yL l x)) (l.getD x pd),(oh _ (yL l x)).1,(oh _ (yL l x)).2];rfl
theorem vUv {k l}(bK:l.length<k)(hl:qW l){id x}(hx:vU l id=some x):
  MI k l id=some (LS (yL l x) (l.getD x pd),0):=by
 have du:=kW hx;have hlen:=og du.1;have dL:=hl;unfold qW at dL;have MJ:∀(l:List zI),l.length<k→l.length≤9999→∀p:zI,MK k k l 0 p=some (l,(((l.takeWhile (fun q=>iX q p)).length:Nat):Int),p):=by
  intro l bK hl p;have := Gl (L := fun n i => MK k n l i p) (N := l.length) (fun x => iX (l.getD x pd) p) (fun i => (l, (i : Int), p)) (fun n=>by
   show HB k _ l l.length p=_;unfold HB;simp) (fun n i hi=>by
   show HB k _ l i p=_;unfold HB;have h1:=yBi k p (l.getD i pd);simp only[qA,qV,ao,aa hi,h1,qD hi (by grind),yBy];rfl) l.length 0 k (by omega) bK
  have e:((0:Nat):Int)=0:=rfl;rw[e] at this;rw[this,Gm (fun q=>iX q p) l pd l.length 0 (by omega),List.drop_zero,Nat.zero_add]
 unfold MI;rw[vk bK hl];unfold iD;rw[hx];have h1:=MJ (yL l x) (by omega) (by omega) (l.getD x pd);refine(congrArg (fun z=>Option.bind z _) h1).trans ?_;simp only[ae];rw[RD (k:=k) (l:=yL l x) (by omega) (Ca (fun q=>iX q (l.getD x pd)) (yL l x)) (l.getD x pd),(oh _ (yL l x)).1,(oh _ (yL l x)).2];rfl
theorem aaG {k:Nat}{l:AC}(hk:l.length<k)(hl:l.length≤9999)(id:Int):Cx k l id=some (decide (id∈l)):=by
 have := fg (L := fun n i => tl k n l id i) (N := l.length) (fun i => !decide (l.getD i 0 = id)) (.inl ()) (.inr true) (fun n=>by
  show tm k _ l id l.length=_;unfold tm;rw [ab (Int.lt_irrefl _)]; rfl) (fun n i hi=>by
  show tm k (tl k n) l id i=_;unfold tm;rw[aa (show(i:Int)<l.length by omega),qA,aa hi,ao,qD hi (by omega)];cases decide (l.getD i 0=id)<;>rfl) hk
 unfold Cx;have h':tl k k l id 0=_:=this;rw[h'];have e:qB (fun i=> !decide (l.getD i 0=id)) l.length 0= !decide (id∈l):=by
  by_cases hm:id∈l
  ·rw[aa hm];cases ha:qB (fun i=> !decide (l.getD i 0=id)) l.length 0 with
   |false=>rfl
   |true=>
    obtain⟨i,hi,e⟩:=List.getElem_of_mem hm;have:=wI.1 ha i hi;rw[Cu l hi,e] at this;simp at this
  ·rw[ab hm];refine wI.2 fun i hi=>?_
   rw[ab (show¬l.getD i 0=id from fun e=>hm (by rw[←e];exact fU hi))];rfl
 rw[e];cases decide (id∈l)<;>rfl
theorem vTy {k:Nat}{l:AC}(hk:l.length<k)(hl:l.length≤9999)(id:Int):
  Cy k l id=some (bif decide (id∈l) then(l,6) else bif decide (200≤l.length) then(l,3) else(qu l id,0)):=by
 unfold Cy;rw[aaG hk hl];simp only[ae];by_cases hm:id∈l
 ·rw[aa hm];rfl
 ·rw[ab hm];simp only[ak];by_cases h:200≤l.length
  ·rw[aa h,aa (show(l.length:Int)≥200 by omega)];rfl
  ·rw[ab h,ab (show¬(l.length:Int)≥200 by omega)];have := Gl (L := fun n i => ML k n l id i) (N := l.length) (fun x => decide (l.getD x 0 < id)) (fun i => (l, id, (i : Int))) (fun n=>by
    show HC k _ l id l.length=_;unfold HC;simp only [qV, ab (Nat.lt_irrefl _), ak]) (fun n i hi=>by
    show HC k _ l id i=_;unfold HC;simp only[qA,qV,ao,aa hi,ai,qD hi (show l.length<9223372036854775808 by omega)];rfl) l.length 0 k (by omega) hk
   have e:((0:Nat):Int)=0:=rfl;rw[e,Gm (fun x=>decide (x<id)) l 0 l.length 0 (by omega),List.drop_zero,Nat.zero_add] at this;have h':ML k k l id 0=_:=this;simp only[ak];rw[h'];have hn:=Ca (fun x=>decide (x<id)) l;obtain⟨t1,t2⟩:=oh (fun x=>decide (x<id)) l;have e1:(decide (0≤(((l.takeWhile (fun x=>decide (x<id))).length:Nat):Int))&&decide ((((l.takeWhile (fun x=>decide (x<id))).length:Nat):Int)≤((l.length:Nat):Int)))=true:=by simp;exact hn
   have hd:=(List.dropWhile_sublist (fun x=>decide (x<id)) (l:=l)).length_le;simp only[ae,e1,ai,ao,t1,t2];rw[qG (n:=0+(l.takeWhile (fun x=>decide (x<id))).length) (by omega) (by omega),qG (n:=(l.takeWhile (fun x=>decide (x<id))).length+1) (by omega) (by omega),qG (n:=(l.takeWhile (fun x=>decide (x<id))++[id]).length+(l.dropWhile (fun x=>decide (x<id))).length) (by rw[aA];simp;omega) (by rw[aA];simp;omega)];simp only[ai];unfold qu;simp
abbrev aaH:=Int×List om×Int×Int×Int×Int×List yA×jL×AC×jL×AC×jL×List zI×AC×Int×Bool×Int
def gF (r:qQ)(s:qH)(who:Int):aaH:=(r.1,r.2.1,r.2.2.1,r.2.2.2.1,r.2.2.2.2,s.t,s.B.1,s.B.2.1,s.B.2.2.1,s.B.2.2.2,s.pr,s.ho,s.m,s.ids,s.to,s.ov,who)
def RE (s:qH)(i:Nat)(a:yA)(to:Int):qH:={s with B:=(s.B.1.set i a,s.B.2.1,s.B.2.2.1,s.B.2.2.2),to:=to}
def MM (s:qH)(i:Nat)(n:Int):Int×qH:=
 bif decide ((s.B.1.getD i ad).1+(s.B.1.getD i ad).2.1-(s.B.1.getD i ad).2.2<n) then(9,s)
 else bif decide (s.to-n<0) then(9,s)
 else bif !decide ((jW (s.B.1.getD i ad) (-n)).2=0) then((jW (s.B.1.getD i ad) (-n)).2,s)
 else bif decide (s.to-n>1152921504606846976) then(8,s)
 else(0,RE s i (jW (s.B.1.getD i ad) (-n)).1 (s.to-n))
def MN (s:qH)(i:Nat)(n:Int):Int×qH:=
 bif !decide ((jW (s.B.1.getD i ad) n).2=0) then((jW (s.B.1.getD i ad) n).2,s)
 else bif decide (s.to+n>1152921504606846976) then(8,s)
 else(0,RE s i (jW (s.B.1.getD i ad) n).1 (s.to+n))
def lj (r:qQ)(s:qH)(kd to n:Int):Int×qH:=
 bif !(decide (to≥0)&&decide (to≤r.1-1)) then(1,s)
 else bif !(decide (n≥1)&&decide (n≤1099511627776)) then(1,s)
 else bif decide (kd=11) then MM s to.toNat n else MN s to.toNat n
theorem vN3 {k}(hk:9999≤k){r}(hr:wT r){s}(h:yF r s) who kd to n:
    ∃d,HD k (gF r s who) kd to n=some ((lj r s kd to n).1,d)∧((lj r s kd to n).1=0→d=dk r (lj r s kd to n).2 who []):=by
  have hp:=hr.pa;have hn:=h.n;have ht:=h.tot;have w1:zA (r.1-1)=r.1-1:=zQ;have eD:HD k (gF r s who) kd to n=(vF k to 0 (zA (r.1-1))).bind fun x0=>
    bif !x0 then some (1,dk r s who [])
    else(vF k n 1 1099511627776).bind fun x1=>
    bif !x1 then some (1,dk r s who [])
    else bif zB to s.B.1.length then ((HE k (s.B.1.getD to.toNat (0,0,0)) n).bind fun x2=>
      bif decide (kd = 11) then ((HF k (s.B.1.getD to.toNat (0,0,0)) n 3).bind fun x3=>
       (HG k (s.B.1.getD to.toNat (0,0,0)) 3).bind fun x4=>
       bif decide (x4<n) then some (9,dk r s who [])
       else bif decide ((zA (s.to-n))<0) then some (9,dk r s who [])
       else bif !(decide (x3.2=0)) then some (x3.2,dk r s who [])
       else bif decide ((zA (s.to-n))>1152921504606846976) then some (8,dk r s who [])
       else(gC k s.B.1 s.B.2.1 s.B.2.2.1 s.B.2.2.2).bind fun x5=>
       bif zB to x5.1.length then some (0,dk r {s with B:=(x5.1.set to.toNat x3.1,x5.2.1,x5.2.2.1,x5.2.2.2),to:=zA (s.to-n)} who [])
       else none)
      else bif !(decide (x2.2=0)) then some (x2.2,dk r s who [])
      else bif decide ((zA (s.to+n))>1152921504606846976) then some (8,dk r s who [])
      else(gC k s.B.1 s.B.2.1 s.B.2.2.1 s.B.2.2.2).bind fun x6=>
      bif zB to x6.1.length then some (0,dk r {s with B:=(x6.1.set to.toNat x2.1,x6.2.1,x6.2.2.1,x6.2.2.2),to:=zA (s.to+n)} who [])
      else none)
    else none:=rfl
  rw[eD,w1,nv,nv,Lc (by omega) h.bk.toSized];simp only[ae];unfold lj;cases hc:decide (to≥0)&&decide (to≤r.1-1) with
  |false=>exact by simp
  |true=>
  simp only[aR,aZ] at hc;cases hm:decide (n≥1)&&decide (n≤1099511627776) with
  |false=>exact by simp
  |true=>
  simp only[aR,aZ] at hm;obtain⟨i,rfl⟩:=Int.eq_ofNat_of_zero_le hc.1;have hi:i<s.B.1.length:=by omega
  have hb:=h.bk.nums.bal i hi;have kN:=h.bk.nums.res i hi;have hcr:=h.most i hi;have aaI:0≤(s.B.1.getD i ad).2.1:=by rw[h.cred i hi];exact GB (h.laid i hi)
  have b0:zB (i:Int) s.B.1.length=true:=by rw[qA,aa hi]
  have MO:HE k (s.B.1.getD i (0,0,0)) n=some (jW (s.B.1.getD i ad) n):=by
    unfold HE;rw[vHn hb (by omega)];rfl
  have MP:HF k (s.B.1.getD i (0,0,0)) n 3=some (jW (s.B.1.getD i ad) (-n)):=by
    unfold HF;rw[show zA (0-n)= -n by rw[zQ];omega,vHn hb (by omega)];simp
  have ze:HG k (s.B.1.getD i (0,0,0)) 3=some ((s.B.1.getD i ad).1+(s.B.1.getD i ad).2.1-(s.B.1.getD i ad).2.2):=by
    unfold HG;have d1:decide ((3:Int)=3)=true:=rfl;rw[d1,ai];have q1:zA ((s.B.1.getD i (0,0,0)).1+(s.B.1.getD i (0,0,0)).2.1)=(s.B.1.getD i ad).1+(s.B.1.getD i ad).2.1:=zQ (by simp only[ad] at*;omega) (by simp only[ad] at*;omega);rw[q1];exact congrArg some (zQ (by simp only[ad] at*;omega) (by simp only[ad] at*;omega))
  have q2:zA (s.to-n)=s.to-n:=zQ;have q3:zA (s.to+n)=s.to+n:=zQ;simp only[aB,ak,b0,ai,ao,MO,MP,ze,ae,q2,q3];clear MO MP ze eD;cases decide (kd=11) with
  |true=>
    simp only[ai];unfold MM;cases decide ((s.B.1.getD i ad).1+(s.B.1.getD i ad).2.1-(s.B.1.getD i ad).2.2<n) with
    |true=>exact by simp
    |false=>
    cases decide (s.to-n<0) with
    |true=>exact by simp
    |false=>
    cases hz:decide ((jW (s.B.1.getD i ad) (-n)).2=0) with
    |false=>exact by simp
    |true=>
    cases decide (s.to-n>1152921504606846976) with
    |true=>exact by simp
    |false=>exact⟨_,rfl,fun _=>rfl⟩
  |false=>
    simp only[ak];unfold MN;cases hz:decide ((jW (s.B.1.getD i ad) n).2=0) with
    |false=>exact by simp
    |true=>
    cases decide (s.to+n>1152921504606846976) with
    |true=>exact by simp
    |false=>exact⟨_,rfl,fun _=>rfl⟩
def gG (sa:List om)(pr:AC)(ho:jL)(j:Nat):Int:=gD sa pr (ho.getD j [])
def vl (sa:List om)(pr:AC)(ho:jL)(a:List yA):List yA:=(List.range a.length).map fun j=>((a.getD j ad).1,gG sa pr ho j,(a.getD j ad).2.2)
def HH (r:qQ)(s:qH)(pr:AC):Int×qH:=
 bif qB (fun j=> !decide (gG r.2.1 pr s.ho j>1152921504606846976)) s.B.1.length 0 then(0,{s with B:=(vl r.2.1 pr s.ho s.B.1,s.B.2.1,s.B.2.2.1,s.B.2.2.2),pr:=pr}) else(8,s)
def lk (r:qQ)(s:qH)(a p:Int):Int×qH:=
 bif !(decide (a≥0)&&decide (a≤(r.2.1.length:Int)-1)) then(1,s)
 else bif !(decide (p≥0)&&decide (p≤1048576)) then(1,s)
 else HH r s (s.pr.set a.toNat p)
theorem qXx sa pr ho a:(vl sa pr ho a).length=a.length:=by simp[vl]
theorem qMh sa pr ho a {j}(hj:j<a.length):(vl sa pr ho a).getD j ad=((a.getD j ad).1,gG sa pr ho j,(a.getD j ad).2.2):=by
 unfold vl;simp_all
theorem vT6 {k:Nat}(hk:9999≤k){r:qQ}{s:qH}(who:Int){pr:AC}(hL:∀i,i<s.B.1.length→ki r.2.1 pr (s.ho.getD i []))(hol:s.ho.length=s.B.1.length)(hY:s.B.1.length≤6):
  (qB (fun j=> !decide (gG r.2.1 pr s.ho j>1152921504606846976)) s.B.1.length 0=true∧vm k k s.ho s.ho.length 0 (gF r s who) pr s.B.1 s.B.2.1 s.B.2.2.1 s.B.2.2.2=some (.inl (gF r s who,pr,vl r.2.1 pr s.ho s.B.1,s.B.2.1,s.B.2.2.1,s.B.2.2.2)))∨
  (qB (fun j=> !decide (gG r.2.1 pr s.ho j>1152921504606846976)) s.B.1.length 0=false∧vm k k s.ho s.ho.length 0 (gF r s who) pr s.B.1 s.B.2.1 s.B.2.2.1 s.B.2.2.2=some (.inr (8,gF r s who))):=by
 rw[hol];have:=Lr (L:=fun n i (a:List yA)=>vm k n s.ho s.B.1.length i (gF r s who) pr a s.B.2.1 s.B.2.2.1 s.B.2.2.2) (N:=s.B.1.length) (fun j=> !decide (gG r.2.1 pr s.ho j>1152921504606846976))
  (fun a=>.inl (gF r s who,pr,a,s.B.2.1,s.B.2.2.1,s.B.2.2.2)) (.inr (8,gF r s who))
  (fun i a => a.length = s.B.1.length ∧ ∀ j, j < s.B.1.length → a.getD j ad = if j < i then ((s.B.1.getD j ad).1, gG r.2.1 pr s.ho j, (s.B.1.getD j ad).2.2) else s.B.1.getD j ad) (fun n a _=>by
   show HI k _ s.ho s.B.1.length s.B.1.length (gF r s who) pr a s.B.2.1 s.B.2.2.1 s.B.2.2.2=_;unfold HI;simp only [qV, ab (Nat.lt_irrefl _), ak]) (fun n i a hi ha=>by
   have hv:=ZS (k:=k) (hL i hi) (by omega);have aI:vm k (n+1) s.ho s.B.1.length i (gF r s who) pr a s.B.2.1 s.B.2.2.1 s.B.2.2.2=bif decide (gG r.2.1 pr s.ho i>1152921504606846976) then some (.inr (8,gF r s who)) else vm k n s.ho s.B.1.length ((i+1:Nat):Int) (gF r s who) pr (a.set i ((a.getD i ad).1,gG r.2.1 pr s.ho i,(a.getD i ad).2.2)) s.B.2.1 s.B.2.2.1 s.B.2.2.2:=by
    show HI k _ s.ho s.B.1.length i (gF r s who) pr a s.B.2.1 s.B.2.2.1 s.B.2.2.2=_;unfold HI;have iP:nk k (gF r s who).2.1 pr (s.ho.getD i [])=some (gG r.2.1 pr s.ho i,true):=hv;simp only[qV,qA,ao,aa hi,aa (show i<s.ho.length by omega),aa (show i<a.length by rw[ha.1];exact hi),ai,iP,ae,aB,ak,qD hi (show s.B.1.length<9223372036854775808 by omega)];rfl
   refine⟨fun ho=>?_,fun ho=>?_⟩
   ·have h1:decide (gG r.2.1 pr s.ho i>1152921504606846976)=false:=by simpa using ho
    refine⟨_,by rw[aI,h1];rfl,by rw[List.length_set];exact ha.1,fun j hj=>?_⟩;rw[fG];by_cases e:i=j
    ·subst e;rw[if_pos ⟨rfl,by rw[ha.1];exact hi⟩,if_pos (by omega),ha.2 i hi,if_neg (Nat.lt_irrefl _)]
    ·rw[if_neg (by omega),ha.2 j hj];by_cases h:j<i
     ·rw[if_pos h,if_pos (by omega)]
     ·rw[if_neg h,if_neg (by omega)]
   ·have h1:decide (gG r.2.1 pr s.ho i>1152921504606846976)=true:=by simpa using ho
    rw[aI,h1];rfl) s.B.1.length 0 k s.B.1 (by omega) (by omega) ⟨rfl,fun j _=>by rw[if_neg (Nat.not_lt_zero _)]⟩
 rcases this with⟨h1,a,h2,h3,h4⟩|⟨h1,h2⟩
 ·refine .inl ⟨h1,?_⟩;have e:a=vl r.2.1 pr s.ho s.B.1:=EV ad (by rw[h3,qXx]) fun j hj=>by
   rw[h3] at hj;rw[h4 j hj,if_pos hj,qMh _ _ _ _ hj]
  rw[←e];exact h2
 ·exact .inr ⟨h1,h2⟩
theorem vY6 {k:Nat}(hk:9999≤k){r:qQ}(hr:wT r){s:qH}(h:yF r s)(who a p:Int):
  ∃d,RF k (gF r s who) a p=some ((lk r s a p).1,d)∧((lk r s a p).1=0→d=dk r (lk r s a p).2 who []):=by
 have h3:=hr.n3;have hY:=h.bk.n6;have pf:=h.bk.n1;have w1:zA ((r.2.1.length:Int)-1)=(r.2.1.length:Int)-1:=zQ;have eD:RF k (gF r s who) a p=((vF k a 0 (zA ((r.2.1.length:Int)-1))).bind fun x0=>some x0).bind fun x0=>
  bif !x0 then some (1,dk r s who [])
  else(vF k p 0 1048576).bind fun x1=>
  bif !x1 then some (1,dk r s who [])
  else(qy k s.pr a p).bind fun x2=>
  (gC k s.B.1 s.B.2.1 s.B.2.2.1 s.B.2.2.2).bind fun x3=>
  (vm k k s.ho (s.ho.length:Int) 0 (gF r s who) x2 x3.1 x3.2.1 x3.2.2.1 x3.2.2.2).bind fun z=>
  match z with
  |.inl z1=>some (0,(jD z1.1 (Cz z1 (z1.2.1,(qQi z1.1 [])))))
  |.inr z2=>some (jT z2 []):=rfl
 rw[eD,w1,nv,nv,Lc (by omega) h.bk.toSized];simp only[ae];unfold lk;cases hc:decide (a≥0)&&decide (a≤(r.2.1.length:Int)-1) with
 |false=>exact⟨_,rfl,fun e=>by cases e⟩
 |true=>
 simp only[aR,aZ] at hc;cases hm:decide (p≥0)&&decide (p≤1048576) with
 |false=>exact⟨_,rfl,fun e=>by cases e⟩
 |true=>
 simp only[aR,aZ] at hm;obtain⟨i,rfl⟩:=Int.eq_ofNat_of_zero_le hc.1;have hi:i<r.2.1.length:=by omega
 have L0:=h.laid 0 (by omega);have mC:qy k s.pr (i:Int) p=some (s.pr.set i p):=by
  have:=yPu (k:=k) (l:=s.pr) (by rw[L0.pl];omega) (i:=(i:Int)) (by omega) (by rw[L0.pl];omega) p;rw[ao] at this;exact this
 simp only[aB,ak,mC,ae,ao];unfold HH;rcases vT6 (r:=r) (s:=s) hk who (pr:=s.pr.set i p) (fun j hj=>(h.laid j hj).setP hi ⟨by omega,by omega⟩) h.hol hY with⟨g1,g2⟩|⟨g1,g2⟩
 ·rw[g2,g1];exact⟨_,rfl,fun _=>rfl⟩
 ·rw[g2,g1];exact⟨_,rfl,fun e=>by cases e⟩
theorem MQ {q p}:wA q p=true↔q.2.1<p.2.1∨(q.2.1=p.2.1∧q.2.2.2.2.1≤p.2.2.2.2.1):=by
 unfold wA;simp
theorem yEt {q p}:iX q p=true↔q.2.1<p.2.1∨(q.2.1=p.2.1∧q.2.2.2.2.1<p.2.2.2.2.1):=by
 unfold iX;simp
theorem ySx {a b c}(h:wA a b=true)(g:wA b c=true):wA a c=true:=by
 rw[MQ] at*;omega
theorem vRm {a b}(h:¬wA a b=true):wA b a=true:=by
 rw[MQ] at*;omega
theorem vX8 {a b}(h:iX a b=true):wA a b=true:=by
 rw[yEt] at h;rw[MQ];omega
theorem aaJ {a b}(h:¬iX a b=true):wA b a=true:=by
 rw[yEt] at h;rw[MQ];omega
theorem yKp f l (p:zI):List.Perm (l.takeWhile f++(p::l.dropWhile f)) (p::l):=by
 have:=List.perm_middle (a:=p) (l₁:=l.takeWhile f) (l₂:=l.dropWhile f);simp_all
theorem yZ7 {l:List zI}(hs:nu l)(p:zI)(f:zI→Bool)(h1:∀q,f q=true→wA q p=true)(h2:∀q,¬f q=true→wA p q=true):nu (l.takeWhile f++(p::l.dropWhile f)):=by
 have pW:=hs;unfold nu at hs pW⊢;rw[←List.takeWhile_append_dropWhile (p:=f) (l:=l)] at hs;obtain⟨a1,a2,a3⟩:=List.pairwise_append.1 hs;have htw:∀q∈l.takeWhile f,f q=true:=fun q hq=>List.all_eq_true.1 (List.all_takeWhile (p:=f) (l:=l)) q hq
 have hdw:∀q∈l.dropWhile f,wA p q=true:=by
  cases hd:l.dropWhile f with
  |nil=>intro q hq;cases hq
  |cons x m=>
   have hx:¬f x=true:=by
    have bx:l.dropWhile f≠[]:=by rw[hd];simp
    have:=List.head_dropWhile_not f bx;have e:(l.dropWhile f).head bx=x:=by simp only[hd,List.head_cons]
    rw[e] at this;simp[this]
   intro q hq;rcases List.mem_cons.1 hq with rfl|hq
   ·exact h2 _ hx
   ·rw[hd] at a2;exact ySx (h2 x hx) ((List.pairwise_cons.1 a2).1 q hq)
 refine List.pairwise_append.2 ⟨a1,List.pairwise_cons.2 ⟨hdw,a2⟩,fun a ha b hb=>?_⟩;rcases List.mem_cons.1 hb with rfl|hb
 ·exact h1 a (htw a ha)
 ·exact a3 a ha b hb
theorem yAo {l}(hs:nu l) p:nu (px l p):=yZ7 hs p _ (by simp) (fun _ h=>vRm h)
theorem aaK {l}(hs:nu l) p:nu (LS l p):=yZ7 hs p _ (fun _ h=>vX8 h) (fun _ h=>aaJ h)
theorem qR2 l p:List.Perm (px l p) (p::l):=yKp _ l p
theorem aaL l p:List.Perm (LS l p) (p::l):=yKp _ l p
theorem nu.cut {l}(h:nu l) x:nu (yL l x):=List.Pairwise.sublist (uQ l x) h
theorem vVt {l:AC}(ha:qt l){id:Int}(hn:id∉l):qt (qu l id):=by
 unfold qu;have rZ:=ha;unfold qt at ha rZ⊢;rw[←List.takeWhile_append_dropWhile (p:=fun x=>decide (x<id)) (l:=l)] at ha;obtain⟨a1,a2,a3⟩:=List.pairwise_append.1 ha;have htw:∀q∈l.takeWhile (fun x=>decide (x<id)),q<id:=fun q hq=>by simpa using List.all_eq_true.1 (List.all_takeWhile (p:=fun x=>decide (x<id)) (l:=l)) q hq
 have hdw:∀q∈l.dropWhile (fun x=>decide (x<id)),id<q:=by
  cases hd:l.dropWhile (fun x=>decide (x<id)) with
  |nil=>intro q hq;cases hq
  |cons x m=>
   have Bm:x∈l:=(List.dropWhile_sublist _).subset (by rw[hd];exact List.mem_cons_self ..);have hx:¬x<id:=by
    have bx:l.dropWhile (fun x=>decide (x<id))≠[]:=by rw[hd];simp
    have:=List.head_dropWhile_not (fun x=>decide (x<id)) bx;have e:(l.dropWhile (fun x=>decide (x<id))).head bx=x:=by simp only[hd,List.head_cons]
    rw[e] at this
    simpa using this
   have bx:x≠id:=fun e=>hn (e▸Bm)
   intro q hq;rcases List.mem_cons.1 hq with rfl|hq
   ·omega
   ·rw[hd] at a2;have:=(List.pairwise_cons.1 a2).1 q hq;omega
 refine List.pairwise_append.2 ⟨a1,List.pairwise_cons.2 ⟨hdw,a2⟩,fun a ha b hb=>?_⟩;rcases List.mem_cons.1 hb with rfl|hb
 ·exact htw a ha
 ·exact a3 a ha b hb
theorem aaM l id:List.Perm (qu l id) (id::l):=by
 have:=List.perm_middle (a:=id) (l₁:=l.takeWhile (fun x=>decide (x<id))) (l₂:=l.dropWhile (fun x=>decide (x<id)))
 rwa [List.takeWhile_append_dropWhile] at this
theorem la.sub {n m m' ids}(h:la n m ids)(hs:List.Sublist m' m):la n m' ids:=
 ⟨List.Pairwise.sublist hs h.dist,by have:=hs.length_le;have:=h.len;omega,List.Pairwise.sublist hs h.sort,fun p hp=>h.may p (by grind),fun p hp=>h.time p (by grind),fun p hp=>h.were p (by grind),h.asc,h.pos,h.idl⟩
theorem la.turn {n:Nat}{m:List zI}{ids:AC}(h:la n m ids){x:Nat}(hx:x<m.length){p:zI}{m':List zI}(hp:List.Perm m' (p::yL m x))(hs:nu m')(h1:p.1=(m.getD x pd).1)
  (h2:yN n p) (h3:0≤p.2.2.2.2.2.1∧p.2.2.2.2.2.1≤p.2.2.2.2.2.2∧p.2.2.2.2.2.2≤1048576):la n m' ids:=by
 have hc:=uQ m x;have hl:=og hx;have hd:qL (p::yL m x):=by
  refine List.pairwise_cons.2 ⟨fun q hq=>?_,h.dist.cut x⟩;rw[h1];have hd:=h.dist;unfold qL at hd;rw[QK m x pd hx] at hd;have LW:=List.pairwise_append.1 hd;have ZB:=List.pairwise_cons.1 LW.2.1;unfold yL at hq;rcases List.mem_append.1 hq with hq|hq
  ·exact fun e=>LW.2.2 _ hq _ (List.mem_cons_self ..) e.symm
  ·exact ZB.1 _ hq
 have hlen:=hp.length_eq;rw[List.length_cons] at hlen;refine⟨hd.perm hp,by have:=h.len;omega,hs,fun q hq=>?_,fun q hq=>?_,fun q hq=>?_,h.asc,h.pos,h.idl⟩;all_goals rcases List.mem_cons.1 (hp.subset hq) with rfl|py
 ·exact h2
 ·exact h.may q (hc.subset py)
 ·exact h3
 ·exact h.time q (hc.subset py)
 ·rw[h1];exact h.were _ (fU hx)
 ·exact h.were q (hc.subset py)
theorem aaN {r:qQ}{s:qH}(hr:wT r)(h:yF r s){who:Int}{f:jH}(h0:(iZ r s who f).1=0):la s.B.1.length (iZ r s who f).2.1 (iZ r s who f).2.2:=by
 have hw:=h.waits;have hn:=h.n;have ht:=h.tk;unfold iZ at h0⊢;cases hc:decide (f.2.2.1≥0)&&decide (f.2.2.1≤r.1-1) with
 |false=>rw[hc] at h0;cases h0
 |true=>
 cases dq:decide (f.2.2.2.2.1≥1)&&decide (f.2.2.2.2.1≤3) with
 |false=>rw[hc,dq] at h0;cases h0
 |true=>
 cases dM:decide (nx r s.t (ga who f)=0) with
 |false=>rw[hc,dq,dM] at h0;exact absurd h0 (gW dM)
 |true=>
 cases gV:decide (f.2.1∈s.ids) with
 |true=>rw[hc,dq,dM,gV] at h0;cases h0
 |false=>
 cases nf:decide (200≤s.ids.length) with
 |true=>rw[hc,dq,dM,gV,nf] at h0;cases h0
 |false=>
 cases EN:(vU s.m f.2.1).isSome with
 |true=>rw[hc,dq,dM,gV,nf,EN] at h0;cases h0
 |false=>
 cases EO:decide (40≤s.m.length) with
 |true=>rw[hc,dq,dM,gV,nf,EN,EO] at h0;cases h0
 |false=>
 show la s.B.1.length (px s.m (ga who f)) (qu s.ids f.2.1);have O8:f.2.1∉s.ids:=gW gV;have hi:=gW nf;have hm:=gW EO;have CA:=uE dM;have hip:ld r.1 s.t (ga who f)=true:=by
  unfold nx at CA;cases hb:ld r.1 s.t (ga who f) with
  |true=>rfl
  |false=>rw[hb] at CA;cases CA
 unfold ld at hip;simp only[aR,aZ,Bool.not_eq_true',decide_eq_false_iff_not] at hip;obtain⟨⟨p1,p2⟩,⟨p3,p4⟩,p5,p6,p7,p8,p9,uz,p11,p12,p13,p14⟩:=hip;have zc:=qR2 s.m (ga who f);have RG:=aaM s.ids f.2.1;have hlen:=zc.length_eq;have qg:=RG.length_eq;rw[List.length_cons] at hlen qg;have bZ:yN s.B.1.length (ga who f):=⟨p1,by omega,p3,by omega,p9,p6,p7,p8,uz⟩;have gx:∀x,x∈s.ids→x∈qu s.ids f.2.1:=fun x hx=>RG.symm.subset (List.mem_cons_of_mem _ hx)
 have MR:qL (ga who f::s.m):=List.pairwise_cons.2 ⟨fun q hq e=>O8 (by have:=hw.were q hq;rw[←e] at this;exact this),hw.dist⟩;refine⟨MR.perm zc,by omega,yAo hw.sort _,fun q hq=>?_,fun q hq=>?_,fun q hq=>?_,vVt hw.asc O8,fun x hx=>?_,by omega⟩
 ·rcases List.mem_cons.1 (zc.subset hq) with rfl|py
  ·exact bZ
  ·exact hw.may q py
 ·rcases List.mem_cons.1 (zc.subset hq) with rfl|py
  ·exact⟨p11,p12,p14⟩
  ·exact hw.time q py
 ·rcases List.mem_cons.1 (zc.subset hq) with rfl|py
  ·exact RG.symm.subset (List.mem_cons_self ..)
  ·exact gx _ (hw.were q py)
 ·rcases List.mem_cons.1 (RG.subset hx) with rfl|pT
  ·exact p5
  ·exact hw.pos x pT
theorem vWo {r s}(h:yF r s){who f}(h0:(lf r s who f).1=0):la s.B.1.length (lf r s who f).2.1 s.ids:=by
 have hw:=h.waits;unfold lf at h0⊢;cases hx:vU s.m f.2.1 with
 |none=>omega
 |some x=>
 rw[hx] at h0;have du:=(kW hx).1;have dp:s.m.getD x pd∈s.m:=by grind
 have hm:=hw.may _ dp;have ht:=hw.time _ dp;simp only at h0⊢;cases hc:decide ((s.m.getD x pd).2.1=who) with
 |false=>simp_all
 |true=>
 cases dq:decide (f.1=2) with
 |true=>exact hw.sub (uQ _ _)
 |false=>
 cases dM:decide (f.1=4) with
 |true=>
  cases gV:decide (f.2.2.1≥1)&&decide (f.2.2.1≤3) with
  |false=>simp_all
  |true=>
  cases nf:decide (rf r.2.2.1 r.2.2.2.1 s.t f.2.2.1=0) with
  |false=>simp_all
  |true=>
  simp  at gV;obtain⟨m1,m2,m3,m4,m5,m6,m7,m8,m9⟩:=hm;exact hw.turn du (qR2 _ _) (yAo (hw.sort.cut x) _) rfl ⟨m1,m2,m3,m4,m5,m6,m7,gV.1,gV.2⟩ ht
 |false=>
  cases gV:decide (f.2.2.1=0) with
  |true=>exact hw.turn du (aaL _ _) (aaK (hw.sort.cut x) _) rfl hm ht
  |false=>
   cases nf:decide (f.2.2.1=1) with
   |true=>exact hw.turn du (qR2 _ _) (yAo (hw.sort.cut x) _) rfl hm ht
   |false=>simp_all
theorem vHl {n}(h:-1≤n∧n≤1152921504606846976):wY n=true:=by
 unfold wY;grind
theorem tn {a}:fI a=true↔(-4611686018427387904<a.1∧a.1<4611686018427387904)∧(0≤a.2.1∧a.2.1≤2305843009213693952)∧(0≤a.2.2∧a.2.2≤2305843009213693952):=by
 unfold fI;grind
theorem wW.setBil {a}{b:jL}{m}{p:jL}(h:wW a b m p){w i}(hw:w<a.length)(hi:i<a.length){n}(hn:-1≤n∧n≤1152921504606846976):wW a (b.set w ((b.getD w []).set i n)) m p:=
  { h with
    bl:=by rw[List.length_set];exact h.bl
    br:=fun j hj=>by
      rw[fG];split
      · rw[List.length_set];exact h.br w hw
      · exact h.br j hj
    bil:=fun j hj k hk=>by
      unfold cell;rw[fG];split
      · rw[fG];split
        · exact vHl hn
        · exact h.bil w hw k hk
      · exact h.bil j hj k hk}
theorem wW.setMul {a}{b:jL}{m}{p:jL}(h:wW a b m p) w {n}(hn:-1≤n∧n≤1152921504606846976):wW a b (m.set w n) p:=
  { h with
    ml:=by rw[List.length_set];exact h.ml
    mul:=fun j hj=>by
      rw[fG];split
      · exact vHl hn
      · exact h.mul j hj}
theorem wW.setAcct {a}{b:jL}{m}{p:jL}(h:wW a b m p){a'}(hl:a'.length=a.length)(ha:∀i,i<a.length→fI (a'.getD i ad)=true):wW a' b m p where
 n1:=by rw[hl];exact h.n1
 n6:=by rw[hl];exact h.n6
 bl:=by rw[hl];exact h.bl
 br:=by rw[hl];exact h.br
 ml:=by rw[hl];exact h.ml
 pl:=by rw[hl];exact h.pl
 pr:=by rw[hl];exact h.pr
 mul:=by rw[hl];exact h.mul
 bil:=by rw[hl];exact h.bil
 acct:=by simp_all
 net:=by rw[hl];exact h.net
 turn:=by rw[hl];exact h.turn
theorem aaO {n g i}(hi:i<n) d:qI (fun j=>if j=i then g j+d else g j) n=qI g n+d:=by
 have e:qI (fun j=>if j=i then g j+d else g j) n=qI (fun j=>g j+(if j=i then d else 0)) n:=by grind
 rw[e,EU,BO,if_pos hi]
theorem yF.books {r s}(h:yF r s){B}(hb:qS B)(hl:B.1.length=s.B.1.length)(qq:∀i,i<s.B.1.length→(B.1.getD i ad).1=(s.B.1.getD i ad).1)(hc:∀i,i<s.B.1.length→(B.1.getD i ad).2.1=(s.B.1.getD i ad).2.1):yF r {s with B:=B} where
 tk:=h.tk
 bk:=hb
 n:=by rw[hl];exact h.n
 hol:=by rw[hl];exact h.hol
 laid:=by rw[hl];exact h.laid
 cred:=by rw[hl];intro i hi;rw[hc i hi];exact h.cred i hi
 most:=by rw[hl];intro i hi;rw[hc i hi];exact h.most i hi
 waits:=by rw[hl];exact h.waits
 sum:=by rw[hl,sN qq];exact h.sum
 tot:=h.tot
 over:=h.over
 none:=h.none
theorem yF.queue {r s}(h:yF r s)(ho:s.ov=false){m ids}(hw:la s.B.1.length m ids):yF r {s with m:=m,ids:=ids} where
 tk:=h.tk
 bk:=h.bk
 n:=h.n
 hol:=h.hol
 laid:=h.laid
 cred:=h.cred
 most:=h.most
 waits:=hw
 sum:=h.sum
 tot:=h.tot
 over:=h.over
 none:=by grind
theorem vZd {r:qQ}{s:qH}(h:yF r s){who:Int}(hw:0≤who∧who<r.1){f:jH}(h0:(lg r s who f).1=0):yF r (lg r s who f).2:=by
 have hn:=h.n;have hb:wW s.B.1 s.B.2.1 s.B.2.2.1 s.B.2.2.2:=h.bk;obtain⟨w,rfl⟩:=Int.eq_ofNat_of_zero_le hw.1;have gE:w<s.B.1.length:=by omega
 unfold lg at h0⊢;cases hc:decide (f.1=5) with
 |true=>
  rw[hc] at h0;simp only[ai] at h0⊢;cases dq:decide (f.2.1≥0)&&decide (f.2.1≤r.1-1) with
  |false=>rw[dq] at h0;cases h0
  |true=>
  cases dM:decide (f.2.1=(w:Int)) with
  |true=>rw[dq,dM] at h0;cases h0
  |false=>
  cases gV:decide (f.2.2.1≥-1)&&decide (f.2.2.1≤1152921504606846976) with
  |false=>rw[dq,dM,gV] at h0;cases h0
  |true=>
  simp only[aR,aZ] at dq gV;exact h.books (B:=(s.B.1,s.B.2.1.set w ((s.B.2.1.getD w []).set f.2.1.toNat f.2.2.1),s.B.2.2.1,s.B.2.2.2)) (hb.setBil gE (by omega) (by grind)) rfl (by simp) (by simp)
 |false=>
  rw[hc] at h0;simp only[ak] at h0⊢;cases dq:decide (f.1=6) with
  |true=>
   rw[dq] at h0;simp only[ai] at h0⊢;cases dM:decide (f.2.1≥-1)&&decide (f.2.1≤1152921504606846976) with
   |false=>rw[dM] at h0;cases h0
   |true=>
   simp only[aR,aZ] at dM;exact h.books (B:=(s.B.1,s.B.2.1,s.B.2.2.1.set w f.2.1,s.B.2.2.2)) (hb.setMul w (by grind)) rfl (fun _ _=>rfl) (by simp)
  |false=>
   rw[dq] at h0;simp only[ak] at h0⊢;cases dM:decide (f.2.1≥0)&&decide (f.2.1≤1152921504606846976) with
   |false=>rw[dM] at h0;cases h0
   |true=>
   have hg:∀i,(s.B.1.set w ((s.B.1.getD w ad).1,(s.B.1.getD w ad).2.1,f.2.1)).getD i ad=if i=w then((s.B.1.getD w ad).1,(s.B.1.getD w ad).2.1,f.2.1) else s.B.1.getD i ad:=by grind
   refine h.books (B:=(s.B.1.set w ((s.B.1.getD w ad).1,(s.B.1.getD w ad).2.1,f.2.1),s.B.2.1,s.B.2.2.1,s.B.2.2.2)) (hb.setAcct (by rw[List.length_set]) fun i hi=>?_) (by simp) (fun i hi=>?_) (fun i hi=>?_)
   ·rw[hg];split
    ·have:=tn.1 (hb.acct w gE);rw[tn];grind
    ·exact hb.acct i hi
   all_goals grind
theorem aaP {r}(hr:wT r){s}(h:yF r s){who}(hw:0≤who∧who<r.1){a many}(h0:(lh r s who a many).1=0):yF r (lh r s who a many).2:=by
  have hn:=h.n;have hb:wW s.B.1 s.B.2.1 s.B.2.2.1 s.B.2.2.2:=h.bk;obtain⟨w,rfl⟩:=Int.eq_ofNat_of_zero_le hw.1;have gE:w<s.B.1.length:=by omega
  have hol:=h.hol;unfold lh at h0⊢;simp only[ao] at h0⊢;cases hc:decide (a≥0)&&decide (a≤(r.2.1.length:Int)-1) with
  |false=>simp_all
  |true=>
  cases dq:decide (many≥0)&&decide (many≤1099511627776) with
  |false=>simp_all
  |true=>
  rw[hc,dq] at h0;simp only[aB,ak] at h0⊢;simp  at hc dq;have L2:=(h.laid w gE).set (i:=a.toNat) (by omega) (v:=many) (by grind);have Bg:=GB L2;obtain⟨n,bx⟩:∃n,n=gD r.2.1 s.pr ((s.ho.getD w []).set a.toNat many):=by simp
  rw[←bx] at h0 Bg⊢;unfold He at h0⊢;cases dM:decide (n>1152921504606846976) with
  |true=>simp_all
  |false=>
  cases gV:decide (n<(s.B.1.getD w ad).2.1)&&decide ((s.B.1.getD w ad).1+n<0) with
  |true=>simp_all
  |false=>
  have dM:=gW dM;have hg:∀i,(s.B.1.set w ((s.B.1.getD w ad).1,n,(s.B.1.getD w ad).2.2)).getD i ad=if i=w then((s.B.1.getD w ad).1,n,(s.B.1.getD w ad).2.2) else s.B.1.getD i ad:=by grind
  have hgh:∀i,(s.ho.set w ((s.ho.getD w []).set a.toNat many)).getD i []=if i=w then(s.ho.getD w []).set a.toNat many else s.ho.getD i []:=by grind
  simp only[ak];have gH:(s.B.1.set w ((s.B.1.getD w ad).1,n,(s.B.1.getD w ad).2.2)).length=s.B.1.length:=by simp
  exact{
    tk:=h.tk
    bk:=hb.setAcct gH fun i hi=>by
      rw[hg];split
      · have:=tn.1 (hb.acct w gE);rw[tn];grind
      · exact hb.acct i hi
    n:=by simp_all
    hol:=by simp_all
    laid:=by
      rw[gH];intro i hi;rw[hgh];split
      · exact L2
      · exact h.laid i hi
    cred:=by
      rw[gH];intro i hi;rw[hg,hgh];split
      · exact bx
      · exact h.cred i hi
    most:=by
      rw[gH];intro i hi;rw[hg];split
      · show n≤_;omega
      · exact h.most i hi
    waits:=by rw[gH];exact h.waits
    sum:=by
      rw[gH,sN (h:=fun i=>(s.B.1.getD i ad).1) (by grind)];exact h.sum
    tot:=h.tot
    over:=h.over
    none:=h.none}
theorem vFn {r s}(h:yF r s){i}(hi:i<s.B.1.length){n}(hz:(jW (s.B.1.getD i ad) n).2=0)(ht:0≤s.to+n∧s.to+n≤1152921504606846976):
    yF r (RE s i (jW (s.B.1.getD i ad) n).1 (s.to+n)):=by
  have hb:wW s.B.1 s.B.2.1 s.B.2.2.1 s.B.2.2.2:=h.bk;unfold jW at hz⊢;cases hc:fI ((s.B.1.getD i ad).1+n,(s.B.1.getD i ad).2.1,(s.B.1.getD i ad).2.2) with
  |false=>simp_all
  |true=>
  simp only[ai];have hg:∀j,(s.B.1.set i ((s.B.1.getD i ad).1+n,(s.B.1.getD i ad).2.1,(s.B.1.getD i ad).2.2)).getD j ad=if j=i then((s.B.1.getD i ad).1+n,(s.B.1.getD i ad).2.1,(s.B.1.getD i ad).2.2) else s.B.1.getD j ad:=by grind
  have gH:(s.B.1.set i ((s.B.1.getD i ad).1+n,(s.B.1.getD i ad).2.1,(s.B.1.getD i ad).2.2)).length=s.B.1.length:=by simp
  unfold RE;exact{
    tk:=h.tk
    bk:=hb.setAcct gH fun j hj=>by
      rw[hg];split
      · exact hc
      · exact hb.acct j hj
    n:=by rw[gH];exact h.n
    hol:=by rw[gH];exact h.hol
    laid:=by rw[gH];exact h.laid
    cred:=by
      rw[gH];intro j hj;rw[hg];split
      · rename_i e;rw[e];exact h.cred i hi
      · exact h.cred j hj
    most:=by
      rw[gH];intro j hj;rw[hg];split
      · exact h.most i hi
      · exact h.most j hj
    waits:=by rw[gH];exact h.waits
    sum:=by
      rw[gH,sN (h:=fun j=>if j=i then(s.B.1.getD j ad).1+n else(s.B.1.getD j ad).1) (by grind),aaO hi,h.sum]
    tot:=ht
    over:=h.over
    none:=h.none}
theorem aaQ {r s}(h:yF r s){kd to n}(h0:(lj r s kd to n).1=0):yF r (lj r s kd to n).2∧(lj r s kd to n).2.to=s.to+(if kd=11 then-n else n)∧(lj r s kd to n).2.m=s.m∧(lj r s kd to n).2.ids=s.ids∧(lj r s kd to n).2.t=s.t:=by
 have hn:=h.n;have ht:=h.tot;unfold lj at h0⊢;cases hc:decide (to≥0)&&decide (to≤r.1-1) with
 |false=>rw[hc] at h0;cases h0
 |true=>
 cases dq:decide (n≥1)&&decide (n≤1099511627776) with
 |false=>simp_all
 |true=>
 rw[hc,dq] at h0;simp  at hc dq;have hi:to.toNat<s.B.1.length:=by omega
 by_cases hk:kd=11
 ·rw[aa hk] at h0⊢;rw[if_pos hk];unfold MM at h0⊢;cases dM:decide ((s.B.1.getD to.toNat ad).1+(s.B.1.getD to.toNat ad).2.1-(s.B.1.getD to.toNat ad).2.2<n) with
  |true=>rw[dM] at h0;cases h0
  |false=>
  cases gV:decide (s.to-n<0) with
  |true=>simp_all
  |false=>
  cases hz:decide ((jW (s.B.1.getD to.toNat ad) (-n)).2=0) with
  |false=>grind
  |true=>
  cases nf:decide (s.to-n>1152921504606846976) with
  |true=>grind
  |false=>
  have gV:=gW gV;have:=vFn h hi (n:= -n) (by grind) (by omega);exact⟨this,rfl,rfl,rfl,rfl⟩
 ·rw[ab hk] at h0⊢;rw[if_neg hk];unfold MN at h0⊢;cases hz:decide ((jW (s.B.1.getD to.toNat ad) n).2=0) with
  |false=>simp_all
  |true=>
  cases nf:decide (s.to+n>1152921504606846976) with
  |true=>simp_all
  |false=>
  have nf:=gW nf;exact⟨vFn h hi (by grind) (by omega),rfl,rfl,rfl,rfl⟩
theorem vNl {r s}(h:yF r s){a p}(h0:(lk r s a p).1=0):yF r (lk r s a p).2:=by
  have hb:wW s.B.1 s.B.2.1 s.B.2.2.1 s.B.2.2.2:=h.bk;unfold lk at h0⊢;cases hc:decide (a≥0)&&decide (a≤(r.2.1.length:Int)-1) with
  |false=>simp_all
  |true=>
  cases dq:decide (p≥0)&&decide (p≤1048576) with
  |false=>simp_all
  |true=>
  simp  at hc dq;have hL:∀i,i<s.B.1.length→ki r.2.1 (s.pr.set a.toNat p) (s.ho.getD i []):=fun i hi=>(h.laid i hi).setP (by omega) (by grind)
  generalize s.pr.set a.toNat p=pr at*
  unfold HH at h0⊢;cases dM:qB (fun j=> !decide (gG r.2.1 pr s.ho j>1152921504606846976)) s.B.1.length 0 with
  |false=>simp_all
  |true=>
  simp;have hle:∀i,i<s.B.1.length→gG r.2.1 pr s.ho i≤1152921504606846976:=fun i hi=>by
    have:=wI.1 dM i hi;simp_all
  have gH:=qXx r.2.1 pr s.ho s.B.1;have hg:=fun(j:Nat) (hj:j<s.B.1.length)=>qMh r.2.1 pr s.ho s.B.1 hj
  exact{
    tk:=h.tk
    bk:=hb.setAcct gH fun i hi=>by
      rw[hg i hi];have:=tn.1 (hb.acct i hi);have h1:=GB (hL i hi);rw[tn];exact⟨this.1,⟨h1,by grind⟩,this.2.2⟩
    n:=by rw[gH];exact h.n
    hol:=by rw[gH];exact h.hol
    laid:=by simp_all
    cred:=by
      rw[gH];intro i hi;rw[hg i hi];rfl
    most:=by
      simp_all
    waits:=by rw[gH];exact h.waits
    sum:=by
      rw[gH,sN (h:=fun i=>(s.B.1.getD i ad).1) (by grind)];exact h.sum
    tot:=h.tot
    over:=h.over
    none:=h.none}
abbrev MT:=Int×List om×Int×Int×Int×Int×List yA×jL×AC×jL×AC×jL×List zI×AC×Int×Bool×Int×Int
abbrev MOT:=Int×List om×Int×Int×Int×Int×List yA×jL×AC×jL×AC×jL×List zI×AC×Int×Bool×Int×List yJ×Int
def rk (r:qQ)(s:qH)(who:Int):MT:=(r.1,r.2.1,r.2.2.1,r.2.2.2.1,r.2.2.2.2,s.t,s.B.1,s.B.2.1,s.B.2.2.1,s.B.2.2.2,s.pr,s.ho,s.m,s.ids,s.to,s.ov,who,0)
def qM (r:qQ)(s:qH)(who:Int)(l:List yJ)(paid:Int):MOT:=(r.1,r.2.1,r.2.2.1,r.2.2.2.1,r.2.2.2.2,s.t,s.B.1,s.B.2.1,s.B.2.2.1,s.B.2.2.2,s.pr,s.ho,s.m,s.ids,s.to,s.ov,who,l,paid)
def HJ (pa n:Int):Int:=bif decide (n<0) then-1 else bif decide (n≥pa) then-1 else n
theorem qV9 k r s who l p n:vn k (qM r s who l p) n=some (HJ r.1 n):=by
 unfold vn HJ;have e:(qM r s who l p).1=r.1:=rfl;grind
theorem qRk {pa n}(h:0≤n∧n<pa):HJ pa n=n:=by
 unfold HJ;grind
theorem qUr {pa n}(h:¬(0≤n∧n<pa)):HJ pa n= -1:=by
 unfold HJ;grind
theorem vCf k (r:qQ) t c:HK k r t c=some (rf r.2.2.1 r.2.2.2.1 t c):=by
 unfold HK rf;grind
theorem vG2 k (r:qQ) t (p:zI):CB k r t p=some (nx r t p):=by
 unfold CB nx;rw[vCf];simp only[ae];have no:¬(p.2.1≥0∧p.2.1<r.1∧p.2.2.1≥0∧p.2.2.1<r.1∧p.1≥1∧p.2.2.2.1≥1∧p.2.2.2.1≤1099511627776∧p.2.2.2.2.1≥1∧¬p.2.1=p.2.2.1∧p.2.2.2.2.1≤3∧p.2.2.2.2.2.1≥0∧p.2.2.2.2.2.1≤p.2.2.2.2.2.2∧p.2.2.2.2.2.2≥t∧p.2.2.2.2.2.2≤1048576)→ld r.1 t p=false:=by
  intro h;cases e:ld r.1 t p with
  |false=>rfl
  |true=>
   unfold ld at e;grind
 by_cases c1:p.1<1
 ·rw[aa c1,no (fun⟨_,_,_,_,h,_⟩=>by omega)];rfl
 by_cases c2:p.2.1<0
 ·rw[ab c1,aa c2,no (fun⟨h,_⟩=>by omega)];rfl
 by_cases c3:p.2.1≥r.1
 ·rw[ab c1,ab c2,aa c3,no (fun⟨_,h,_⟩=>by omega)];rfl
 by_cases c4:p.2.2.1<0
 ·rw[ab c1,ab c2,ab c3,aa c4,no (fun⟨_,_,h,_⟩=>by omega)];rfl
 by_cases c5:p.2.2.1≥r.1
 ·rw[ab c1,ab c2,ab c3,ab c4,aa c5,no (fun⟨_,_,_,h,_⟩=>by omega)];rfl
 rw[ab c1,ab c2,ab c3,ab c4,ab c5];simp only[ak];by_cases c6:p.2.1=p.2.2.1
 ·rw[aa c6,no (fun⟨_,_,_,_,_,_,_,_,h,_⟩=>h c6)];rfl
 by_cases c7:p.2.2.2.1<1
 ·rw[ab c6,aa c7,no (fun⟨_,_,_,_,_,h,_⟩=>by omega)];rfl
 by_cases c8:p.2.2.2.1>1099511627776
 ·rw[ab c6,ab c7,aa c8,no (fun⟨_,_,_,_,_,_,h,_⟩=>by omega)];rfl
 by_cases c9:p.2.2.2.2.1<1
 ·rw[ab c6,ab c7,ab c8,aa c9,no (fun⟨_,_,_,_,_,_,_,h,_⟩=>by omega)];rfl
 by_cases QM:p.2.2.2.2.1>3
 ·rw[ab c6,ab c7,ab c8,ab c9,aa QM,no (by grind)];rfl
 rw[ab c6,ab c7,ab c8,ab c9,ab QM];simp only[ak];by_cases B8:p.2.2.2.2.2.1<0
 ·rw[aa B8,no (by grind)];rfl
 by_cases RH:p.2.2.2.2.2.1>p.2.2.2.2.2.2
 ·rw[ab B8,aa RH,no (by grind)];rfl
 by_cases c13:p.2.2.2.2.2.2<t
 ·rw[ab B8,ab RH,aa c13,no (by grind)];rfl
 by_cases c14:p.2.2.2.2.2.2>1048576
 ·rw[ab B8,ab RH,ab c13,aa c14,no (by grind)];rfl
 rw[ab B8,ab RH,ab c13,ab c14];have e:ld r.1 t p=true:=by
  unfold ld;simp_all
 rw[e];rfl
def CC (k:Nat)(r:qQ)(s:qH)(who:Int)(p:zI):Option (Int×MOT):=
 (CB k r s.t p).bind fun x1=>
 bif !(decide (x1=0)) then some (x1,qM r s who [] 0)
 else(Cy k s.ids p.1).bind fun x2=>
 bif !(decide (x2.2=0)) then some (x2.2,qM r s who [] 0)
 else(Cw k s.m p.1 p.2.1 p.2.2.1 p.2.2.2.1 p.2.2.2.2.1 p.2.2.2.2.2.1 p.2.2.2.2.2.2).bind fun x3=>
 bif !(decide (x3.2=0)) then some (x3.2,qM r s who [] 0)
 else some (0,qM r {s with m:=x3.1,ids:=x2.1} who [] p.1)
theorem vKx {k}(hk:9999≤k){r}(hr:wT r){s}(h:la s.B.1.length s.m s.ids) who f:
  ∃d,RI k (rk r s who) f.2=some ((iZ r s who f).1,d)∧((iZ r s who f).1=0→d=qM r {s with m:=(iZ r s who f).2.1,ids:=(iZ r s who f).2.2} who [] f.2.1):=by
 have hp:=hr.pa;have hi:=h.idl;have hm:=h.len;have eD:RI k (rk r s who) f.2=(vn k (qM r s who [] 0) f.2.2.1).bind fun x0=>
  bif decide (f.2.2.2.2.1 ≥ 1) then (bif decide (f.2.2.2.2.1≤3) then CC k r s who (f.2.1,who,x0,f.2.2.2)
   else CC k r s who (f.2.1,who,x0,f.2.2.2.1,0,f.2.2.2.2.2))
  else CC k r s who (f.2.1,who,x0,f.2.2.2.1,0,f.2.2.2.2.2):=rfl
 have bad:∀p:zI,ld r.1 s.t p=false→CC k r s who p=some (1,qM r s who [] 0):=by
  intro p hp;unfold CC;rw[vG2];unfold nx;rw[hp];rfl
 have ahL:∀p:zI,¬(p.2.2.1≥0∧p.2.2.2.2.1≥1)→ld r.1 s.t p=false:=by
  intro p hn;cases e:ld r.1 s.t p with
  |false=>rfl
  |true=>
   unfold ld at e;simp  at e;obtain⟨_,⟨a3,_⟩,_,_,_,a8,_⟩:=e;exact absurd ⟨a3,a8⟩ hn
 rw[eD,qV9];simp only[ae];unfold iZ;by_cases hto:0≤f.2.2.1∧f.2.2.1<r.1
 ·rw[qRk hto,aa (show f.2.2.1≥0 by omega),aa (show f.2.2.1≤r.1-1 by omega)];by_cases hc:f.2.2.2.2.1≥1∧f.2.2.2.2.1≤3
  ·rw[aa hc.1,aa hc.2];simp only[Bool.and_self,aB,ak,ai];have ep:((f.2.1,who,f.2.2.1,f.2.2.2):zI)=ga who f:=rfl;rw[ep];unfold CC;rw[vG2];simp only[ae];by_cases hz:nx r s.t (ga who f)=0
   ·rw[aa hz];have e1:(ga who f).1=f.2.1:=rfl;simp only[aB,ak];rw[e1,vTy (by omega) (by omega)];simp only[ae];by_cases h1:f.2.1∈s.ids
    ·rw[aa h1];exact⟨_,rfl,fun e=>by cases e⟩
    ·rw[ab h1];by_cases h2:200≤s.ids.length
     ·rw[aa h2];exact⟨_,rfl,fun e=>by cases e⟩
     ·rw[ab h2];have e3:=vYe (k:=k) (l:=s.m) (by omega) (by omega) (ga who f);rw[e1] at e3;simp only[ak,decide_true,aB];rw[e3];simp only[ae];cases(vU s.m f.2.1).isSome with
      |true=>exact⟨_,rfl,fun e=>by cases e⟩
      |false=>
       by_cases h3:40≤s.m.length
       ·rw[aa h3];exact⟨_,rfl,fun e=>by cases e⟩
       ·rw[ab h3];exact⟨_,rfl,fun _=>rfl⟩
   ·rw[ab hz];exact⟨_,rfl,fun e=>absurd e hz⟩
  ·have e0:=bad (f.2.1,who,f.2.2.1,f.2.2.2.1,0,f.2.2.2.2.2) (by grind);rw[e0];have g:(!(decide (f.2.2.2.2.1≥1)&&decide (f.2.2.2.2.1≤3)))=true:=by
    by_cases a:f.2.2.2.2.1≥1
    ·rw[aa a,ab (fun b=>hc ⟨a,b⟩)];rfl
    ·rw[ab a];rfl
   rw[g];refine⟨qM r s who [] 0,?_,fun e=>by cases e⟩;by_cases a:f.2.2.2.2.1≥1
   ·rw[aa a,ab (fun b=>hc ⟨a,b⟩)];rfl
   ·rw[ab a];rfl
 ·have g:(!(decide (f.2.2.1≥0)&&decide (f.2.2.1≤r.1-1)))=true:=by
   by_cases a:f.2.2.1≥0
   ·rw[aa a,ab (show¬f.2.2.1≤r.1-1 by omega)];rfl
   ·rw[ab a];rfl
  have q:∀x:Int×Int×Int×Int,CC k r s who (f.2.1,who,-1,x)=some (1,qM r s who [] 0):=by grind
  rw[g,qUr hto,q,q];refine⟨qM r s who [] 0,?_,fun e=>by cases e⟩;cases decide (f.2.2.2.2.1≥1)<;>cases decide (f.2.2.2.2.1≤3)<;>rfl
theorem vVv {k}(hk:9999≤k){r s}(h:la s.B.1.length s.m s.ids) who f (hf:f.1=2∨f.1=3∨f.1=4):
    ∃d,CD k (rk r s who) f.1 f.2=some ((lf r s who f).1,d)∧((lf r s who f).1=0→d=qM r {s with m:=(lf r s who f).2.1} who (lf r s who f).2.2 0):=by
  have hm:=h.len;have oX:qW s.m:=by unfold qW;omega
  have eD : CD k (rk r s who) f.1 f.2 = ((mA k s.m f.2.1).bind fun x0=>
      bif decide (x0<0) then some (((0,0,0,0,0,0,0):zI),false)
      else bif zB x0 s.m.length then (bif !(decide ((s.m.getD x0.toNat (0,0,0,0,0,0,0)).2.1=who)) then some ((0,0,0,0,0,0,0),false)
        else bif zB x0 s.m.length then some ((s.m.getD x0.toNat (0,0,0,0,0,0,0)),true)
        else none)
      else none).bind fun x0=>
    bif !x0.2 then some (4,qM r s who [] 0)
    else bif decide (f.1 = 2) then ((ow k s.m f.2.1).bind fun x1=>
      (eQ k 20 [f.2.1]).bind fun x2=>
      some (0,qM r {s with m:=x1.1} who [(who,x2)] 0))
    else bif decide (f.1 = 3) then (bif decide (f.2.2.1 = 0) then ((MI k s.m f.2.1).bind fun x3=>
       some (0,qM r {s with m:=x3.1} who [] 0))
      else bif decide (f.2.2.1 = 1) then ((MH k s.m f.2.1).bind fun x4=>
       some (0,qM r {s with m:=x4.1} who [] 0))
      else some (1,qM r s who [] 0))
    else bif decide (f.2.2.1<1) then some (1,qM r s who [] 0)
    else bif decide (f.2.2.1>3) then some (1,qM r s who [] 0)
    else(HK k r s.t f.2.2.1).bind fun x5=>
    bif !(decide (x5=0)) then some (x5,qM r s who [] 0)
    else(MG k s.m f.2.1 f.2.2.1).bind fun x6=>
    some (0,qM r {s with m:=x6.1} who [] 0):=rfl
  rw[eD,LN (by omega) (by omega)];unfold lf fk;cases hx:vU s.m f.2.1 with
  |none=>exact by simp
  |some x=>
    have du:=kW hx;have e1:decide ((x:Int)<0)=false:=ab;simp only[ae,e1,ak,qA,aa du.1,ai,ao];by_cases hw:(s.m.getD x (0,0,0,0,0,0,0)).2.1=who
    · have xy:(s.m.getD x pd).2.1=who:=hw;rw[aa hw];simp only[aB,ak,ae];by_cases h2:f.1=2
      · rw[aa h2];obtain⟨n,rfl⟩:∃n,k=n+5:=⟨k-5,by omega⟩;have eo:eQ (n+5) 20 [f.2.1]=some (20,f.2.1,0,0,0,0,0):=by kernel_rfl
        simp only[ai,vk (show s.m.length<n+5 by omega) oX,ae,eo];unfold iD;rw[hx];exact⟨_,rfl,fun _=>rfl⟩
      · rw[ab h2];simp only[ak];by_cases h3:f.1=3
        · rw[aa h3,ab (show¬f.1=4 by omega)];simp only[ai,ak];by_cases h0:f.2.2.1=0
          · rw[aa h0];simp only[ai,vUv (show s.m.length<k by omega) oX hx,ae];exact⟨_,rfl,fun _=>rfl⟩
          · rw[ab h0];simp only[ak];by_cases h1:f.2.2.1=1
            · rw[aa h1];simp only[ai,aaF (show s.m.length<k by omega) oX hx,ae];exact⟨_,rfl,fun _=>rfl⟩
            · rw[ab h1];exact by simp
        · rw[ab h3,aa (show f.1=4 by omega)];simp only[ak,ai,vCf,ae,vVn (show s.m.length<k by omega) oX hx];by_cases c1:f.2.2.1<1
          · rw[aa c1,ab (show¬f.2.2.1≥1 by omega)];exact⟨_,rfl,fun e=>by cases e⟩
          · rw[ab c1,aa (show f.2.2.1≥1 by omega)];by_cases c2:f.2.2.1>3
            · rw[aa c2,ab (show¬f.2.2.1≤3 by omega)];exact⟨_,rfl,fun e=>by cases e⟩
            · rw[ab c2,aa (show f.2.2.1≤3 by omega)];simp only[Bool.and_self,aB,ak];by_cases hc:rf r.2.2.1 r.2.2.2.1 s.t f.2.2.1=0
              · rw[aa hc];exact⟨_,rfl,fun _=>rfl⟩
              · rw[ab hc];exact by simp
    · rw[ab hw];exact⟨_,rfl,fun e=>by cases e⟩
theorem aaR {k}(hk:9999≤k){r}(hr:wT r){s}(hb:qS s.B)(hn:(s.B.1.length:Int)=r.1){who}(hw:0≤who∧who<r.1) f:
    ∃d,CE k (rk r s who) f.1 f.2=some ((lg r s who f).1,d)∧((lg r s who f).1=0→d=qM r (lg r s who f).2 who [] 0):=by
  obtain⟨w,rfl⟩:=Int.eq_ofNat_of_zero_le hw.1;have gE:w<s.B.1.length:=by omega
  have eD:CE k (rk r s w) f.1 f.2=(pt k s.B.1 s.B.2.1 s.B.2.2.1 s.B.2.2.2).bind fun x0=>
    bif decide (f.1 = 5) then ((vn k (qM r s w [] 0) f.2.1).bind fun x1=>
      bif decide (x1<0) then some (1,qM r s w [] 0)
      else bif decide (x1=(w:Int)) then some (1,qM r s w [] 0)
      else bif decide (f.2.2.1<(-1)) then some (1,qM r s w [] 0)
      else bif decide (f.2.2.1>1152921504606846976) then some (1,qM r s w [] 0)
      else bif zB (w : Int) x0.2.1.length then (bif zB x1 (x0.2.1.getD (w:Int).toNat []).length then
        some (0,qM r {s with B:=(x0.1,(x0.2.1.set (w:Int).toNat ((x0.2.1.getD (w:Int).toNat []).set x1.toNat f.2.2.1)),x0.2.2.1,x0.2.2.2)} w [] 0)
       else none)
      else none)
    else bif decide (f.1 = 6) then (bif decide (f.2.1<(-1)) then some (1,qM r s w [] 0)
      else bif decide (f.2.1>1152921504606846976) then some (1,qM r s w [] 0)
      else bif zB (w:Int) x0.2.2.1.length then some (0,qM r {s with B:=(x0.1,x0.2.1,(x0.2.2.1.set (w:Int).toNat f.2.1),x0.2.2.2)} w [] 0)
      else none)
    else bif decide (f.2.1<0) then some (1,qM r s w [] 0)
    else bif decide (f.2.1>1152921504606846976) then some (1,qM r s w [] 0)
    else bif zB (w:Int) x0.1.length then some (0,qM r {s with B:=((x0.1.set (w:Int).toNat ((x0.1.getD (w:Int).toNat (0,0,0)).1,(x0.1.getD (w:Int).toNat (0,0,0)).2.1,f.2.1)),x0.2.1,x0.2.2.1,x0.2.2.2)} w [] 0)
    else none:=rfl
  rw[eD,Lb (by omega) hb.toSized,qV9];simp only[ae,qA,ao];have two:∀a b:Int,∀x:Int,decide (x<a)= !decide (x≥a)∧decide (x>b)= !decide (x≤b):=by
    intro a b x;constructor
    · by_cases h:x<a
      · rw[aa h,ab (show¬x≥a by omega)];rfl
      · rw[ab h,aa (show x≥a by omega)];rfl
    · by_cases h:x>b
      · rw[aa h,ab (show¬x≤b by omega)];rfl
      · rw[ab h,aa (show x≤b by omega)];rfl
  unfold lg;rw[ao,(two (-1) 1152921504606846976 f.2.2.1).1,(two (-1) 1152921504606846976 f.2.2.1).2,(two (-1) 1152921504606846976 f.2.1).1,(two (-1) 1152921504606846976 f.2.1).2,(two 0 0 f.2.1).1];by_cases h5:f.1=5
  · rw[aa h5];simp only[ai];by_cases hc:0≤f.2.1∧f.2.1<r.1
    · rw[qRk hc,aa (show f.2.1≥0 by omega),aa (show f.2.1≤r.1-1 by omega),ab (show¬f.2.1<0 by omega)];have b1:decide (w<s.B.2.1.length)=true:=aa (by rw[hb.bl];exact gE);have b2:zB f.2.1 (s.B.2.1.getD w []).length=true:=jB hc.1 (by rw[hb.br w gE];omega);rw[b1,b2];cases decide (f.2.1=(w:Int)) with
      |true=>exact⟨_,rfl,fun e=>by cases e⟩
      |false=>
        cases decide (f.2.2.1≥-1) with
        |false=>exact⟨_,rfl,fun e=>by cases e⟩
        |true=>
          cases decide (f.2.2.1≤1152921504606846976) with
          |false=>exact⟨_,rfl,fun e=>by cases e⟩
          |true=>exact⟨_,rfl,fun _=>rfl⟩
    · rw[qUr hc];have g:(decide (f.2.1≥0)&&decide (f.2.1≤r.1-1))=false:=by
        by_cases a:f.2.1≥0
        · rw[aa a,ab (show¬f.2.1≤r.1-1 by omega)];rfl
        · rw[ab a];rfl
      rw[g];exact⟨_,rfl,fun e=>by cases e⟩
  · rw[ab h5];by_cases h6:f.1=6
    · rw[aa h6];have b1:decide (w<s.B.2.2.1.length)=true:=aa (by rw[hb.ml];exact gE);rw[b1];cases decide (f.2.1≥-1) with
      |false=>exact⟨_,rfl,fun e=>by cases e⟩
      |true=>
        cases decide (f.2.1≤1152921504606846976) with
        |false=>exact⟨_,rfl,fun e=>by cases e⟩
        |true=>exact⟨_,rfl,fun _=>rfl⟩
    · rw[ab h6];have b1:decide (w<s.B.1.length)=true:=aa gE;rw[b1];cases decide (f.2.1≥0) with
      |false=>exact⟨_,rfl,fun e=>by cases e⟩
      |true=>
        cases decide (f.2.1≤1152921504606846976) with
        |false=>exact⟨_,rfl,fun e=>by cases e⟩
        |true=>exact⟨_,rfl,fun _=>rfl⟩
theorem vC0 {k l}(hl:l.length≤9999){i:Nat}(h1:i<l.length) v:vp k l i v=some (l.set i v):=by
 unfold vp;rw[qG (n:=0+l.length),aa (by simp),aa (by grind),qA,aa h1,ao];rfl
theorem vZf {r}(hr:wT r){s}(h:yF r s){who}(hw:0≤who∧who<r.1) a many:
    ∃d,RJ 9999 (rk r s who) a many=some ((lh r s who a many).1,d)∧((lh r s who a many).1=0→d=qM r (lh r s who a many).2 who [] 0):=by
  have h3:=hr.n3;have hn:=h.n;have hY:=h.bk.n6;have hol:=h.hol;obtain⟨w,rfl⟩:=Int.eq_ofNat_of_zero_le hw.1;have gE:w<s.B.1.length:=by omega
  have eD:RJ 9999 (rk r s w) a many=
    bif decide (a<0) then some (1,qM r s w [] 0)
    else bif decide (a≥(r.2.1.length:Int)) then some (1,qM r s w [] 0)
    else bif decide (many<0) then some (1,qM r s w [] 0)
    else bif decide (many>1099511627776) then some (1,qM r s w [] 0)
    else bif zB (w : Int) s.ho.length then ((vp 9999 (s.ho.getD (w:Int).toNat []) a many).bind fun x0=>
      (zd 9999 r.2.1 s.pr x0).bind fun x1=>
      bif !x1.2 then some (8,qM r s w [] 0)
      else bif decide (x1.1>1152921504606846976) then some (8,qM r s w [] 0)
      else(pt 9999 s.B.1 s.B.2.1 s.B.2.2.1 s.B.2.2.2).bind fun x2=>
      bif zB (w : Int) x2.1.length then (bif decide (x1.1 < (x2.1.getD (w : Int).toNat (0, 0, 0)).2.1) then (bif decide ((zA ((x2.1.getD (w:Int).toNat (0,0,0)).1+x1.1))<0) then some (9,qM r s w [] 0)
         else bif zB (w:Int) x2.1.length then(
          bif zO (0 + s.ho.length) 24 then (bif zB (w:Int) s.ho.length then
           some (0,qM r {s with B:=((x2.1.set (w:Int).toNat ((x2.1.getD (w:Int).toNat (0,0,0)).1,x1.1,(x2.1.getD (w:Int).toNat (0,0,0)).2.2)),x2.2.1,x2.2.2.1,x2.2.2.2),ho:=s.ho.set (w:Int).toNat x0} w [] 0)
           else none)
          else none)
         else none)
        else bif zB (w:Int) x2.1.length then(
         bif zO (0 + s.ho.length) 24 then (bif zB (w:Int) s.ho.length then
           some (0,qM r {s with B:=((x2.1.set (w:Int).toNat ((x2.1.getD (w:Int).toNat (0,0,0)).1,x1.1,(x2.1.getD (w:Int).toNat (0,0,0)).2.2)),x2.2.1,x2.2.2.1,x2.2.2.2),ho:=s.ho.set (w:Int).toNat x0} w [] 0)
          else none)
         else none)
        else none)
      else none)
    else none:=rfl
  rw[eD,Lb (by omega) h.bk.toSized];simp only[ae,qA,ao];unfold lh;simp only[ao];by_cases c1:a<0
  · rw[aa c1,ab (show¬a≥0 by omega)];exact⟨_,rfl,fun e=>by cases e⟩
  rw[ab c1,aa (show a≥0 by omega)];by_cases c2:a≥(r.2.1.length:Int)
  · rw[aa c2,ab (show¬a≤(r.2.1.length:Int)-1 by omega)];exact⟨_,rfl,fun e=>by cases e⟩
  rw[ab c2,aa (show a≤(r.2.1.length:Int)-1 by omega)];by_cases c3:many<0
  · rw[aa c3,ab (show¬many≥0 by omega)];exact⟨_,rfl,fun e=>by cases e⟩
  rw[ab c3,aa (show many≥0 by omega)];by_cases c4:many>1099511627776
  · rw[aa c4,ab (show¬many≤1099511627776 by omega)];exact⟨_,rfl,fun e=>by cases e⟩
  rw[ab c4,aa (show many≤1099511627776 by omega)];obtain⟨i,rfl⟩:=Int.eq_ofNat_of_zero_le (show 0≤a by omega);have hi:i<r.2.1.length:=by omega
  have L:=h.laid w gE;have L2:=L.set hi (v:=many) ⟨by omega,by omega⟩;have b1:decide (w<s.ho.length)=true:=aa;have b2:decide (w<s.B.1.length)=true:=aa gE;have mC:vp 9999 (s.ho.getD w []) (i:Int) many=some ((s.ho.getD w []).set i many):=vC0 (by rw[L.hl];omega) (by rw[L.hl];omega) many;have hv:=yC2 L2;have hb:=h.bk.nums.bal w gE;have Bg:=GB L2;have e24:zO (0+s.ho.length) 24=true:=qG;simp only[Bool.and_self,aB,ak,b1,ai,mC,ae,hv,b2,ao,e24];clear hv L2 eD;generalize gD r.2.1 s.pr ((s.ho.getD w []).set i many)=n at Bg⊢;unfold He;cases h8':decide (n>1152921504606846976) with
  |true=>exact⟨_,rfl,fun e=>by cases e⟩
  |false=>
    have h8:¬n>1152921504606846976:=gW h8';have w2:zA ((s.B.1.getD w (0,0,0)).1+n)=(s.B.1.getD w (0,0,0)).1+n:=zQ (by have:=hb.1;simp only[ad] at this;omega) (by have:=hb.2;simp only[ad] at this;omega);simp only[w2,ak];cases decide (n<(s.B.1.getD w (0,0,0)).2.1) with
    |false=>exact⟨_,rfl,fun _=>rfl⟩
    |true=>
      cases decide ((s.B.1.getD w (0,0,0)).1+n<0) with
      |true=>exact⟨_,rfl,fun e=>by cases e⟩
      |false=>exact⟨_,rfl,fun _=>rfl⟩
theorem In9 {k}{a:yA}(ha:-4611686018427387904<a.1∧a.1<4611686018427387904){n}(hn:1≤n∧n≤1099511627776):HL k a n=some (jW a n):=by
 unfold HL jW Hv;rw[aa (by grind),zQ (x:=9223372036854775807-n),ab (by grind),ab (by grind),zQ (x:=a.1+n)];simp[Yj];grind
theorem vUm {r}(hr:wT r){s}(h:yF r s) who kd to n (PJ:kd=10∨kd=11):
    ∃d,HM 9999 (rk r s who) (decide (kd=10)) to n=some ((lj r s kd to n).1,d)∧((lj r s kd to n).1=0→d=qM r (lj r s kd to n).2 who [] 0):=by
  have hn:=h.n;have ht:=h.tot;have eD:HM 9999 (rk r s who) (decide (kd=10)) to n=(vn 9999 (qM r s who [] 0) to).bind fun x0=>
    bif decide (x0<0) then some (1,qM r s who [] 0)
    else bif decide (n<1) then some (1,qM r s who [] 0)
    else bif decide (n>1099511627776) then some (1,qM r s who [] 0)
    else(pt 9999 s.B.1 s.B.2.1 s.B.2.2.1 s.B.2.2.2).bind fun x1=>
    bif decide (kd = 10) then (bif zB x0 x1.1.length then ((HL 9999 (x1.1.getD x0.toNat (0,0,0)) n).bind fun x2=>
      bif decide ((zA (s.to+n))>1152921504606846976) then some (8,qM r s who [] 0)
      else bif !(decide (x2.2=0)) then some (8,qM r s who [] 0)
      else bif zB x0 x1.1.length then some (0,qM r {s with B:=((x1.1.set x0.toNat x2.1),x1.2.1,x1.2.2.1,x1.2.2.2),to:=zA (s.to+n)} who [] 0)
      else none)
     else none)
    else bif zB x0 x1.1.length then (bif decide ((zA ((zA ((x1.1.getD x0.toNat (0,0,0)).1+(x1.1.getD x0.toNat (0,0,0)).2.1))-(x1.1.getD x0.toNat (0,0,0)).2.2))<n) then some (9,qM r s who [] 0)
     else bif decide (s.to<n) then some (9,qM r s who [] 0)
     else bif zB x0 x1.1.length then
      some (0,qM r {s with B:=((x1.1.set x0.toNat ((zA ((x1.1.getD x0.toNat (0,0,0)).1-n)),(x1.1.getD x0.toNat (0,0,0)).2)),x1.2.1,x1.2.2.1,x1.2.2.2),to:=zA (s.to-n)} who [] 0)
     else none)
    else none:=rfl
  rw[eD,qV9,Lb (by omega) h.bk.toSized];simp only[ae];unfold lj;by_cases hc:0≤to∧to<r.1
  · rw[qRk hc,ab (show¬to<0 by omega),aa (show to≥0 by omega),aa (show to≤r.1-1 by omega)];by_cases c1:n<1
    · rw[aa c1,ab (show¬n≥1 by omega)];exact⟨_,rfl,fun e=>by cases e⟩
    rw[ab c1,aa (show n≥1 by omega)];by_cases c2:n>1099511627776
    · rw[aa c2,ab (show¬n≤1099511627776 by omega)];exact⟨_,rfl,fun e=>by cases e⟩
    rw[ab c2,aa (show n≤1099511627776 by omega)];obtain⟨i,rfl⟩:=Int.eq_ofNat_of_zero_le hc.1;have hi:i<s.B.1.length:=by omega
    have hb:=h.bk.nums.bal i hi;have kN:=h.bk.nums.res i hi;have hcr:=h.most i hi;have aaI:0≤(s.B.1.getD i ad).2.1:=by rw[h.cred i hi];exact GB (h.laid i hi)
    have aaS:=tn.1 (h.bk.acct i hi);have b0:zB (i:Int) s.B.1.length=true:=by rw[qA,aa hi]
    have q2:zA (s.to-n)=s.to-n:=zQ;have q3:zA (s.to+n)=s.to+n:=zQ;have MO:HL 9999 (s.B.1.getD i (0,0,0)) n=some (jW (s.B.1.getD i ad) n):=In9 hb ⟨by omega,by omega⟩;simp only[Bool.and_self,aB,ak,b0,ai,ao,MO,ae,q2,q3];clear MO eD;rcases PJ with e|e
    · rw[aa e,ab (show¬kd=11 by omega)];simp only[ai,ak];unfold MN;cases hz:decide ((jW (s.B.1.getD i ad) n).2=0) with
      |false=>
        have e8:(jW (s.B.1.getD i ad) n).2=8:=by
          have:=gW hz;unfold jW at this⊢;cases hx:fI ((s.B.1.getD i ad).1+n,(s.B.1.getD i ad).2.1,(s.B.1.getD i ad).2.2) with
          |true=>rw[hx] at this;exact absurd rfl this
          |false=>rfl
        rw[e8];cases decide (s.to+n>1152921504606846976)<;>exact⟨_,rfl,fun e=>by cases e⟩
      |true=>
        cases decide (s.to+n>1152921504606846976) with
        |true=>exact⟨_,rfl,fun e=>by cases e⟩
        |false=>exact⟨_,rfl,fun _=>rfl⟩
    · rw[ab (show¬kd=10 by omega),aa e];simp only[ai,ak];unfold MM;have q1:zA ((s.B.1.getD i (0,0,0)).1+(s.B.1.getD i (0,0,0)).2.1)=(s.B.1.getD i ad).1+(s.B.1.getD i ad).2.1:=zQ (by simp only[ad] at*;omega) (by simp only[ad] at*;omega);have q4:zA ((s.B.1.getD i ad).1+(s.B.1.getD i ad).2.1-(s.B.1.getD i (0,0,0)).2.2)=(s.B.1.getD i ad).1+(s.B.1.getD i ad).2.1-(s.B.1.getD i ad).2.2:=zQ (by simp only[ad] at*;omega) (by simp only[ad] at*;omega);have q5:zA ((s.B.1.getD i (0,0,0)).1-n)=(s.B.1.getD i ad).1+-n:=by rw[zQ (by simp only[ad] at*;omega) (by simp only[ad] at*;omega)];rfl
      simp only[q1,q4,q5];by_cases c5:(s.B.1.getD i ad).1+(s.B.1.getD i ad).2.1-(s.B.1.getD i ad).2.2<n
      · rw[aa c5];exact⟨_,rfl,fun e=>by cases e⟩
      rw[ab c5];by_cases c6:s.to<n
      · rw[aa c6,aa (show s.to-n<0 by omega)];exact⟨_,rfl,fun e=>by cases e⟩
      rw[ab c6,ab (show¬s.to-n<0 by omega),ab (show¬s.to-n>1152921504606846976 by omega)];have em:jW (s.B.1.getD i ad) (-n)=(((s.B.1.getD i ad).1+-n,(s.B.1.getD i ad).2.1,(s.B.1.getD i ad).2.2),0):=by
        unfold jW;have:fI ((s.B.1.getD i ad).1+-n,(s.B.1.getD i ad).2.1,(s.B.1.getD i ad).2.2)=true:=tn.2 ⟨by simp only;omega,aaS.2⟩;rw[this];rfl
      rw[em];exact⟨_,rfl,fun _=>rfl⟩
  · rw[qUr hc];have g:(decide (to≥0)&&decide (to≤r.1-1))=false:=by
      by_cases a:to≥0
      · rw[aa a,ab (show¬to≤r.1-1 by omega)];rfl
      · rw[ab a];rfl
    rw[g];exact⟨_,rfl,fun e=>by cases e⟩
theorem aaT {r s} who {pr}(hL:∀i,i<s.B.1.length→ki r.2.1 pr (s.ho.getD i []))(hol:s.ho.length=s.B.1.length)(hY:s.B.1.length≤6):
  (qB (fun j=> !decide (gG r.2.1 pr s.ho j>1152921504606846976)) s.B.1.length 0=true∧vq 9999 9999 0 (rk r s who) pr s.B.1 s.B.2.1 s.B.2.2.1 s.B.2.2.2=some (.inl (rk r s who,pr,vl r.2.1 pr s.ho s.B.1,s.B.2.1,s.B.2.2.1,s.B.2.2.2)))∨
  (qB (fun j=> !decide (gG r.2.1 pr s.ho j>1152921504606846976)) s.B.1.length 0=false∧vq 9999 9999 0 (rk r s who) pr s.B.1 s.B.2.1 s.B.2.2.1 s.B.2.2.2=some (.inr (8,rk r s who))):=by
 have:=Lr (L:=fun n i (a:List yA)=>vq 9999 n i (rk r s who) pr a s.B.2.1 s.B.2.2.1 s.B.2.2.2) (N:=s.B.1.length) (fun j=> !decide (gG r.2.1 pr s.ho j>1152921504606846976))
  (fun a=>.inl (rk r s who,pr,a,s.B.2.1,s.B.2.2.1,s.B.2.2.2)) (.inr (8,rk r s who))
  (fun i a => a.length = s.B.1.length ∧ ∀ j, j < s.B.1.length → a.getD j ad = if j < i then ((s.B.1.getD j ad).1, gG r.2.1 pr s.ho j, (s.B.1.getD j ad).2.2) else s.B.1.getD j ad) (fun n a ha=>by
   show HN 9999 _ s.B.1.length (rk r s who) pr a s.B.2.1 s.B.2.2.1 s.B.2.2.2=_;unfold HN;simp_all) (fun n i a hi ha=>by
   have hv:=yC2 (hL i hi);have aI:vq 9999 (n+1) i (rk r s who) pr a s.B.2.1 s.B.2.2.1 s.B.2.2.2=bif decide (gG r.2.1 pr s.ho i>1152921504606846976) then some (.inr (8,rk r s who)) else vq 9999 n ((i+1:Nat):Int) (rk r s who) pr (a.set i ((a.getD i ad).1,gG r.2.1 pr s.ho i,(a.getD i ad).2.2)) s.B.2.1 s.B.2.2.1 s.B.2.2.2:=by
    show HN 9999 _ i (rk r s who) pr a s.B.2.1 s.B.2.2.1 s.B.2.2.2=_;unfold HN;have iP:zd 9999 (rk r s who).2.1 pr (s.ho.getD i [])=some (gG r.2.1 pr s.ho i,true):=hv;have eh:(rk r s who).2.2.2.2.2.2.2.2.2.2.2.1=s.ho:=rfl;simp only[eh,qV,qA,ao,aa (show i<s.ho.length by omega),aa (show i<a.length by omega),ai,iP,aB,ak,qD hi (by grind)];rfl
   grind) s.B.1.length 0 9999 s.B.1 (by omega) (by omega) (by simp)
 rcases this with⟨h1,a,h2,h3,h4⟩|⟨h1,h2⟩
 ·have e:a=vl r.2.1 pr s.ho s.B.1:=EV ad (by rw[h3,qXx]) fun j hj=>by
   rw[h3] at hj;rw[h4 j hj,if_pos hj,qMh _ _ _ _ hj]
  simp_all
 simp_all
theorem aaU {r}(hr:wT r){s}(h:yF r s) who a p:
  ∃d,RK 9999 (rk r s who) a p=some ((lk r s a p).1,d)∧((lk r s a p).1=0→d=qM r (lk r s a p).2 who [] 0):=by
 have h3:=hr.n3;have hY:=h.bk.n6;have pf:=h.bk.n1;have eD:RK 9999 (rk r s who) a p=
  bif decide (a<0) then some (1,qM r s who [] 0)
  else bif decide (a≥(r.2.1.length:Int)) then some (1,qM r s who [] 0)
  else bif decide (p<0) then some (1,qM r s who [] 0)
  else bif decide (p>1048576) then some (1,qM r s who [] 0)
  else(vp 9999 s.pr a p).bind fun x0=>
  (pt 9999 s.B.1 s.B.2.1 s.B.2.2.1 s.B.2.2.2).bind fun x1=>
  (vq 9999 9999 0 (rk r s who) x0 x1.1 x1.2.1 x1.2.2.1 x1.2.2.2).bind fun z=>
  match z with
  |.inl z1=>some (0,(jD z1.1 (Cz z1 (z1.2.1,(yPz z1.1 ([],z1.1.2.2.2.2.2.2.2.2.2.2.2.2.2.2.2.2.2))))))
  |.inr z2=>some (yY2 z2 ([],z2.2.2.2.2.2.2.2.2.2.2.2.2.2.2.2.2.2.2)):=rfl
 rw[eD,Lb (by omega) h.bk.toSized];simp only[ae];unfold lk;by_cases c1:a<0
 ·rw[aa c1,ab (show¬a≥0 by omega)];exact by simp
 rw[ab c1,aa (show a≥0 by omega)];by_cases c2:a≥(r.2.1.length:Int)
 ·grind
 rw[ab c2,aa (show a≤(r.2.1.length:Int)-1 by omega)];by_cases c3:p<0
 ·rw[aa c3,ab (show¬p≥0 by omega)];exact by simp
 rw[ab c3,aa (show p≥0 by omega)];by_cases c4:p>1048576
 ·rw[aa c4,ab (show¬p≤1048576 by omega)];exact by simp
 rw[ab c4,aa (show p≤1048576 by omega)];obtain⟨i,rfl⟩:=Int.eq_ofNat_of_zero_le (show 0≤a by omega);have hi:i<r.2.1.length:=by omega
 have L0:=h.laid 0 (by omega);have mC:vp 9999 s.pr (i:Int) p=some (s.pr.set i p):=vC0 (by rw[L0.pl];omega) (by rw[L0.pl];omega) p;simp only[Bool.and_self,aB,ak,mC,ae,ao];unfold HH;rcases aaT (r:=r) (s:=s) who (pr:=s.pr.set i p) (fun j hj=>(h.laid j hj).setP hi ⟨by omega,by omega⟩) h.hol hY with⟨g1,g2⟩|⟨g1,g2⟩
 ·rw[g2,g1];exact⟨_,rfl,fun _=>rfl⟩
 ·rw[g2,g1];exact⟨_,rfl,fun e=>by cases e⟩
theorem aaV {m}(hd:qL m){i}(hi:i<m.length):fk m (m.getD i pd).1=(i:Int):=by
 obtain⟨x,hx⟩:=QL (fU (d:=pd) hi);have h:=kW hx;unfold fk;have:x=i:=by
  rcases Nat.lt_trichotomy x i with g|g|g
  ·have:=List.pairwise_iff_getElem.1 hd x i h.1 hi g;grind
  ·exact g
  ·have:=List.pairwise_iff_getElem.1 hd i x hi h.1 g;grind
 simp_all
theorem vTh {k}(hk:100<k){B}(h:qS B){l:List zI}(hl:l.length≤80):Ls k B.1 B.2.1 B.2.2.1 B.2.2.2 l=some (ya B l):=vNs hk h hl
theorem RM {k}(hk:100<k){B}(h:qS B){l:List zI}(hl:l.length≤80):
  ∃C:BT,vr k B.1 B.2.1 B.2.2.1 B.2.2.2 l=some (C.1,C.2.1,C.2.2.1,C.2.2.2,(iE k B l).isSome)∧(∀D,iE k B l=some D→D=C):=by
 obtain⟨r,h1,h2,h3⟩:=GC hk h hl;unfold vr iE;rw[h2,h1,vTh hk h hl];refine⟨(r.1,r.2.1,r.2.2.1,r.2.2.2.1),?_,?_⟩;all_goals grind
theorem vJx {k}(hk:100<k){B}(h:qS B)(m:List zI)(hm:m.length≤9999):∀c i n,i+c=m.length→c<n→
  MS k n i B.1 B.2.1 B.2.2.1 B.2.2.2 0 0 0 0 0 0 0 m = some (match fW k B (m.drop i) with
   |some (p,C)=>.inr (true,p.1,p.2.1,p.2.2.1,p.2.2.2.1,p.2.2.2.2.1,p.2.2.2.2.2.1,p.2.2.2.2.2.2)
   |none=>.inl (0,0,0,0,0,0,0))
 |0,i,n,e,hn=>by
  obtain⟨n,rfl⟩:∃x,n=x+1:=⟨n-1,by omega⟩;have:i=m.length:=by omega
  subst this;show HO k _ m.length B.1 B.2.1 B.2.2.1 B.2.2.2 0 0 0 0 0 0 0 m=_;unfold HO;simp;rfl
 |c+1,i,n,e,hn=>by
  obtain⟨n,rfl⟩:∃x,n=x+1:=⟨n-1,by omega⟩;have hi:i<m.length:=by omega
  have ih:=vJx hk h m hm c (i+1) n (by omega) (by omega);show HO k _ i B.1 B.2.1 B.2.2.1 B.2.2.2 0 0 0 0 0 0 0 m=_;unfold HO;obtain⟨C,h1,h2⟩:=RM hk h (l:=[m.getD i pd]) (by simp);have c1:decide ((0:Int)≤(i:Int))=true:=by simp
  have c2:decide ((i:Int)≤((i+1:Nat):Int))=true:=by grind
  have c3:decide (((i+1:Nat):Int)≤(m.length:Int))=true:=by grind
  simp only[qA,qD hi (by grind),ao,vT8 m i hi];rw[yWy k B hi];grind
theorem vAk {k} (hk : 100 < k) {B} (h : qS B) {l} (bK : l.length < k) (hl : qW l) t : RN k B.1 B.2.1 B.2.2.1 B.2.2.2 l t = some (match fW k B (wC l t) with
   |some (p,C)=>(p.1,p.2.1,p.2.2.1,p.2.2.2.1,p.2.2.2.2.1,p.2.2.2.2.2.1,p.2.2.2.2.2.2,true)
   |none=>(0,0,0,0,0,0,0,false)):=by
 unfold RN;rw[vJ4 bK hl];have GH:=QZ l t;unfold qW at hl;have:=vJx hk h (wC l t) (by omega) (wC l t).length 0 k (by omega) (by omega);grind
theorem vYc {k}(hk:100<k) t {B C l m done}(h:gZ k t B l done C m):∀n (r:List zI),qS B→l.length≤100→l.length<n→r.length+l.length≤9999→
  MU k n l t B.1 B.2.1 B.2.2.1 B.2.2.2 r=some (m,C.1,C.2.1,C.2.2.1,C.2.2.2,r++done):=by
 induction h with
 |@stop B l hx=>
  intro n r hb hl hn hr;obtain⟨n,rfl⟩:∃x,n=x+1:=⟨n-1,by omega⟩;have h2:=vAk hk hb (l:=l) (by omega) (by show l.length≤9999;omega) t;rw[hx] at h2;show HP k _ l t B.1 B.2.1 B.2.2.1 B.2.2.2 r=_;unfold HP;simp_all
 |@step B C D l m done p hx _ ih=>
  intro n r hb hl hn hr;obtain⟨n,rfl⟩:∃x,n=x+1:=⟨n-1,by omega⟩;have h2:=vAk hk hb (l:=l) (by omega) (by show l.length≤9999;omega) t;rw[hx] at h2;obtain⟨hp,hg⟩:=Cd hx;have El:=GD hp;obtain⟨tX,nO⟩:=uT El;obtain⟨nX,dq⟩:=sY hk hb (by simp) hg;have g2:=ih n (r++[p]) nX (by omega) (by omega) (by grind);show HP k _ l t B.1 B.2.1 B.2.2.1 B.2.2.2 r=_;unfold HP;rw[h2];obtain⟨C',e1,e2⟩:=RM hk hb (l:=[p]) (by simp);have:=e2 C hg;subst this;simp[vk (show l.length<k by omega) (show qW l by show l.length≤9999;omega),oe (show r.length≤9999 by omega)];rw[List.append_cons r p done,←g2];have MV:vr k B.1 B.2.1 B.2.2.1 B.2.2.2 [(p.1,p.2.1,p.2.2.1,p.2.2.2.1,p.2.2.2.2.1,p.2.2.2.2.2.1,p.2.2.2.2.2.2)]=_:=e1;rw[MV];rfl
theorem yG4 {k}(hk:200≤k){B C}(hb:qS B){l m done}(hl:l.length≤100){t}(h:gZ k t B l done C m):RO k B.1 B.2.1 B.2.2.1 B.2.2.2 l t=some (C.1,C.2.1,C.2.2.1,C.2.2.2,m,done):=by
 unfold RO;rw[vYc (by omega) t h k [] hb hl (by omega) (by grind)];rfl
def qYh (x:Option (zI×zI×BT)):Int×Int×Int×Int×Int×Int×Int×Int×Int×Int×Int×Int×Int×Int×Bool:=match x with
 |some (p,q,C)=>(p.1,p.2.1,p.2.2.1,p.2.2.2.1,p.2.2.2.2.1,p.2.2.2.2.2.1,p.2.2.2.2.2.2,q.1,q.2.1,q.2.2.1,q.2.2.2.1,q.2.2.2.2.1,q.2.2.2.2.2.1,q.2.2.2.2.2.2,true)
 |none=>(0,0,0,0,0,0,0,0,0,0,0,0,0,0,false)
theorem yV8 {k}(hk:100<k){B}(h:qS B)(m:List zI)(hm:m.length≤9999){j}(hj:j<m.length):∀c i n,i+c=m.length→c<n→
  MW k n j i B.1 B.2.1 B.2.2.1 B.2.2.2 0 0 0 0 0 0 0 0 0 0 0 0 0 0 m = some (match pz k B (m.getD j pd) (m.drop i) with
   |some (q,C)=>.inr (true,(m.getD j pd).1,(m.getD j pd).2.1,(m.getD j pd).2.2.1,(m.getD j pd).2.2.2.1,(m.getD j pd).2.2.2.2.1,(m.getD j pd).2.2.2.2.2.1,(m.getD j pd).2.2.2.2.2.2,q.1,q.2.1,q.2.2.1,q.2.2.2.1,q.2.2.2.2.1,q.2.2.2.2.2.1,q.2.2.2.2.2.2)
   |none=>.inl ((j:Int),B.1,B.2.1,B.2.2.1,B.2.2.2,0,0,0,0,0,0,0,0,0,0,0,0,0,0,m))
 |0,i,n,e,hn=>by
  obtain⟨n,rfl⟩:∃x,n=x+1:=⟨n-1,by omega⟩;have:i=m.length:=by omega
  subst this;show HQ k _ j m.length B.1 B.2.1 B.2.2.1 B.2.2.2 0 0 0 0 0 0 0 0 0 0 0 0 0 0 m=_;unfold HQ;simp;rfl
 |c+1,i,n,e,hn=>by
  obtain⟨n,rfl⟩:∃x,n=x+1:=⟨n-1,by omega⟩;have hi:i<m.length:=by omega
  have ih:=yV8 hk h m hm hj c (i+1) n (by omega) (by omega);show HQ k _ j i B.1 B.2.1 B.2.2.1 B.2.2.2 0 0 0 0 0 0 0 0 0 0 0 0 0 0 m=_;unfold HQ;obtain⟨C,h1,h2⟩:=RM hk h (l:=[m.getD j pd,m.getD i pd]) (by simp);simp[qA,qD hi (by grind),h1];rw[yQt k B _ hi];unfold qz;grind
theorem yL0 {k}(hk:100<k){B}(h:qS B)(m:List zI)(hm:m.length≤9999)(L9:m.length<k):∀c i n,i+c=m.length→c<n→
  MX k n i B.1 B.2.1 B.2.2.1 B.2.2.2 0 0 0 0 0 0 0 0 0 0 0 0 0 0 m = some (match sZ k B m (m.drop i) with
   |some (p,q,C)=>.inr (true,p.1,p.2.1,p.2.2.1,p.2.2.2.1,p.2.2.2.2.1,p.2.2.2.2.2.1,p.2.2.2.2.2.2,q.1,q.2.1,q.2.2.1,q.2.2.2.1,q.2.2.2.2.1,q.2.2.2.2.2.1,q.2.2.2.2.2.2)
   |none=>.inl (0,0,0,0,0,0,0,0,0,0,0,0,0,0))
 |0,i,n,e,hn=>by
  obtain⟨n,rfl⟩:∃x,n=x+1:=⟨n-1,by omega⟩;have:i=m.length:=by omega
  subst this;show HR k _ m.length B.1 B.2.1 B.2.2.1 B.2.2.2 0 0 0 0 0 0 0 0 0 0 0 0 0 0 m=_;unfold HR;simp;rfl
 |c+1,i,n,e,hn=>by
  obtain⟨n,rfl⟩:∃x,n=x+1:=⟨n-1,by omega⟩;have hi:i<m.length:=by omega
  have ih:=yL0 hk h m hm L9 c (i+1) n (by omega) (by omega);show HR k _ i B.1 B.2.1 B.2.2.1 B.2.2.2 0 0 0 0 0 0 0 0 0 0 0 0 0 0 m=_;unfold HR;have gx:=yV8 hk h m hm hi m.length 0 k (by omega) L9;have e0:((0:Nat):Int)=0:=rfl;rw[e0,List.drop_zero] at gx;simp[aa hi];rw[gx];rw[yRk k B m hi];cases pz k B (m.getD i pd) m with
  |none=>
   simp[qD hi (by grind)];exact ih
  |some x=>rfl
theorem yHv {k}(hk:100<k){B}(h:qS B){l}(bK:l.length<k)(hl:qW l) t:RP k B.1 B.2.1 B.2.2.1 B.2.2.2 l t=some (qYh (fP k B l t)):=by
 unfold RP fP;rw[vJ4 bK hl];have GH:=QZ l t;unfold qW at hl;have:=yL0 hk h (wC l t) (by omega) (by omega) (wC l t).length 0 k (by omega) (by omega);have e:((0:Nat):Int)=0:=rfl;rw[e,List.drop_zero] at this;simp;rw[this];cases sZ k B (wC l t) (wC l t) with
 |none=>rfl
 |some x=>rfl
theorem aaW {k}(hk:100<k) t {B C l m done}(h:eg k t B l done C m):∀n (r:List zI),qS B→qL l→l.length≤100→l.length<n→r.length+l.length≤900→
  MY k n l t B.1 B.2.1 B.2.2.1 B.2.2.2 r=some (m,C.1,C.2.1,C.2.2.1,C.2.2.2,r++done):=by
 induction h with
 |@stop B l hx=>
  intro n r hb hd hl hn hr;obtain⟨n,rfl⟩:∃x,n=x+1:=⟨n-1,by omega⟩;have h2:=yHv hk hb (l:=l) (by omega) (by show l.length≤9999;omega) t;rw[hx] at h2;show HS k _ l t B.1 B.2.1 B.2.2.1 B.2.2.2 r=_;unfold HS;rw[h2];simp only[ae,qYh,bN,ai,List.append_nil]
 |@step B C D l m done p q hx _ ih=>
  intro n r hb hd hl hn hr;obtain⟨n,rfl⟩:∃x,n=x+1:=⟨n-1,by omega⟩;have h2:=yHv hk hb (l:=l) (by omega) (by show l.length≤9999;omega) t;rw[hx] at h2;obtain⟨hp,hq,pA,hg⟩:=GJ hx;obtain⟨tX,nO⟩:=GK hd hp hq pA;obtain⟨nX,dq⟩:=sY hk hb (by simp) hg;have td:(fl l p.1).length≤l.length:=(uT hp).2.length_le;have g2:=ih n (r++[p,q]) nX (List.Pairwise.sublist nO hd) (by omega) (by omega) (by grind);have e2:r++[p,q]++done=r++p::q::done:=by rw[List.append_assoc];rfl
  show HS k _ l t B.1 B.2.1 B.2.2.1 B.2.2.2 r=_;unfold HS;rw[h2];obtain⟨C',e1,e2'⟩:=RM hk hb (l:=[p,q]) (by simp);have:=e2' C hg;subst this;have MV:vr k B.1 B.2.1 B.2.2.1 B.2.2.2 [(p.1,p.2.1,p.2.2.1,p.2.2.2.1,p.2.2.2.2.1,p.2.2.2.2.2.1,p.2.2.2.2.2.2),(q.1,q.2.1,q.2.2.1,q.2.2.2.1,q.2.2.2.2.1,q.2.2.2.2.2.1,q.2.2.2.2.2.2)]=_:=e1;have d1:=vk (show l.length<k by omega) (show qW l by show l.length≤9999;omega) p.1;have d2:=vk (k:=k) (l:=(iD l p.1).1) (Nat.lt_of_le_of_lt td (by omega)) (Nat.le_trans td (by omega)) q.1;have e3:zO (r.length+2) 56=true:=qG;simp only[ae,qYh,MV,d1,d2,e3];rw[←e2,←g2];rfl
theorem vAe {k}(hk:200≤k){B C}(hb:qS B){l m done}(hd:qL l)(hl:l.length≤100){t}(h:eg k t B l done C m):RQ k B.1 B.2.1 B.2.2.1 B.2.2.2 l t=some (C.1,C.2.1,C.2.2.1,C.2.2.2,m,done):=by
 unfold RQ;rw[aaW (by omega) t h k [] hb hd hl (by omega) (by grind)];rfl
theorem qPy {k l}(hk:l.length<k)(hl:qW l) many:HT k l many=some (vJ l many):=by
 unfold qW at hl;unfold HT;obtain ⟨s', h1, h2⟩ := vB (L := fun n i s => HU k n l many i s) (N := l.length) (fun s => s) (fun i s => s = np l many i) (fun n s _=>by
  show HV k _ l many l.length s=_;unfold HV;simp) (fun n i s hi hs=>by
  have dP:s.length≤i:=by rw[hs];exact Z4 l many i
  refine⟨bif ta l many i then s++[l.getD i pd] else s,?_,?_⟩
  ·show HV k _ l many i s=_;unfold HV;have c1:decide ((0:Int)≤(i:Int))=true:=by simp
   have c2:decide ((i:Int)≤(l.length:Int))=true:=by grind
   have Zi:=QG (k:=k) (l:=l.take i) (by grind) (by show(l.take i).length≤9999;grind) (l.getD i pd).2.1;simp only[qA,qD hi (by grind),qV,ao,aa hi,oe (show s.length≤9999 by omega),c2,Zi];unfold ta eu;cases e1:decide ((l.getD i (0,(0,(0,(0,(0,(0,0))))))).2.1≥0) with
   |false=>rfl
   |true=>
    cases e2:decide ((l.getD i (0,(0,(0,(0,(0,(0,0))))))).2.1<(many.length:Int)) with
    |false=>rfl
    |true=>
     rw[aZ] at e1 e2;have hb:zB (l.getD i (0,(0,(0,(0,(0,(0,0))))))).2.1 many.length=true:=jB e1 (by omega);grind
  ·show _=np l many i++_;grind) (s:=[]) hk rfl
 have fa:HU k k l many 0 []=some s':=h1;rw[fa,h2];rfl
theorem vNz {k}{B:BT}{l}(hk:l.length<k)(hl:qW l)(hn:B.1.length<k)(hn':B.1.length≤9999):
  CF k k 0 B.1 B.2.1 B.2.2.1 B.2.2.2 l []=some (B.1,B.2.1,B.2.2.1,B.2.2.2,l,g9 l B.1.length):=by
 obtain ⟨s', h1, h2⟩ := vB (L := fun n i (s : AC) => CF k n i B.1 B.2.1 B.2.2.1 B.2.2.2 l s) (N := B.1.length) (fun s => (B.1, B.2.1, B.2.2.1, B.2.2.2, l, s)) (fun i s => s = g9 l i) (fun n s _=>by
  show HW k _ B.1.length B.1 B.2.1 B.2.2.1 B.2.2.2 l s=_;unfold HW;simp) (fun n i s hi hs=>by
  refine⟨_,?_,(yMl l i).symm⟩;show HW k _ i B.1 B.2.1 B.2.2.1 B.2.2.2 l s=_;unfold HW;have hr:zO (s.length+1) 8=true:=by rw[hs,yf];exact qG
  simp[aa hi,QG hk hl,hr,qD hi (by grind)];rw[hs];rfl) (s:=[]) hn rfl
 simp_all
theorem aaX {k}{B:BT}{l:List zI}{s m}(hk:s.length<k)(hs:s.length≤9999)(gx:∀x∈s,0≤x∧x<(m.length:Int))(h0:pB m)(hm:∀i,m.getD i 0≤9999) aP:
  HX k k aP 0 B.1 B.2.1 B.2.2.1 B.2.2.2 l m s=some (aP,B.1,B.2.1,B.2.2.1,B.2.2.2,l,fm s m):=by
 obtain ⟨s', h1, h2⟩ := vB (L := fun n i (r : AC) => HX k n aP i B.1 B.2.1 B.2.2.1 B.2.2.2 l r s) (N := s.length) (fun r => (aP, B.1, B.2.1, B.2.2.1, B.2.2.2, l, r)) (fun i r => r = fm (s.take i) m) (fun n r _=>by
  show HY k _ aP s.length B.1 B.2.1 B.2.2.1 B.2.2.2 l r s=_;unfold HY;simp) (fun n i r hi hr=>by
  refine⟨_,?_,(yV3 s m i hi).symm⟩;show HY k _ aP i B.1 B.2.1 B.2.2.1 B.2.2.2 l r s=_;unfold HY;obtain⟨b1,b2⟩:=gx _ (fU (d:=0) hi);have se:r.length=m.length:=by rw[hr,uV]
  have hb:zB (s.getD i 0) r.length=true:=jB b1 (by omega);have ET:=Md (s.take i) m (s.getD i 0).toNat;have ui:=h0 (s.getD i 0).toNat;have ph:=hm (s.getD i 0).toNat;have bd:(s.take i).length≤s.length:=by grind
  have hw:zA (r.getD (s.getD i 0).toNat 0-1)=r.getD (s.getD i 0).toNat 0-1:=by
   rw[hr];exact zQ
  simp only[qV,qA,ao,aa hi,ai,hb,hw,qD hi (by grind)];rw[hr]) (s:=m) hk rfl
 simp_all
theorem aaY {k}(hk:100<k){B}(hb:qS B){l}(hl:∀q∈l,yN B.1.length q)(bS:l.length≤64){m f n}(h:kY B l m f n):
  ∀N (s7:Int),m.length=B.1.length→pB m→(∀i,m.getD i 0≤9999)→n<N→0≤s7→s7+n<1000000→
  MZ k N s7 B.1 B.2.1 B.2.2.1 B.2.2.2 l m=some (s7+n,f):=by
 induction h with
 |@stop m h=>
  intro N s7 hm h0 h1 hn hs pW;obtain⟨N,rfl⟩:∃x,N=x+1:=⟨N-1,by omega⟩;show HZ k _ s7 B.1 B.2.1 B.2.2.1 B.2.2.2 l m=_;unfold HZ;have hS:=vIi hk hb (Me hl bS m);have oU:uM k B.1 B.2.1 B.2.2.1 B.2.2.2 (vJ l m)=some (eP B (vJ l m)):=hS;rw[qPy (by omega) (show qW l by show l.length≤9999;omega)];simp_all
 |@step m f n h h' ih=>
  intro N s7 hm h0 h1 hn hs pW;obtain⟨N,rfl⟩:∃x,N=x+1:=⟨N-1,by omega⟩;have hY:=hb.n6;show HZ k _ s7 B.1 B.2.1 B.2.2.1 B.2.2.2 l m=_;unfold HZ;have hS:=vIi hk hb (Me hl bS m);have oU:uM k B.1 B.2.1 B.2.2.1 B.2.2.2 (vJ l m)=some (eP B (vJ l m)):=hS;rw[qPy (by omega) (show qW l by show l.length≤9999;omega)];simp only[ae];rw[oU];simp only[ae];have w:zA (s7+1)=s7+1:=zQ;have bx : decide ((((eP B (vJ l m)).length : Nat) : Int) = 0) = false := ab (by
   have:=List.length_pos_iff.2 h;omega)
  have dP:(eP B (vJ l m)).length≤B.1.length:=by
   unfold eP uO;grind
  rw[bx];simp;rw[aaX (by omega) (by omega) (by rw[hm];exact Z3) h0 h1];simp[w];have hd0:=Q5 hl hm h0;have:=ih N (s7+1) ((uV _ _).trans hm) hd0 (fun i=>by have:=(Md (eP B (vJ l m)) m i).2;have:=h1 i;omega) (by omega) (by omega) (by omega);rw[this]
  congr 2
  omega
theorem aaZ {k}(hk:100<k){B}(hb:qS B){l}(hl:∀q∈l,yN B.1.length q)(bS:l.length≤64) t {f n}(hn:n≤l.length)(h:kY B (vC l t) (g9 (vC l t) B.1.length) f n):
  RR k B.1 B.2.1 B.2.2.1 B.2.2.2 l t=some (f,((n+1:Nat):Int)):=by
 have hY:=hb.n6;have hr:=yg l t;have h1:=Q6 (l:=vC l t) (by omega) B.1.length;unfold RR;rw[Zf (by omega) (by show l.length≤9999;omega)];simp;have e:CF k k 0 B.1 B.2.1 B.2.2.1 B.2.2.2 (l.filter (kh t)) []=_:=vNz (k:=k) (B:=B) (l:=vC l t) (by omega) (by show(vC l t).length≤9999;omega) (by omega) (by omega);rw[e];simp;rw[aaY hk hb (Mh hl) (by omega) h k 1 (yf _ _) h1.1 h1.2 (by omega) (by omega) (by omega)];grind
theorem vXy {k}{C:BT}{l hs:List zI}(hl:l.length<k)(dL:l.length≤9999)(hk:hs.length<k)(hh:hs.length≤9999):
  CG k k l 0 hs C.1 C.2.1 C.2.2.1 C.2.2.2=some (pC l hs,hs,C.1,C.2.1,C.2.2.1,C.2.2.2):=by
 obtain ⟨s', h1, h2⟩ := vB (L := fun n i (s : List zI) => CG k n s i hs C.1 C.2.1 C.2.2.1 C.2.2.2) (N := hs.length) (fun s => (s, hs, C.1, C.2.1, C.2.2.1, C.2.2.2)) (fun i s => s = pC l (hs.take i)) (fun n s _=>by
  show H0 k _ s hs.length hs C.1 C.2.1 C.2.2.1 C.2.2.2=_;unfold H0;simp) (fun n i s hi hr=>by
  refine⟨_,?_,(vGw l hs i hi).symm⟩;show H0 k _ s i hs C.1 C.2.1 C.2.2.1 C.2.2.2=_;unfold H0;have dP:=(Q7 (hs.take i) l).1;rw[←hr] at dP⊢;simp[qA,aa hi,vk (show s.length<k by omega) (show qW s by show s.length≤9999;omega),qD hi (by grind)];rfl) (s:=l) hk rfl
 simp_all
theorem vLw {k}(hk:100<k){B}(hb:qS B){l}(hl:∀q∈l,yN B.1.length q)(bS:l.length≤64) t {f n}(hn:n≤l.length)(h:kY B (vC l t) (g9 (vC l t) B.1.length) f n)
  {r:List yA×EQ×AC×EQ×Int} (hr:BZ k B.1 B.2.1 B.2.2.1 B.2.2.2 (vJ (vC l t) f)=some r):M3 k B.1 B.2.1 B.2.2.1 B.2.2.2 l t=some (GO B l (vJ (vC l t) f) r):=by
 have se:=yg l t;have Q9:=(ye (vC l t) f).length_le;unfold M3;rw[aaZ hk hb hl bS t hn h,Zf (by omega) (by show l.length≤9999;omega)];simp;have e:HT k (l.filter (kh t)) f=_:=qPy (k:=k) (l:=vC l t) (by omega) (by show(vC l t).length≤9999;omega) f;rw[e];simp;rw[hr];simp;unfold GO;cases decide (r.2.2.2.2=0) with
 |false=>rfl
 |true=>
  have e2:CG k k l 0 (vJ (vC l t) f) r.1 r.2.1 r.2.2.1 r.2.2.2.1=_:=vXy (C:=(r.1,r.2.1,r.2.2.1,r.2.2.2.1)) (by omega) (by omega) (by omega) (by omega);simp_all
theorem gZ.books {k}(hk:100<k){t B C l done m}(h:gZ k t B l done C m)(hb:qS B)(hd:qL l):qS C∧C.1.length=B.1.length∧List.Sublist m l:=by
 induction h with
 |stop _=>simp_all
 |step h _ ih=>
  obtain⟨hp,hg⟩:=Cd h;obtain⟨h1,h2⟩:=uT (GD hp);obtain⟨h3,h4⟩:=sY hk hb (by simp) hg;obtain⟨g1,g2,g3⟩:=ih h3 (List.Pairwise.sublist h2 hd);exact⟨g1,g2.trans h4,g3.trans h2⟩
theorem eg.books {k}(hk:100<k){t B C l done m}(h:eg k t B l done C m)(hb:qS B)(hd:qL l):qS C∧C.1.length=B.1.length∧List.Sublist m l:=by
 induction h with
 |stop _=>simp_all
 |step h _ ih=>
  obtain⟨hp,hq,pA,hg⟩:=GJ h;obtain⟨h1,h2⟩:=GK hd hp hq pA;obtain⟨h3,h4⟩:=sY hk hb (by simp) hg;obtain⟨g1,g2,g3⟩:=ih h3 (List.Pairwise.sublist h2 hd);exact⟨g1,g2.trans h4,g3.trans h2⟩
theorem vK2 {k}(hk:200≤k){t B C l m done}(h:mB k t B l done C m):∀n (r:List zI),qS B→qL l→l.length≤100→l.length<n→r.length+l.length≤900→
  M4 k n l t B.1 B.2.1 B.2.2.1 B.2.2.2 r=some (m,C.1,C.2.1,C.2.2.1,C.2.2.2,r++done):=by
 induction h with
 |@stop B C l m d h1 h2=>
  intro n r hb hd hl hn hr;obtain⟨n,rfl⟩:∃x,n=x+1:=⟨n-1,by omega⟩;have p1:=h1.perm hd;have l1:=p1.length_eq;rw[aA] at l1;obtain⟨g1,g2,g3⟩:=h1.books (by omega) hb hd;have f1:=yG4 hk hb hl h1;have f2:=vAe hk g1 (List.Pairwise.sublist g3 hd) (by omega) (eg.stop (t:=t) h2);have r1:zO (r.length+d.length) 56=true:=qG;show H2 k _ l t B.1 B.2.1 B.2.2.1 B.2.2.2 r=_;unfold H2;grind
 |@step B C D E l m n' o d e f h1 h2 ne h' ih=>
  intro n r hb hd hl hn hr;obtain⟨n,rfl⟩:∃x,n=x+1:=⟨n-1,by omega⟩;have p1:=h1.perm hd;have l1:=p1.length_eq;rw[aA] at l1;obtain⟨g1,g2,g3⟩:=h1.books (by omega) hb hd;have hm:qL m:=List.Pairwise.sublist g3 hd;have p2:=h2.perm hm;have l2:=p2.length_eq;rw[aA] at l2;obtain⟨k1,k2,k3⟩:=h2.books (by omega) g1 hm;have f1:=yG4 hk hb hl h1;have f2:=vAe hk g1 hm (by omega) h2;have me:=List.length_pos_iff.2 ne;have r1:zO (r.length+d.length) 56=true:=qG;have r2:zO ((r++d).length+e.length) 56=true:=qG (by rw[aA];omega) (by rw[aA];omega);have:=ih n (r++d++e) k1 (List.Pairwise.sublist k3 hm) (by omega) (by omega) (by simp;omega);show H2 k _ l t B.1 B.2.1 B.2.2.1 B.2.2.2 r=_;unfold H2;grind
theorem yO5 {k}(hk:200≤k){t B C l m done}(hb:qS B)(hd:qL l)(hl:l.length≤100)(h:mB k t B l done C m):
  M5 k B.1 B.2.1 B.2.2.1 B.2.2.2 l t=some (C.1,C.2.1,C.2.2.1,C.2.2.2,m,done):=by
 unfold M5;rw[vK2 hk h k [] hb hd hl (by omega) (by grind)];rfl
theorem vWk {k}(hk:200≤k){B}(hb:qS B){l:List zI}(hl:∀q∈l,yN B.1.length q)(bS:l.length≤64) t:
  ∃r,Ch k B.1 B.2.1 B.2.2.1 B.2.2.2 l t=some r∧M3 k B.1 B.2.1 B.2.2.1 B.2.2.2 l t=some r:=by
 obtain⟨f,n,h,hn⟩:=Z6 hb hl bS t;have se:=yg l t;have Q9:=(ye (vC l t) f).length_le;obtain⟨r,h1,h2,h3⟩:=GC (k:=k) (by omega) hb (l:=vJ (vC l t) f) (by omega);exact⟨_,qX9 (k:=k) (by omega) hb hl bS t (by omega) h h1,vLw (k:=k) (by omega) hb hl bS t (by omega) h h2⟩
theorem aa0 {k}(hk:200≤k){B}(hb:qS B){l}(hd:qL l)(hl:∀q∈l,yN B.1.length q)(bS:l.length≤64) t all:
  ∃(C:BT) (m done:List zI),yh k B.1 B.2.1 B.2.2.1 B.2.2.2 l t all=some (C.1,C.2.1,C.2.2.1,C.2.2.2,m,done)∧RT k B.1 B.2.1 B.2.2.1 B.2.2.2 l t all=some (C.1,C.2.1,C.2.2.1,C.2.2.2,m,done)∧
   qS C∧C.1.length=B.1.length∧List.Sublist m l∧List.Perm (done++m) l∧fW k C (wC m t)=none∧fP k C m t=none:=by
 obtain⟨C,m,d,f1,f2,f3,f4,f5⟩:=GZ hk hb hd (by omega) t;have fr:=yO5 hk hb hd (by omega) f2;have p1:=f2.perm hd;have l1:=p1.length_eq;rw[aA] at l1;unfold yh RT;rw[f1,fr];simp only[ae];cases all with
 |false=>exact⟨C,m,d,rfl,rfl,f3,f4,f5,p1,f2.final⟩
 |true=>
  have hm:qL m:=List.Pairwise.sublist f5 hd;have hmm:∀q∈m,yN C.1.length q:=by grind
  obtain⟨D,n,x,g1,g2,g3,g4,g5,g6⟩:=qZx hk f3 hm hmm (by omega) t;obtain⟨R,r1,r2⟩:=vWk hk f3 hmm (by omega) t;have hR:R=(D.1,D.2.1,D.2.2.1,D.2.2.2,n,x):=by rw[g1] at r1;exact(Option.some.inj r1).symm
  subst hR;have l2:=g5.length_eq;rw[aA] at l2;rw[g1,r2];simp only[ae];cases x with
  |nil=>
   obtain⟨rfl,rfl⟩:=g6 rfl;exact⟨D,n,d,rfl,rfl,f3,f4,f5,p1,f2.final⟩
  |cons p x=>
   have e1:decide ((((p::x).length:Nat):Int)=0)=false:=ab (by simp;omega);rw[e1];have hn:qL n:=List.Pairwise.sublist g4 hm;obtain⟨E,o,y,k1,k2,k3,k4,k5⟩:=GZ hk g2 hn (by omega) t;have kr:=yO5 hk g2 hn (by omega) k2;have p3:=k2.perm hn;have l3:=p3.length_eq;rw[aA] at l3;have e2:zO (d.length+(p::x).length) 56=true:=qG (by simp at l2⊢;omega) (by simp at l2⊢;omega);have e3:zO ((d++(p::x)).length+y.length) 56=true:=qG (by simp at l2⊢;omega) (by simp at l2⊢;omega);rw[k1,kr];simp only[ae,e2,e3,ai];refine⟨E,o,d++(p::x)++y,rfl,rfl,k3,k4.trans (g3.trans f4),k5.trans (g4.trans f5),?_,k2.final⟩;have e4:d++(p::x)++y++o=d++((p::x)++(y++o)):=by simp
   rw[e4];exact by grind
theorem yVc {B:BT}(hb:qS B){m:List zI}(hd:qL m)(hm:∀q∈m,yN B.1.length q)(bS:m.length≤64)(t:Int)(pr:AC)(ho:EQ)(ids:AC)(to:Int)(ov all:Bool):
  ∃(C:BT) (m' d:List zI),uX 9999 t B.1 B.2.1 B.2.2.1 B.2.2.2 pr ho m ids to ov all=some (t,C.1,C.2.1,C.2.2.1,C.2.2.2,pr,ho,m',ids,to,ov,vP d)∧
   oz 9999 t B.1 B.2.1 B.2.2.1 B.2.2.2 pr ho m ids to ov all=some (t,C.1,C.2.1,C.2.2.1,C.2.2.2,pr,ho,m',ids,to,ov,vP d)∧qS C∧fZ B C∧List.Sublist m' m∧List.Perm (d++m') m∧fW 9999 C (wC m' t)=none:=by
 obtain⟨C,m',d,f1,fr,f2,f3,f4,f5,f6,f7⟩:=aa0 (k:=9999) (by decide) hb hd hm bS t all;have hlen:=f5.length_eq;rw[aA] at hlen;refine⟨C,m',d,?_,?_,f2,yS2 (by decide) hb hd hm bS t all f1,f4,f5,f6⟩
 ·unfold uX;rw[f1];simp only[ae];rw[vA8 (by omega) (by omega)];rfl
 ·unfold oz;rw[fr];simp only[ae];rw[vLd (by omega) (by omega)];rfl
theorem CH kd a:eQ 9999 kd [a]=some (kd,a,0,0,0,0,0):=by rfl
theorem Of0 kd:eQ 9999 kd []=some (kd,0,0,0,0,0,0):=by rfl
theorem Of5 kd a b c d e:eQ 9999 kd [a,b,c,d,e]=some (kd,a,b,c,d,e,0):=by rfl
theorem aa1 (s:qH)(hm:s.m.length≤100)(b:Int×Int×Bool):zg 9999 9999 s.m 0 s.st b []=some (s.st,b,s.m.map (wR 22)):=by
 obtain ⟨s', h1, h2⟩ := vB (L := fun n i (o : List yJ) => zg 9999 n s.m i s.st b o) (N := s.m.length) (fun o => (s.st, b, o)) (fun i o => o = (s.m.take i).map (wR 22)) (fun n o _=>by
  show H3 9999 (zg 9999 n) s.m s.m.length s.st b o=_;unfold H3;simp) (fun n i o hi ho=>by
  refine⟨_,?_,(yLs (wR 22) s.m i pd hi).symm⟩;show H3 9999 (zg 9999 n) s.m i s.st b o=_;unfold H3;have dP:o.length≤900:=by grind
  rw[aa (by grind),qA,aa hi,ao,CH,qD hi (by omega)];simp only[yi (show o.length≤9999 by omega)];rw[ho];rfl) (s:=[]) (show s.m.length<9999 by omega) rfl
 simp_all
theorem aa2 (s:qH)(hB:s.B.1.length≤6)(b:Int×Int×Bool)(l:List yJ)(hl:l.length≤100):zh 9999 9999 0 s.st b l=some (s.st,b,l++iY s.B s.B.1.length):=by
 have ea:s.st.2.1=s.B.1:=rfl;obtain ⟨s', h1, h2⟩ := vB (L := fun n i (o : List yJ) => zh 9999 n i s.st b o) (N := s.B.1.length) (fun o => (s.st, b, o)) (fun i o => o = l ++ iY s.B i) (fun n o _=>by
  show H4 9999 (zh 9999 n) s.B.1.length s.st b o=_;unfold H4;simp_all) (fun n i o hi ho=>by
  refine⟨_,?_,(show l++iY s.B i++[yl s.B i]=l++iY s.B (i+1) by rw[yGj,List.append_assoc])⟩;show H4 9999 (zh 9999 n) i s.st b o=_;unfold H4;have dP:o.length≤900:=by
   rw[ho,aA];unfold iY;grind
  rw[ea,aa (by grind),qA,aa hi,ao,CH,qD hi (by omega)];simp only[yi (show o.length≤9999 by omega)];rw[ho];rfl) (s:=l) (show s.B.1.length<9999 by omega) (by show _=_++[];simp)
 simp_all
theorem vTj {a b p}(hd:qL (a++p::b)):iD (a++p::b) p.1=(a++b,p.1,p.2.1,p.2.2.1,p.2.2.2.1,p.2.2.2.2.1,p.2.2.2.2.2.1,p.2.2.2.2.2.2,0):=by
 have hl:a.length<(a++p::b).length:=by simp
 have hg:(a++p::b).getD a.length pd=p:=by simp
 have hp:=aaV hd hl;rw[hg] at hp;unfold fk at hp;unfold iD;cases hx:vU (a++p::b) p.1 with
 |none=>simp_all
 |some x=>
  rw[hx] at hp;simp only at hp;obtain rfl:x=a.length:=by omega
  unfold yL;simp
theorem vQh (r:qQ)(s:qH)(hd:qL s.m)(hm:s.m.length≤100)(b:Int×Int×Bool):
  vt 9999 9999 s.m 0 r s.st b []=some (r,qH.st {s with m:=s.m.filter (fun p=> !vE s.t p)},b,(s.m.filter (vE s.t)).map (wR 21)):=by
 obtain ⟨s', h1, h2, h3⟩ := vB (L := fun n i (x : List zI × List yJ) => vt 9999 n s.m i r (qH.st { s with m := x.1 }) b x.2) (N := s.m.length) (fun x => (r, qH.st { s with m := x.1 }, b, x.2)) (fun i x => x.1 = (s.m.take i).filter (fun p => !vE s.t p) ++ s.m.drop i ∧ x.2 = ((s.m.take i).filter (vE s.t)).map (wR 21)) (fun n x _=>by
  show H5 9999 (vt 9999 n) s.m s.m.length r _ b _=_;unfold H5;rw [ab (Int.lt_irrefl _)]; rfl) (fun n i x hi hx=>by
  have f1:=B6 (vE s.t) s.m i pd hi;have f2:=B6 (fun p=> !vE s.t p) s.m i pd hi;have hdr:s.m.drop i=s.m.getD i pd::s.m.drop (i+1):=by rw[List.drop_eq_getElem_cons hi,Cu _ hi]
  have nO:x.2.length≤900:=by
   rw[hx.2,List.length_map];have:=List.length_filter_le (vE s.t) (s.m.take i);rw[bY] at this;omega
  have tX:x.1.length≤s.m.length:=by
   rw[hx.1,aA,List.length_drop];have:=List.length_filter_le (fun p=> !vE s.t p) (s.m.take i);rw[bY] at this;omega
  have cP:List.Sublist x.1 s.m:=by
   have h:=List.Sublist.append (List.filter_sublist (p:=fun p=> !vE s.t p) (l:=s.m.take i)) (List.Sublist.refl (s.m.drop i));rw[List.take_append_drop] at h;rw[hx.1];exact h
  have hdx:qL x.1:=List.Pairwise.sublist cP hd;have e0:∀p:zI,qWy 9999 p.1 p.2.1 p.2.2.1 p.2.2.2.1 p.2.2.2.2.1 p.2.2.2.2.2.1 p.2.2.2.2.2.2 s.t=some (vE s.t p):=fun p=>rfl
  have ed:s.m.getD i (0,0,0,0,0,0,0)=s.m.getD i pd:=rfl;have et:(qH.st {s with m:=x.1}).1=s.t:=rfl;have em:(qH.st {s with m:=x.1}).2.2.2.2.2.2.2.1=x.1:=rfl;show∃s',H5 9999 (vt 9999 n) s.m i r (qH.st {s with m:=x.1}) b x.2=_∧_;unfold H5;rw[aa (show(i:Int)<s.m.length by omega),qA,aa hi,ao,ed,et,em,e0,CH,qD hi (by omega),vk (by omega) (by unfold qW;omega)];simp only[ai,ae,yi (show x.2.length≤9999 by omega)];cases hb:vE s.t (s.m.getD i pd) with
  |true=>
   have du:=hx.1;rw[hdr] at du;have e1:=vTj (a:=(s.m.take i).filter (fun p=> !vE s.t p)) (b:=s.m.drop (i+1)) (p:=s.m.getD i pd) (by rw[←du];exact hdx);rw[←du] at e1;rw[e1];refine⟨((s.m.take i).filter (fun p=> !vE s.t p)++s.m.drop (i+1),x.2++[wR 21 (s.m.getD i pd)]),rfl,?_,?_⟩
   ·show _=_;rw[f2,hb];simp
   ·show x.2++_=_;rw[f1,hb,hx.2];simp
  |false=>
   refine⟨x,rfl,?_,?_⟩
   ·rw[f2,hb,hx.1,hdr];simp
   ·rw[f1,hb,hx.2];simp) (s:=(s.m,[])) (show s.m.length<9999 by omega) ⟨by simp,rfl⟩
 rw[List.take_length,List.drop_length,List.append_nil] at h2;rw[List.take_length] at h3;have fa:vt 9999 9999 s.m 0 r s.st b []=_:=h1;rw[fa,h2,h3]
theorem vT2 (r:qQ){s:qH}(hb:qS s.B)(hd:qL s.m)(hm:∀q∈s.m,yN s.B.1.length q)(bS:s.m.length≤64)(ht:0≤s.t∧s.t<1099511627776)(Ms:r.2.2.2.2≠0)(ho:s.ov=false):
  ∃x:Int×List yA×jL×AC×jL×AC×jL×List zI×AC×Int×Bool×List yJ,ym 9999 r.1 r.2.1 r.2.2.1 r.2.2.2.1 r.2.2.2.2 s.t s.B.1 s.B.2.1 s.B.2.2.1 s.B.2.2.2 s.pr s.ho s.m s.ids s.to s.ov=some x∧H6 9999 r s.st=some (qP x,x.2.2.2.2.2.2.2.2.2.2.2):=by
 have hY:=hb.n6;have w:zA (s.t+1)=s.t+1:=zQ;have eR:H6 9999 r s.st=bif s.ov then some (s.st,[])
  else(RU 9999 r (zA (s.t+1))).bind fun x0=>
  bif x0 then ((zg 9999 9999 s.m 0 ((zA (s.t+1)),s.st.2) (0,0,false) []).bind fun z=>
   (zh 9999 9999 0 z.1 z.2.1 z.2.2).bind fun z1=>
   some ((kk z1.1 ([],z1.1.2.2.2.2.2.2.2.2.1,z1.1.2.2.2.2.2.2.2.2.2.1,true)),z1.2.2))
  else(vt 9999 9999 s.m 0 r ((zA (s.t+1)),s.st.2) (0,0,false) []).bind fun z2=>
  (M6 9999 z2.1 z2.2.1.1).bind fun x6=>
  (oz 9999 z2.2.1.1 z2.2.1.2.1 z2.2.1.2.2.1 z2.2.1.2.2.2.1 z2.2.1.2.2.2.2.1 z2.2.1.2.2.2.2.2.1 z2.2.1.2.2.2.2.2.2.1 z2.2.1.2.2.2.2.2.2.2.1 z2.2.1.2.2.2.2.2.2.2.2.1 z2.2.1.2.2.2.2.2.2.2.2.2.1 z2.2.1.2.2.2.2.2.2.2.2.2.2 x6).bind fun x7=>
  bif zO (z2.2.2.2.length+x7.2.2.2.2.2.2.2.2.2.2.2.length) 64 then some ((qP x7),(z2.2.2.2++x7.2.2.2.2.2.2.2.2.2.2.2))
  else none:=rfl
 have eT:((s.t+1,s.st.2):tf)=qH.st {s with t:=s.t+1}:=rfl;rw[eR,w,eT,ho];unfold ym Cm RU;simp only[w,ak,ae];cases hc:decide (s.t+1=r.2.2.2.1) with
 |true=>
  simp only[ai];rw[yK6 hY (by decide) (by omega)];have c0:=aa1 {s with t:=s.t+1,ov:=false} (by show s.m.length≤100;omega) (0,0,false);have c1:=aa2 {s with t:=s.t+1,ov:=false} (by show s.B.1.length≤6;exact hY) (0,0,false) (s.m.map (wR 22)) (by rw[List.length_map];omega);refine⟨_,rfl,?_⟩;refine(congrArg (fun z=>Option.bind z _) c0).trans ?_;refine(congrArg (fun z=>Option.bind z _) c1).trans ?_;rfl
 |false=>
  simp only[ak];rw[yTw (by decide) (by omega)];have c2:=vQh r {s with t:=s.t+1,ov:=false} hd (by show s.m.length≤100;omega) (0,0,false);have hs:∃x,Hc 9999 r.1 r.2.1 r.2.2.1 r.2.2.2.1 r.2.2.2.2 (s.t+1)=some x∧M6 9999 r (s.t+1)=some x:=by
   unfold Hc M6;cases decide (s.t+1>0) with
   |false=>exact⟨_,rfl,rfl⟩
   |true=>
    cases decide (s.t+1<r.2.2.2.1) with
    |false=>exact⟨_,rfl,rfl⟩
    |true=>
     have:decide (r.2.2.2.2=0)=false:=ab Ms;rw[this];exact⟨_,rfl,rfl⟩
  obtain⟨x,hx,pT⟩:=hs;simp only[ae];rw[hx];have cP:List.Sublist (s.m.filter (fun p=> !vE (s.t+1) p)) s.m:=List.filter_sublist;have dP:=cP.length_le;have td:qL (s.m.filter (fun p=> !vE (s.t+1) p)):=List.Pairwise.sublist cP hd;obtain⟨C,m',d,f1,f1',f2,f3,f4,f5,f6⟩:=yVc hb td (by grind) (by omega) (s.t+1) s.pr s.ho s.ids s.to false x;have hlen:=f5.length_eq;rw[aA] at hlen;have hla:(s.m.filter (vE (s.t+1))).length≤s.m.length:=by grind
  have Et:=G0 d;have hr:zO (((s.m.filter (vE (s.t+1))).map (wR 21)).length+(vP d).length) 64=true:=qG (by rw[List.length_map];omega) (by rw[List.length_map];omega);simp only[ae];rw[f1];simp only[ae,hr,ai];refine⟨_,rfl,?_⟩;refine(congrArg (fun z=>Option.bind z _) c2).trans ?_;simp only[ae];refine(congrArg (fun z=>Option.bind z _) pT).trans ?_;have aa3:oz 9999 (s.t+1) s.B.1 s.B.2.1 s.B.2.2.1 s.B.2.2.2 s.pr s.ho (s.m.filter (fun p=> !vE (s.t+1) p)) s.ids s.to false x=_:=f1';refine(congrArg (fun z=>Option.bind z _) aa3).trans ?_;grind
theorem yF.settled {r s}(h:yF r s)(ho:s.ov=false){C}(hc:qS C)(kc:fZ s.B C){m}(hm:List.Sublist m s.m):yF r {s with B:=C,m:=m}:=by
  have hl:=kc.len;exact{
    tk:=h.tk
    bk:=hc
    n:=by rw[hl];exact h.n
    hol:=by rw[hl];exact h.hol
    laid:=by rw[hl];exact h.laid
    cred:=by rw[hl];intro i hi;rw[kc.cred i hi];exact h.cred i hi
    most:=by rw[hl];intro i hi;rw[kc.cred i hi];exact h.most i hi
    waits:=by rw[hl];exact h.waits.sub hm
    sum:=by rw[hl,kc.sum];exact h.sum
    tot:=h.tot
    over:=h.over
    none:=by grind}
theorem vWh {k}(hk:9999≤k){r}(hr:wT r){s}(h:yF r s)(ho:s.ov=false):
    ∃(C:BT) (m':List zI) (ov:Bool) (o:List yJ),ym k r.1 r.2.1 r.2.2.1 r.2.2.2.1 r.2.2.2.2 s.t s.B.1 s.B.2.1 s.B.2.2.1 s.B.2.2.2 s.pr s.ho s.m s.ids s.to s.ov=some (s.t+1,C.1,C.2.1,C.2.2.1,C.2.2.2,s.pr,s.ho,m',s.ids,s.to,ov,o)∧
      yF r {s with t:=s.t+1,B:=C,m:=m',ov:=ov}∧fZ s.B C∧(ov=false→fW k C (wC m' (s.t+1))=none)∧o.length≤100∧
      ((ov=true∧m'=[]∧o=s.m.map (wR 22)++iY s.B s.B.1.length∧C=s.B)∨∃l d n,o=l.map (wR 21)++vP d∧List.Perm (l++n) s.m∧List.Perm (d++m') n∧ov=false):=by
  have JR:=hr.cl;have Ms:=hr.pe;have htk:=h.tk;have hn:=h.n;have bd:s.t≠r.2.2.2.1:=by
    have:=h.over;simp_all
  have vu:=h.bk;have hm:=h.waits.len;rw[ho];obtain⟨C,m',ov,o,e1,e2,e3,e4,e5⟩:=aaf (k:=k) (by omega) vu h.waits.dist h.waits.may (by omega) r.1 r.2.1 r.2.2.1 r.2.2.2.1 r.2.2.2.2 s.t (by omega) (by omega) s.pr s.ho s.ids s.to;have hl:=e3.len;refine⟨C,m',ov,o,e1,?_,e3,e4,?_,e5⟩
  · exact{
      tk:=by grind
      bk:=e2.bk
      n:=by simp_all
      hol:=by rw[hl];exact h.hol
      laid:=by rw[hl];exact h.laid
      cred:=by rw[hl];intro i hi;rw[e3.cred i hi];exact h.cred i hi
      most:=by rw[hl];intro i hi;rw[e3.cred i hi];exact h.most i hi
      waits:=by rw[hl];exact h.waits.sub e2.sub
      sum:=by rw[hl,e3.sum];exact h.sum
      tot:=h.tot
      over:=e2.over
      none:=e2.none}
  · have:=e2.room;split at this<;>omega
theorem vZ7 r s who f:(lg r s who f).2.t=s.t∧(lg r s who f).2.ov=s.ov∧(lg r s who f).2.to=s.to:=by
 unfold lg;cases decide (f.1=5) with
 |true=>
  cases !((decide (f.2.1≥0)&&decide (f.2.1≤r.1-1))&& !decide (f.2.1=who))<;>cases !(decide (f.2.2.1≥-1)&&decide (f.2.2.1≤1152921504606846976))<;>exact⟨rfl,rfl,rfl⟩
 |false=>
  cases decide (f.1=6) with
  |true=>cases !(decide (f.2.1≥-1)&&decide (f.2.1≤1152921504606846976))<;>exact⟨rfl,rfl,rfl⟩
  |false=>cases !(decide (f.2.1≥0)&&decide (f.2.1≤1152921504606846976))<;>exact⟨rfl,rfl,rfl⟩
theorem vRh r s who a n:(lh r s who a n).2.t=s.t∧(lh r s who a n).2.ov=s.ov∧(lh r s who a n).2.to=s.to:=by
 unfold lh;cases !(decide (a≥0)&&decide (a≤(r.2.1.length:Int)-1)) with
 |true=>simp
 |false=>
 cases !(decide (n≥0)&&decide (n≤1099511627776)) with
 |true=>simp
 |false=>
 unfold He;grind
theorem vSg r s a p:(lk r s a p).2.t=s.t∧(lk r s a p).2.ov=s.ov∧(lk r s a p).2.to=s.to:=by
 unfold lk;cases !(decide (a≥0)&&decide (a≤(r.2.1.length:Int)-1)) with
 |true=>simp
 |false=>
 cases !(decide (p≥0)&&decide (p≤1048576)) with
 |true=>simp
 |false=>
 unfold HH;grind
theorem aa4 {r s kd to n}:(lj r s kd to n).2.ov=s.ov:=by
 unfold lj;cases !(decide (to≥0)&&decide (to≤r.1-1)) with
 |true=>rfl
 |false=>
 cases !(decide (n≥1)&&decide (n≤1099511627776)) with
 |true=>rfl
 |false=>
 cases decide (kd=11) with
 |true=>
  unfold MM;cases decide ((s.B.1.getD to.toNat ad).1+(s.B.1.getD to.toNat ad).2.1-(s.B.1.getD to.toNat ad).2.2<n)<;>cases decide (s.to-n<0)<;>cases decide ((jW (s.B.1.getD to.toNat ad) (-n)).2=0)<;>cases decide (s.to-n>1152921504606846976)<;>rfl
 |false=>
  unfold MN;cases decide ((jW (s.B.1.getD to.toNat ad) n).2=0)<;>cases decide (s.to+n>1152921504606846976)<;>rfl
theorem vU9 {r s who f}:(lf r s who f).2.2.length≤1:=by
 unfold lf;grind
def Kd (o:List yJ):Prop:=∀x∈o,x.2.1≠16∧x.2.1≠23
theorem zi:Kd []:=fun x h=>by grind
theorem qV3 {x}(h:x.2.1≠16∧x.2.1≠23):Kd [x]:=fun y hy=>by simp_all
theorem Kd.append {a b}(h:Kd a)(g:Kd b):Kd (a++b):=fun x hx=>(List.mem_append.1 hx).elim (h x) (g x)
theorem qVn:∀d:List zI,Kd (vP d)
 |[]=>zi
 | p :: d => (show Kd [fJ p.2.1 p,fJ p.2.2.1 p] from fun x hx=>by
   rcases List.mem_cons.1 hx with rfl|hx
   ·exact⟨by nofun,by nofun⟩
   ·rw[List.mem_singleton.1 hx];exact⟨by nofun,by nofun⟩).append (qVn d)
theorem yHj {kd}(hk:kd=21∨kd=22)(l:List zI):Kd (l.map (wR kd)):=fun x hx=>by
 obtain⟨p,_,rfl⟩:=List.mem_map.1 hx;show kd≠16∧kd≠23;omega
theorem aa5 {r s who f}:Kd (lf r s who f).2.2:=by
 unfold lf;cases vU s.m f.2.1 with
 |none=>exact zi
 |some x=>
  simp only[];cases !decide ((s.m.getD x pd).2.1=who) with
  |true=>exact zi
  |false=>
  cases decide (f.1=2) with
  |true=>exact qV3 ⟨by nofun,by nofun⟩
  |false=>
  cases decide (f.1=4) with
  |true=>
   cases !(decide (f.2.2.1≥1)&&decide (f.2.2.1≤3))<;>cases !decide (rf r.2.2.1 r.2.2.2.1 s.t f.2.2.1=0)<;>exact zi
  |false=>
  cases decide (f.2.2.1=0)<;>cases decide (f.2.2.1=1)<;>exact zi
def oC (o:List yJ):Prop:=∀x∈o,x.2.1≠16
theorem Kd.ne {o}(h:Kd o):oC o:=fun x hx=>(h x hx).1
theorem oC.append {a b}(h:oC a)(g:oC b):oC (a++b):=fun x hx=>(List.mem_append.1 hx).elim (h x) (g x)
theorem aa6 B n:oC (iY B n):=fun x hx=>by
 obtain⟨i,_,rfl⟩:=List.mem_map.1 hx
 nofun
theorem vU3 {r:qQ}{s:qH}{who:Int}{f:jH}(h:(iZ r s who f).1=0):∀x∈(iZ r s who f).2.2,x∈s.ids∨x=f.2.1:=by
 unfold iZ at h⊢;cases h1:decide (f.2.2.1≥0)&&decide (f.2.2.1≤r.1-1) with
 |false=>exact fun _ h=>.inl h
 |true=>
 cases h2:decide (f.2.2.2.2.1≥1)&&decide (f.2.2.2.2.1≤3) with
 |false=>exact fun _ h=>.inl h
 |true=>
 cases decide (nx r s.t (ga who f)=0) with
 |false=>exact fun _ h=>.inl h
 |true=>
 cases decide (f.2.1∈s.ids) with
 |true=>exact fun _ h=>.inl h
 |false=>
 cases decide (200≤s.ids.length) with
 |true=>exact fun _ h=>.inl h
 |false=>
 cases(vU s.m f.2.1).isSome with
 |true=>exact fun _ h=>.inl h
 |false=>
 cases decide (40≤s.m.length) with
 |true=>exact fun _ h=>.inl h
 |false=>
  intro x hx;have hx:x∈qu s.ids f.2.1:=hx;unfold qu at hx;have e:=List.takeWhile_append_dropWhile (p:=fun x=>decide (x<f.2.1)) (l:=s.ids);rcases List.mem_append.1 hx with hx|hx
  ·exact .inl (e▸List.mem_append_left _ hx)
  ·rcases List.mem_cons.1 hx with hx|hx
   ·exact .inr hx
   ·exact .inl (e▸List.mem_append_right _ hx)
theorem vV3 (r:qQ)(s:qH)(who:Int)(f:jH):(lg r s who f).2.ids=s.ids:=by
 unfold lg;cases decide (f.1=5) with
 |true=>cases !((decide (f.2.1≥0)&&decide (f.2.1≤r.1-1))&& !decide (f.2.1=who))<;>cases !(decide (f.2.2.1≥-1)&&decide (f.2.2.1≤1152921504606846976))<;>rfl
 |false=>
  cases decide (f.1=6) with
  |true=>cases !(decide (f.2.1≥-1)&&decide (f.2.1≤1152921504606846976))<;>rfl
  |false=>cases !(decide (f.2.1≥0)&&decide (f.2.1≤1152921504606846976))<;>rfl
theorem aa7 (r:qQ)(s:qH)(who a n:Int):(lh r s who a n).2.ids=s.ids:=by
 unfold lh;cases !(decide (a≥0)&&decide (a≤(r.2.1.length:Int)-1)) with
 |true=>rfl
 |false=>
 cases !(decide (n≥0)&&decide (n≤1099511627776)) with
 |true=>rfl
 |false=>
 simp only[ak];unfold He;generalize (s.ho.getD who.toNat []).set a.toNat n=h;cases decide (gD r.2.1 s.pr h>1152921504606846976) with
 |true=>rfl
 |false=>cases decide (gD r.2.1 s.pr h<(s.B.1.getD who.toNat ad).2.1)&&decide ((s.B.1.getD who.toNat ad).1+gD r.2.1 s.pr h<0)<;>rfl
theorem aa8 (r:qQ)(s:qH)(a p:Int):(lk r s a p).2.ids=s.ids:=by
 unfold lk;cases !(decide (a≥0)&&decide (a≤(r.2.1.length:Int)-1)) with
 |true=>rfl
 |false=>
 cases !(decide (p≥0)&&decide (p≤1048576)) with
 |true=>rfl
 |false=>
 simp only[ak];unfold HH;cases qB (fun j=> !decide (gG r.2.1 (s.pr.set a.toNat p) s.ho j>1152921504606846976)) s.B.1.length 0<;>rfl
def fld (m:jH)(i:Nat):Int:=[m.2.1,m.2.2.1,m.2.2.2.1,m.2.2.2.2.1,m.2.2.2.2.2.1,m.2.2.2.2.2.2].getD i 0
theorem vXx (x:Int)(m:jH){n:Nat}(hn:n≤6):yv 9999 9999 x n m=some (bif qB (fun j=>decide (fld m j=0)) (6-n) n then .inl x else .inr false):=
 X6 (L := fun n i => yv 9999 n x i m) (N := 6) (fun j => decide (fld m j = 0)) (.inl x) (.inr false) (fun n => rfl) (fun n i hi=>by
  show qYk 9999 (yv 9999 n) x i m=_;have:i=0∨i=1∨i=2∨i=3∨i=4∨i=5:=by omega
  rcases this with rfl|rfl|rfl|rfl|rfl|rfl
  ·show(bif !(decide (m.2.1=0)) then _ else _)=bif decide (m.2.1=0) then _ else _
   cases decide (m.2.1=0)<;>rfl
  ·show(bif !(decide (m.2.2.1=0)) then _ else _)=bif decide (m.2.2.1=0) then _ else _
   cases decide (m.2.2.1=0)<;>rfl
  ·show(bif !(decide (m.2.2.2.1=0)) then _ else _)=bif decide (m.2.2.2.1=0) then _ else _
   cases decide (m.2.2.2.1=0)<;>rfl
  ·show(bif !(decide (m.2.2.2.2.1=0)) then _ else _)=bif decide (m.2.2.2.2.1=0) then _ else _
   cases decide (m.2.2.2.2.1=0)<;>rfl
  ·show(bif !(decide (m.2.2.2.2.2.1=0)) then _ else _)=bif decide (m.2.2.2.2.2.1=0) then _ else _
   cases decide (m.2.2.2.2.2.1=0)<;>rfl
  ·show(bif !(decide (m.2.2.2.2.2.2=0)) then _ else _)=bif decide (m.2.2.2.2.2.2=0) then _ else _
   cases decide (m.2.2.2.2.2.2=0)<;>rfl) (6-n) n 9999 (by omega) (by omega)
theorem mE (m:jH)(n:Nat)(hn:n≤6)(h1:uG 9999 m.1=some (n:Int))(h2:BQ 9999 m.1=some (n:Int)):th 9999 m=lJ 9999 m:=by
 unfold th lJ;rw[h1,h2];have e1:yE false (n:Int) 0=(n:Int):=by
  rfl
 simp only[ae];rw[e1,vXx _ m hn,ab (by simp),aa (by simp),aa (by grind),ao];have hl:(qO [m.2.1,m.2.2.1,m.2.2.2.1,m.2.2.2.2.1,m.2.2.2.2.2.1,m.2.2.2.2.2.2] n (6-n)).length=6-n:=by
  unfold qO;simp
 have := fg (L := fun k i => mD 9999 k (qO [m.2.1, m.2.2.1, m.2.2.2.1, m.2.2.2.2.1, m.2.2.2.2.2.1, m.2.2.2.2.2.2] n (6 - n)) ((6 - n : Nat) : Int) i) (N := 6 - n) (fun j => decide ((qO [m.2.1, m.2.2.1, m.2.2.2.1, m.2.2.2.2.1, m.2.2.2.2.2.1, m.2.2.2.2.2.2] n (6 - n)).getD j 0 = 0)) (.inl ()) (.inr false) (fun k=>by
  show lI 9999 (mD 9999 k) _ _ _=_;unfold lI;simp) (fun k i hi=>by
  show lI 9999 (mD 9999 k) _ _ _=_;unfold lI;rw[aa (by grind),qA,hl,aa hi,ao,qD hi (by omega)];simp) (n:=9999) (by omega)
 have h':mD 9999 9999 (qO [m.2.1,m.2.2.1,m.2.2.2.1,m.2.2.2.2.1,m.2.2.2.2.2.1,m.2.2.2.2.2.2] n (6-n)) ((6-n:Nat):Int) 0=_:=this;have ea:qB (fun j=>decide (fld m j=0)) (6-n) n=qB (fun j=>decide ((qO [m.2.1,m.2.2.1,m.2.2.2.1,m.2.2.2.2.1,m.2.2.2.2.2.1,m.2.2.2.2.2.2] n (6-n)).getD j 0=0)) (6-n) 0:=by
  have:n=0∨n=1∨n=2∨n=3∨n=4∨n=5∨n=6:=by omega
  rcases this with rfl|rfl|rfl|rfl|rfl|rfl|rfl<;>rfl
 grind
theorem vXp (kd a b c d e f:Int)(h:1≤kd∧kd≤14):th 9999 (kd,a,b,c,d,e,f)=lJ 9999 (kd,a,b,c,d,e,f):=by
 have:kd=1∨kd=2∨kd=3∨kd=4∨kd=5∨kd=6∨kd=7∨kd=8∨kd=9∨kd=10∨kd=11∨kd=12∨kd=13∨kd=14:=by omega
 rcases this with rfl|rfl|rfl|rfl|rfl|rfl|rfl|rfl|rfl|rfl|rfl|rfl|rfl|rfl
 ·exact mE _ 6 (by decide) rfl rfl
 ·exact mE _ 1 (by decide) rfl rfl
 ·exact mE _ 2 (by decide) rfl rfl
 ·exact mE _ 2 (by decide) rfl rfl
 ·exact mE _ 2 (by decide) rfl rfl
 ·exact mE _ 1 (by decide) rfl rfl
 ·exact mE _ 1 (by decide) rfl rfl
 ·exact mE _ 2 (by decide) rfl rfl
 ·exact mE _ 0 (by decide) rfl rfl
 ·exact mE _ 2 (by decide) rfl rfl
 ·exact mE _ 2 (by decide) rfl rfl
 ·exact mE _ 2 (by decide) rfl rfl
 ·exact mE _ 0 (by decide) rfl rfl
 ·exact mE _ 0 (by decide) rfl rfl
theorem vMr (r:qQ)(s:qH)(c:u9){X:Type}(bad:Int→X)(Q:X):∃e,yp 9999 r s.st c=some e∧
  (e=0→((10≤c.2.1∧c.2.1≤14∧c.1= -1)∨(1≤c.2.1∧c.2.1≤9∧0≤c.1∧c.1<r.1))∧(s.ov=true→c.2.1=9))∧
  ((CI 9999 r c).bind fun x0=>some (bif !x0 then bad 5 else bif s.ov then(bif !(decide (c.2.1=9)) then bad 7 else Q) else Q))=some (bif decide (e=0) then Q else bad e):=by
 obtain⟨e,he,hm⟩:=vMs (k:=9999) (by decide) r s c;refine⟨e,he,hm,?_⟩;have hA:RV 9999 c.2.1=some (decide (c.2.1≥1)&&decide (c.2.1≤14)):=by
  unfold RV;cases decide (c.2.1≥1)<;>rfl
 have hH:RW 9999 c.2.1=some (decide (c.2.1≥10)&&decide (c.2.1≤14)):=by
  unfold RW;cases decide (c.2.1≥10)<;>rfl
 by_cases hk:1≤c.2.1∧c.2.1≤14
 ·obtain⟨b,hb⟩:=yE0 (k:=9999) (by decide) c.2;have bg:th 9999 c.2=some b:=(vXp _ _ _ _ _ _ _ hk).trans hb;have eo:s.st.2.2.2.2.2.2.2.2.2.2=s.ov:=rfl;unfold yp at he;rw[qZg,qWz,hb,eo] at he;simp only[ae] at he;unfold CI;rw[hA,hH,bg];simp only[ae];clear hm hA hH hb bg;generalize decide (c.1≥0)=A at he⊢;generalize decide (c.2.1≥10)=B at he⊢;generalize decide (c.2.1≤14)=C at he⊢;generalize decide (c.2.1≥1)=D at he⊢;generalize decide (c.1= -1)=E at he⊢;generalize decide (c.1<r.1)=F at he⊢;generalize decide (c.2.1=9)=G at he⊢;generalize s.ov=o at he⊢;cases A<;>cases B<;>cases C<;>cases D<;>cases E<;>cases F<;>cases G<;>cases b<;>cases o<;>(cases he;rfl)
 ·have g:(decide (c.2.1≥1)&&decide (c.2.1≤14))=false:=by
   by_cases a:c.2.1≥1
   ·rw[aa a,ab (fun b=>hk ⟨a,b⟩)];rfl
   ·rw[ab a];rfl
  have e5:e=5:=by
   unfold yp at he;rw[qZg,qWz,g] at he;simp only[ae] at he;cases hd:decide (c.1≥0)<;>rw[hd] at he<;>(cases he;rfl)
  subst e5;unfold CI;rw[hA,g];rfl
structure Dlt (r:qQ) (s:qH) (f:jH) (t:qH) (l:List yJ):Prop where
 inv:yF r t
 ov:t.ov=s.ov
 few:l.length≤2
 kd:Kd l
 ids:∀x∈t.ids,x∈s.ids∨x=f.2.1
structure CJ (r:qQ) (s:qH) (f:jH) (t:qH) (o:List yJ) (e:Int):Prop where
 inv:yF r t
 bad:e≠0→t=s∧o=[]
 ne:oC o
 few:o.length≤200
 ids:∀x∈t.ids,x∈s.ids∨x=f.2.1
theorem CJ.none {r:qQ}{s:qH}{f:jH}(h:yF r s)(e:Int):CJ r s f s [] e:=⟨h,fun _=>⟨rfl,rfl⟩,fun x hx=>absurd hx List.not_mem_nil,Nat.zero_le _,fun _ h=>.inl h⟩
theorem kn (who a:Int)(kd:Int)(h:kd≠16∧kd≠23):Kd [ny who kd a]:=qV3 h
structure H7 (r:qQ) (s:qH) (who:Int) (f:jH) (t:qH) (l l':List yJ) (paid:Int):Prop where
 dealt:Dlt r s f t l
 told:l=(if who= -1 then l' else ny who 15 0::l')
 paid:paid=if f.1=1 then f.2.1 else 0
 pos:f.1=1→0<f.2.1
theorem aa9 {r:qQ}{s:qH}{who:Int}{f:jH}(h:(iZ r s who f).1=0):0<f.2.1:=by
 unfold iZ at h;cases h1:decide (f.2.2.1≥0)&&decide (f.2.2.1≤r.1-1) with
 |false=>rw[h1] at h;cases h
 |true=>
 cases h2:decide (f.2.2.2.2.1≥1)&&decide (f.2.2.2.2.1≤3) with
 |false=>rw[h1,h2] at h;cases h
 |true=>
 rw[h1,h2] at h;simp only[aB,ak] at h;by_cases hc:nx r s.t (ga who f)=0
 ·unfold nx at hc;cases hb:ld r.1 s.t (ga who f) with
  |false=>rw[hb] at hc;cases hc
  |true=>
   unfold ld at hb;simp only[aR,aZ] at hb;have:(ga who f).1≥1:=hb.2.2.1;have e:(ga who f).1=f.2.1:=rfl;omega
 ·rw[ab hc] at h;exact absurd h hc
theorem aba {r:qQ}(hr:wT r){s:qH}(h:yF r s)(ho:s.ov=false){who:Int}(hw:0≤who∧who<r.1){f:jH}(hf:1≤f.1∧f.1≤8):
  ∃e d d',RX 9999 (dk r s who [ny who 15 0]) f=some (e,d)∧zj 9999 (rk r s who) f=some (e,d')∧(e=0→∃t l l' paid,d=dk r t who l∧d'=qM r t who l' paid∧H7 r s who f t l l' paid):=by
 unfold RX zj;have sC:¬who= -1:=by omega
 have kn:=kn who 0 15 (by decide);by_cases h1:f.1=1
 ·rw[aa h1];obtain⟨d,e1,e2⟩:=vQk (k:=9999) (by decide) hr h.waits who [ny who 15 0] f;obtain⟨d',q1,q2⟩:=vKx (k:=9999) (by decide) hr h.waits who f;simp only[ai];rw[e1,q1];exact⟨_,d,d',rfl,rfl,fun e=>⟨_,_,_,_,e2 e,q2 e,⟨h.queue ho (aaN hr h e),rfl,by simp,kn,vU3 e⟩,(if_neg sC).symm,(if_pos h1).symm,fun _=>aa9 e⟩⟩
 rw[ab h1];by_cases hq:f.1=2∨f.1=3∨f.1=4
 ·obtain⟨d,e1,e2⟩:=aak (k:=9999) (by decide) h.waits who (l:=[ny who 15 0]) (by simp) f;obtain⟨d',q1,q2⟩:=vVv (k:=9999) (by decide) (r:=r) h.waits who f hq;have g:∃e d d',(Co 9999 (dk r s who [ny who 15 0]) f).bind (fun x=>some (x.1,x.2))=some (e,d)∧(CD 9999 (rk r s who) f.1 f.2).bind (fun x=>some (x.1,x.2))=some (e,d')∧(e=0→∃t l l' paid,d=dk r t who l∧d'=qM r t who l' paid∧H7 r s who f t l l' paid):=by
   rw[e1,q1];refine⟨_,d,d',rfl,rfl,fun e=>⟨_,_,_,_,e2 e,q2 e,⟨h.queue ho (vWo h e),rfl,?_,kn.append aa5,fun _ h=>.inl h⟩,?_,(if_neg h1).symm,fun e'=>absurd e' h1⟩⟩
   ·have:=vU9 (r:=r) (s:=s) (who:=who) (f:=f);rw[aA];simp;omega
   ·rw[if_neg sC];rfl
  rcases hq with e|e|e
  ·rw[aa e];exact g
  ·rw[ab (show¬f.1=2 by omega),aa e];exact g
  ·rw[ab (show¬f.1=2 by omega),ab (show¬f.1=3 by omega),aa e];exact g
 rw[ab (show¬f.1=2 by omega),ab (show¬f.1=3 by omega),ab (show¬f.1=4 by omega)];by_cases hq:f.1=5∨f.1=6∨f.1=7
 ·obtain⟨d,e1,e2⟩:=vW9 (k:=9999) (by decide) hr h.bk h.n hw [ny who 15 0] f;obtain⟨d',q1,q2⟩:=aaR (k:=9999) (by decide) hr h.bk h.n hw f;have g:∃e d d',(Cp 9999 (dk r s who [ny who 15 0]) f).bind (fun x=>some (x.1,x.2))=some (e,d)∧(CE 9999 (rk r s who) f.1 f.2).bind (fun x=>some (x.1,x.2))=some (e,d')∧(e=0→∃t l l' paid,d=dk r t who l∧d'=qM r t who l' paid∧H7 r s who f t l l' paid):=by
   rw[e1,q1];have cc:=vZ7 r s who f;exact⟨_,d,d',rfl,rfl,fun e=>⟨_,_,_,_,e2 e,q2 e,⟨vZd h hw e,cc.2.1,by simp,kn,by rw[vV3];exact fun _ h=>.inl h⟩,(if_neg sC).symm,(if_neg h1).symm,fun e'=>absurd e' h1⟩⟩
  rcases hq with e|e|e
  ·rw[aa e];exact g
  ·rw[ab (show¬f.1=5 by omega),aa e];exact g
  ·rw[ab (show¬f.1=5 by omega),ab (show¬f.1=6 by omega),aa e];exact g
 rw[ab (show¬f.1=5 by omega),ab (show¬f.1=6 by omega),ab (show¬f.1=7 by omega),aa (show f.1=8 by omega)];obtain⟨d,e1,e2⟩:=aam (k:=9999) (by decide) hr h hw [ny who 15 0] f.2.1 f.2.2.1;obtain⟨d',q1,q2⟩:=vZf hr h hw f.2.1 f.2.2.1;simp only[ai,ak];rw[e1,q1];have cc:=vRh r s who f.2.1 f.2.2.1;exact⟨_,d,d',rfl,rfl,fun e=>⟨_,_,_,_,e2 e,q2 e,⟨aaP hr h hw e,cc.2.1,by simp,kn,by rw[aa7];exact fun _ h=>.inl h⟩,(if_neg sC).symm,(if_neg h1).symm,fun e'=>absurd e' h1⟩⟩
theorem vZn {r:qQ}(hr:wT r){s:qH}(h:yF r s){f:jH}(hf:10≤f.1∧f.1≤13):
  ∃e d d',H8 9999 (gF r s (-1)) f=some (e,d)∧zj 9999 (rk r s (-1)) f=some (e,d')∧(e=0→∃t l l' paid,d=dk r t (-1) l∧d'=qM r t (-1) l' paid∧H7 r s (-1) f t l l' paid):=by
 unfold H8 zj;have h1:¬f.1=1:=by omega
 rw[ab h1,ab (show¬f.1=2 by omega),ab (show¬f.1=3 by omega),ab (show¬f.1=4 by omega),ab (show¬f.1=5 by omega),ab (show¬f.1=6 by omega),ab (show¬f.1=7 by omega),ab (show¬f.1=8 by omega)];by_cases hq:f.1=10∨f.1=11
 ·obtain⟨d,e1,e2⟩:=vN3 (k:=9999) (by decide) hr h (-1) f.1 f.2.1 f.2.2.1;obtain⟨d',q1,q2⟩:=vUm hr h (-1) f.1 f.2.1 f.2.2.1 hq;have g:∃e d d',(HD 9999 (gF r s (-1)) f.1 f.2.1 f.2.2.1).bind (fun x=>some (x.1,x.2))=some (e,d)∧(HM 9999 (rk r s (-1)) (decide (f.1=10)) f.2.1 f.2.2.1).bind (fun x=>some (x.1,x.2))=some (e,d')∧(e=0→∃t l l' paid,d=dk r t (-1) l∧d'=qM r t (-1) l' paid∧H7 r s (-1) f t l l' paid):=by
   rw[e1,q1];refine⟨_,d,d',rfl,rfl,fun e=>?_⟩;obtain⟨g1,g2,g3,g4,g5⟩:=aaQ h e;exact⟨_,_,_,_,e2 e,q2 e,⟨g1,aa4,by simp,zi,by rw[g4];exact fun _ h=>.inl h⟩,rfl,(if_neg h1).symm,fun e'=>absurd e' h1⟩
  rcases hq with e|e
  ·have e1:decide (f.1=10)=true:=aa e;rw[e1] at g⊢;exact g
  ·have e1:decide (f.1=10)=false:=ab;rw[e1] at g⊢;rw[aa e];exact g
 rw[ab (show¬f.1=10 by omega),ab (show¬f.1=11 by omega)];by_cases hp:f.1=12
 ·rw[aa hp];obtain⟨d,e1,e2⟩:=vY6 (k:=9999) (by decide) hr h (-1) f.2.1 f.2.2.1;obtain⟨d',q1,q2⟩:=aaU hr h (-1) f.2.1 f.2.2.1;simp only[ai,ak];rw[e1,q1];have cc:=vSg r s f.2.1 f.2.2.1;exact⟨_,d,d',rfl,rfl,fun e=>⟨_,_,_,_,e2 e,q2 e,⟨vNl h e,cc.2.1,by simp,zi,by rw[aa8];exact fun _ h=>.inl h⟩,rfl,(if_neg h1).symm,fun e'=>absurd e' h1⟩⟩
 ·rw[ab hp];exact⟨_,_,_,rfl,rfl,fun _=>⟨s,[],[],0,rfl,rfl,⟨h,rfl,by simp,zi,fun _ h=>.inl h⟩,rfl,(if_neg h1).symm,fun e'=>absurd e' h1⟩⟩
def RY (who kd:Int)(x4:Int×MOT):Option (tf×List yJ×Int):=
  bif !(decide (who = (-1))) then ((eQ 9999 15 []).bind fun x5=>
   (oz 9999 x4.2.2.2.2.2.2.1 x4.2.2.2.2.2.2.2.1 x4.2.2.2.2.2.2.2.2.1 x4.2.2.2.2.2.2.2.2.2.1 x4.2.2.2.2.2.2.2.2.2.2.1 x4.2.2.2.2.2.2.2.2.2.2.2.1 x4.2.2.2.2.2.2.2.2.2.2.2.2.1 x4.2.2.2.2.2.2.2.2.2.2.2.2.2.1 x4.2.2.2.2.2.2.2.2.2.2.2.2.2.2.1 x4.2.2.2.2.2.2.2.2.2.2.2.2.2.2.2.1 x4.2.2.2.2.2.2.2.2.2.2.2.2.2.2.2.2.1 (decide (kd=13))).bind fun x6=>
   bif zO (1 + x4.2.2.2.2.2.2.2.2.2.2.2.2.2.2.2.2.2.2.1.length) 64 then (let y0:List yJ:=([(who,x5)]++x4.2.2.2.2.2.2.2.2.2.2.2.2.2.2.2.2.2.2.1)
    bif zO (y0.length + x6.2.2.2.2.2.2.2.2.2.2.2.length) 64 then (bif decide (x4.2.2.2.2.2.2.2.2.2.2.2.2.2.2.2.2.2.2.2 > 0) then ((mA 9999 x6.2.2.2.2.2.2.2.1 x4.2.2.2.2.2.2.2.2.2.2.2.2.2.2.2.2.2.2.2).bind fun x7=>
      bif decide (x7 ≥ 0) then ((eQ 9999 19 [x4.2.2.2.2.2.2.2.2.2.2.2.2.2.2.2.2.2.2.2]).bind fun x8=>
       bif zO ((y0 ++ x6.2.2.2.2.2.2.2.2.2.2.2).length + 1) 64 then (let y1:List yJ:=((y0++x6.2.2.2.2.2.2.2.2.2.2.2)++[(who,x8)])
        some ((qP x6),y1,0))
       else none)
      else some ((qP x6),(y0++x6.2.2.2.2.2.2.2.2.2.2.2),0))
     else some ((qP x6),(y0++x6.2.2.2.2.2.2.2.2.2.2.2),0))
    else none)
   else none)
  else(oz 9999 x4.2.2.2.2.2.2.1 x4.2.2.2.2.2.2.2.1 x4.2.2.2.2.2.2.2.2.1 x4.2.2.2.2.2.2.2.2.2.1 x4.2.2.2.2.2.2.2.2.2.2.1 x4.2.2.2.2.2.2.2.2.2.2.2.1 x4.2.2.2.2.2.2.2.2.2.2.2.2.1 x4.2.2.2.2.2.2.2.2.2.2.2.2.2.1 x4.2.2.2.2.2.2.2.2.2.2.2.2.2.2.1 x4.2.2.2.2.2.2.2.2.2.2.2.2.2.2.2.1 x4.2.2.2.2.2.2.2.2.2.2.2.2.2.2.2.2.1 (decide (kd=13))).bind fun x9=>
  bif zO x4.2.2.2.2.2.2.2.2.2.2.2.2.2.2.2.2.2.2.1.length 64 then (let y2:List yJ:=x4.2.2.2.2.2.2.2.2.2.2.2.2.2.2.2.2.2.2.1
   bif zO (y2.length + x9.2.2.2.2.2.2.2.2.2.2.2.length) 64 then (bif decide (x4.2.2.2.2.2.2.2.2.2.2.2.2.2.2.2.2.2.2.2 > 0) then ((mA 9999 x9.2.2.2.2.2.2.2.1 x4.2.2.2.2.2.2.2.2.2.2.2.2.2.2.2.2.2.2.2).bind fun bT=>
     bif decide (bT ≥ 0) then ((eQ 9999 19 [x4.2.2.2.2.2.2.2.2.2.2.2.2.2.2.2.2.2.2.2]).bind fun cN=>
      bif zO ((y2 ++ x9.2.2.2.2.2.2.2.2.2.2.2).length + 1) 64 then (let y3:List yJ:=((y2++x9.2.2.2.2.2.2.2.2.2.2.2)++[(who,cN)])
       some ((qP x9),y3,0))
      else none)
     else some ((qP x9),(y2++x9.2.2.2.2.2.2.2.2.2.2.2),0))
    else some ((qP x9),(y2++x9.2.2.2.2.2.2.2.2.2.2.2),0))
   else none)
  else none
def CK (r:qQ)(s:tf)(c:u9):Option (tf×List yJ×Int):=
  bif decide (c.2.1 = 9) then (bif zB c.1 s.2.1.length then ((uP 9999 s.2.2.2.2.2.2.2.1 c.1).bind fun x1=>
    (eQ 9999 17 [(s.2.1.getD c.1.toNat (0,0,0)).1,(s.2.1.getD c.1.toNat (0,0,0)).2.1,(s.2.1.getD c.1.toNat (0,0,0)).2.2,(x1.length:Int),s.1]).bind fun x2=>
    some (s,[(c.1,x2)],0))
   else none)
  else bif decide (c.2.1 = 14) then ((H6 9999 r s).bind fun x3=>
   some (x3.1,x3.2,0))
  else(zj 9999 (vK r (vQ s (c.1,0))) c.2).bind fun x4=>
  bif !(decide (x4.1=0)) then some (s,[],x4.1)
  else RY c.1 c.2.1 x4
theorem abb (r:qQ)(s:tf)(c:u9):H9 9999 r s c=(CI 9999 r c).bind fun x0=>
  bif !x0 then some (s,[],5) else bif s.2.2.2.2.2.2.2.2.2.2 then(bif !(decide (c.2.1=9)) then some (s,[],7) else CK r s c) else CK r s c:=rfl
theorem vAz {r:qQ}(hr:wT r){s t:qH}(ho:s.ov=false){who:Int}{l l':List yJ}{f:jH}{paid:Int}(hB:H7 r s who f t l l' paid):
    ∃ u o, ((uX 9999 t.t t.B.1 t.B.2.1 t.B.2.2.1 t.B.2.2.2 t.pr t.ho t.m t.ids t.to t.ov (decide (f.1=13))).bind fun x5=>
      bif zO (l.length + x5.2.2.2.2.2.2.2.2.2.2.2.length) 64 then (let y0:List yJ:=(l++x5.2.2.2.2.2.2.2.2.2.2.2)
       bif decide (f.1 = 1) then ((pw 9999 x5.2.2.2.2.2.2.2.1 f.2.1).bind fun x6=>
        bif decide (x6 ≥ 0) then ((yo 9999 (RZ ((0:Int),dk r t who l) y0) 19 [f.2.1]).bind fun x7=>
         some ((qP x5),x7.2.2.2.2.2.2.2.2.2.2.2.2.2.2.2.2.2,(0:Int)))
        else some ((qP x5),y0,0))
       else some ((qP x5),y0,0))
      else none)=some (u.st,o,(0:Int))∧RY who f.1 (0,qM r t who l' paid)=some (u.st,o,(0:Int))∧yF r u∧oC o∧o.length≤200∧u.ids=t.ids:=by
  have h:=hB.dealt.inv;have vv:=hB.dealt.ov.trans ho;have hl:=hB.dealt.few;have hm:=h.waits.len;obtain⟨C,m',d,e1,MV,e3,e4,e5,e6,e7⟩:=yVc h.bk h.waits.dist h.waits.may (by omega) t.t t.pr t.ho t.ids t.to t.ov (decide (f.1=13));have hd:d.length≤40:=by
    have:=e6.length_eq;rw[aA] at this;omega
  have ph:=e5.length_le;have Et:=G0 d;have hu:=h.settled vv e3 e4 e5;have dL:l'.length≤2:=by
    have:=hB.told;by_cases hw:who= -1
    · rw[if_pos hw] at this;rw[←this];exact hl
    · rw[if_neg hw] at this;rw[this,List.length_cons] at hl;omega
  have key:RY who f.1 (0,qM r t who l' paid)=bif decide (paid>0) then(bif decide (fk m' paid≥0) then some ((t.t,C.1,C.2.1,C.2.2.1,C.2.2.2,t.pr,t.ho,m',t.ids,t.to,t.ov),(l++vP d)++[ny who 19 paid],(0:Int)) else some ((t.t,C.1,C.2.1,C.2.2.1,C.2.2.2,t.pr,t.ho,m',t.ids,t.to,t.ov),l++vP d,0)) else some ((t.t,C.1,C.2.1,C.2.2.1,C.2.2.2,t.pr,t.ho,m',t.ids,t.to,t.ov),l++vP d,0):=by
    have es:oz 9999 (qM r t who l' paid).2.2.2.2.2.1 (qM r t who l' paid).2.2.2.2.2.2.1 (qM r t who l' paid).2.2.2.2.2.2.2.1 (qM r t who l' paid).2.2.2.2.2.2.2.2.1 (qM r t who l' paid).2.2.2.2.2.2.2.2.2.1 (qM r t who l' paid).2.2.2.2.2.2.2.2.2.2.1 (qM r t who l' paid).2.2.2.2.2.2.2.2.2.2.2.1 (qM r t who l' paid).2.2.2.2.2.2.2.2.2.2.2.2.1 (qM r t who l' paid).2.2.2.2.2.2.2.2.2.2.2.2.2.1 (qM r t who l' paid).2.2.2.2.2.2.2.2.2.2.2.2.2.2.1 (qM r t who l' paid).2.2.2.2.2.2.2.2.2.2.2.2.2.2.2.1 (decide (f.1=13))=_:=MV;have eo:(qM r t who l' paid).2.2.2.2.2.2.2.2.2.2.2.2.2.2.2.2.2.1=l':=rfl;have ep:(qM r t who l' paid).2.2.2.2.2.2.2.2.2.2.2.2.2.2.2.2.2.2=paid:=rfl;have ef:mA 9999 m' paid=some (fk m' paid):=LN (by omega) (by omega) paid;unfold RY;simp only[es,eo,ep,Of0,CH,ae];have ht:=hB.told;by_cases hw:who= -1
    · rw[if_pos hw] at ht;rw[aa hw,qG (n:=l'.length),qG (n:=l'.length+(vP d).length) (by omega) (by omega),qG (n:=(l'++vP d).length+1) (by rw[aA];omega) (by rw[aA];omega),ht];simp only[aB,ak,ai];rw[ef];rfl
    · rw[if_neg hw] at ht;have er:[((who,(15,0,0,0,0,0,0)):yJ)]++l'=l:=ht.symm;rw[ab hw,er,qG (n:=1+l'.length),qG (n:=l.length+(vP d).length) (by omega) (by omega),qG (n:=(l++vP d).length+1) (by rw[aA];omega) (by rw[aA];omega)];simp only[bN,ai];rw[ef];rfl
  rw[e1,key];simp only[ae];rw[qG (n:=l.length+(vP d).length) (by omega) (by omega)];simp only[ai];have fin:∀(o:List yJ) {x:Option (tf×List yJ×Int)},o.length≤200→oC o→x=some (({t with B:=C,m:=m'}:qH).st,o,(0:Int))→∃u o',some (({t with B:=C,m:=m'}:qH).st,o,(0:Int))=some (u.st,o',(0:Int))∧x=some (u.st,o',(0:Int))∧yF r u∧oC o'∧o'.length≤200∧u.ids=t.ids:=fun o _ hl hk hx=>⟨{t with B:=C,m:=m'},o,rfl,hx,hu,hk,hl,rfl⟩
  have k1:Kd (l++vP d):=hB.dealt.kd.append (qVn _);have b1:(l++vP d).length≤199:=by rw[aA];omega
  have b2:∀x:yJ,(l++vP d++[x]).length≤200:=fun x=>by rw[aA];simp;rw[aA] at b1;omega
  have hp:=hB.paid;by_cases h1:f.1=1
  · rw[if_pos h1] at hp;subst hp;rw[aa h1,aa (show f.2.1>0 from hB.pos h1)];simp only[ai];rw[Gg (by omega) (by omega)];simp only[ae];cases decide (fk m' f.2.1≥0) with
    |false=>exact fin _ (by omega) k1.ne rfl
    |true=>
      simp only[ai];have ej:RZ ((0:Int),dk r t who l) (l++vP d)=dk r t who (l++vP d):=rfl;rw[ej,yYo (by rw[aA];omega)];exact fin _ (b2 _) (k1.append (kn _ _ _ (by decide))).ne rfl
  · rw[if_neg h1] at hp;subst hp;rw[ab h1,ab (show¬(0:Int)>0 by decide)];exact fin _ (by omega) k1.ne rfl
theorem abc {r:qQ}{s:qH}(h:yF r s){who:Int}(hw:0≤who∧who<r.1)(c:u9)(hc:c.1=who)(h9:c.2.1=9):
  ∃o,R0 9999 s.st who=some o∧CK r s.st c=some (s.st,o,0)∧o.length≤200∧oC o:=by
 have hm:=h.waits.len;have hn:=h.n;have hb:zB who s.B.1.length=true:=jB hw.1 (by omega);have e1:s.st.2.1=s.B.1:=rfl;have e2:s.st.2.2.2.2.2.2.2.1=s.m:=rfl;unfold R0 CK;rw[aa h9,hc,e1,e2,hb,yR2 (by omega) (by unfold qW;omega),QG (by omega) (by unfold qW;omega)];simp only[ai,ae,Of5];exact⟨_,rfl,rfl,by simp,(qV3 ⟨by simp,by simp⟩).ne⟩
theorem yMj {r:qQ}(hr:wT r){s:qH}(h:yF r s)(c:u9):
  ∃t o e,M7 9999 r s.st c=some (t.st,o,e)∧H9 9999 r s.st c=some (t.st,o,e)∧CJ r s c.2 t o e:=by
 obtain⟨e,he,hm,hb⟩:=vMr r s c (fun e=>(some (s.st,[],e):Option (tf×List yJ×Int))) (CK r s.st c);have hR:H9 9999 r s.st c=bif decide (e=0) then CK r s.st c else some (s.st,[],e):=by
  rw[abb];have eo:s.st.2.2.2.2.2.2.2.2.2.2=s.ov:=rfl;rw[eo];cases hx:CI 9999 r c with
  |none=>rw[hx] at hb;cases hb
  |some x=>
   rw[hx] at hb;simp only[ae,Option.some.injEq] at hb;exact hb
 unfold M7;rw[he,hR];simp only[ae];by_cases h0:e=0
 ·obtain⟨hw,vv⟩:=hm h0;rw[aa h0];simp only[aB,ak,ai];by_cases h9:c.2.1=9
  ·have xy:0≤c.1∧c.1<r.1:=by omega
   obtain⟨o,ho,lX,hol,fR⟩:=abc h xy c rfl h9;rw[aa h9,lX];simp only[ai];rw[ho];exact⟨s,o,0,rfl,rfl,h,fun e=>absurd rfl e,fR,hol,fun _ h=>.inl h⟩
  ·have ho:s.ov=false:=by
    cases g:s.ov with
    |false=>rfl
    |true=>exact absurd (vv g) h9
   have fin:∀{t:qH} {x y:Option (tf×List yJ×Int)},(∀x∈t.ids,x∈s.ids∨x=c.2.2.1)→(∃u o,x=some (u.st,o,(0:Int))∧y=some (u.st,o,(0:Int))∧yF r u∧oC o∧o.length≤200∧u.ids=t.ids)→∃t o e,x=some (t.st,o,e)∧y=some (t.st,o,e)∧CJ r s c.2 t o e:=by
    intro t x y hi ⟨u,o,g1,Cb,g2,g3,g4,g5⟩;exact⟨u,o,0,g1,Cb,g2,fun e=>absurd rfl e,g3,g4,by rw[g5];exact hi⟩
   unfold CK;rw[ab h9];simp only[ak];by_cases hp:c.1= -1
   ·rw[aa hp];have hf:10≤c.2.1∧c.2.1≤14:=by omega
    have ed:vK r (vQ s.st c.1)=gF r s (-1):=by rw[hp];rfl
    have er:vK r (vQ s.st (c.1,0))=rk r s (-1):=by rw[hp];rfl
    simp only[aB,ak];rw[ed,er];by_cases h14:c.2.1=14
    ·have g0:H8 9999 (gF r s (-1)) c.2=some (0,dk r s (-1) []):=by
      unfold H8;rw[h14];rfl
     rw[g0];simp only[ae];rw[aa h14];have bd:=h.tk;have JR:=hr.cl;have Ms:=hr.pe;obtain⟨x,x1,x2⟩:=vT2 r h.bk h.waits.dist h.waits.may (by have:=h.waits.len;omega) ⟨by omega,by omega⟩ (by omega) ho;obtain⟨C,m',ov,o,y1,y2,_,_,y3,y4⟩:=vWh (k:=9999) (by decide) hr h ho;rw[x1] at y1;have y1:=Option.some.inj y1;subst y1;refine⟨_,o,0,(congrArg (fun z=>Option.bind z _) x1).trans rfl,(congrArg (fun z=>Option.bind z _) x2).trans rfl,y2,fun e=>absurd rfl e,?_,by omega,fun _ h=>.inl h⟩;rcases y4 with⟨_,_,rfl,_⟩|⟨l,d,n,rfl,_,_,_⟩
     ·exact(yHj (.inr rfl) _).ne.append (aa6 _ _)
     ·exact((yHj (.inl rfl) _).append (qVn _)).ne
    ·obtain⟨e,d,d',g1,Cb,g2⟩:=vZn hr h (f:=c.2) (by omega);rw[g1,ab h14,Cb];simp only[ae,ak];by_cases hz:e=0
     ·obtain⟨t,l,l',paid,rfl,rfl,hd⟩:=g2 hz;rw[aa hz,hp];simp only[aB,ak];subst hz;exact fin hd.dealt.ids (vAz hr ho hd)
     ·rw[ab hz];exact⟨s,[],e,rfl,rfl,CJ.none h e⟩
   ·rw[ab hp,ab (show¬c.2.1=14 by omega)];have hf:1≤c.2.1∧c.2.1≤8:=by omega
    have xy:0≤c.1∧c.1<r.1:=by omega
    have ed:R1 9999 (vK r (vQ s.st c.1)) 15 []=some (dk r s c.1 [ny c.1 15 0]):=rfl;have er:vK r (vQ s.st (c.1,0))=rk r s c.1:=rfl;obtain⟨e,d,d',g1,Cb,g2⟩:=aba hr h ho xy (f:=c.2) hf;simp only[bN,ai,ak];rw[ed,er,Cb];simp only[ae];rw[g1];simp only[ae];by_cases hz:e=0
    ·obtain⟨t,l,l',paid,rfl,rfl,hd⟩:=g2 hz;rw[aa hz];simp only[aB,ak];subst hz;exact fin hd.dealt.ids (vAz hr ho hd)
    ·rw[ab hz];exact⟨s,[],e,rfl,rfl,CJ.none h e⟩
 ·rw[ab h0];exact⟨s,[],e,rfl,rfl,CJ.none h e⟩
theorem vYi (m:jH):th 9999 m=lJ 9999 m:=by
 have hm:=E0 m.1;by_cases h:yP m.1<0
 ·obtain⟨b,h1,h2⟩:=aav (k:=9999) (by decide) m;obtain⟨c,h3⟩:=yE0 (k:=9999) (by decide) m;have hb:b=false:=by
   grind
  have hc:c=false:=by
   cases c with
   |false=>rfl
   |true=>have:=(yXx h3).1;omega
  simp_all
 ·obtain⟨n,hn⟩:∃n:Nat,yP m.1=n:=⟨(yP m.1).toNat,by omega⟩;exact mE m n (by omega) (by rw[KR,hn]) (by rw[PY,hn])
def vw (s t:qH):Prop:=∀i,i<s.B.1.length→(t.B.1.getD i ad).1<(s.B.1.getD i ad).1→0≤(t.B.1.getD i ad).1+(t.B.1.getD i ad).2.1
theorem vw.same {s t}(h:∀i,i<s.B.1.length→(t.B.1.getD i ad).1=(s.B.1.getD i ad).1):vw s t:=fun i hi bd=>by simp_all
theorem vw.refl s:vw s s:=vw.same (by simp)
theorem vw.set {s t:qH}{j:Nat}{a:yA}(h:t.B.1=s.B.1.set j a)(ha:a.1<(s.B.1.getD j ad).1→0≤a.1+a.2.1):vw s t:=fun i hi=>by
 rw[h,fG];split
 ·next h=>rw[←h.1];exact ha
 ·omega
structure ahM (r:qQ) (s:qH) (f:jH) (t:qH) (l:List yJ):Prop where
 inv:yF r t
 tk:t.t=s.t
 ov:t.ov=s.ov
 few:l.length≤2
 to:t.to=s.to+(if f.1=10 then f.2.2.1 else if f.1=11 then-f.2.2.1 else 0)
 fell:vw s t
 kd:Kd l
 ids:∀x∈t.ids,x∈s.ids∨x=f.2.1
structure Did (k:Nat) (r:qQ) (s:qH) (c:u9) (t:qH) (o:List yJ) (e:Int):Prop where
 inv:yF r t
 bad:e≠0→t=s∧o=[]
 to:e=0→t.to=s.to+(if c.2.1=10 then c.2.2.2.1 else if c.2.1=11 then-c.2.2.2.1 else 0)
 still:t=s∨(t.ov=false→fW k t.B (wC t.m t.t)=none)
 fell:vw s t
 ne:oC o
 few:o.length≤100
 ids:∀x∈t.ids,x∈s.ids∨x=c.2.2.1
instance CL:DecidableEq zI:=fun a b=>inferInstanceAs (Decidable (a=b))
theorem abd {k}{a b:List zI}(hk:a.length<k)(hl:a.length<9223372036854775808):M8 k a b=some (decide (a=b)):=by
 unfold M8;by_cases hlen:a.length=b.length
 case neg=>
  have e:decide (((a.length:Nat):Int)=((b.length:Nat):Int))=false:=by grind
  have:a≠b:=by grind
  simp_all
 have e:decide (((a.length:Nat):Int)=((b.length:Nat):Int))=true:=by grind
 have := fg (L := fun n i => M9 k n a b i) (N := a.length) (fun i => decide (a.getD i pd = b.getD i pd)) (.inl ()) (.inr false) (fun n=>by
  show Ia k _ a b a.length=_;unfold Ia;simp) (fun n i hi=>by
  show Ia k _ a b i=_;unfold Ia;have e7:=eq7 (a.getD i pd) (b.getD i pd);simp only[qA,qD hi hl];simp_all) hk
 rw[this,Ld pd hlen];grind
theorem vOa {r s}(hr:wT r)(h:yF r s):rj 9999 s.st s.st=some true:=by
 have hb:wW s.B.1 s.B.2.1 s.B.2.2.1 s.B.2.2.2:=h.bk;have hY:=h.bk.n6;have pf:=h.bk.n1;have hm:=h.waits.len;have hi:=h.waits.idl;have h3:=hr.n3;have hL:=h.laid 0 (by omega);have e1:Lg 9999 s.B.1 s.B.2.1 s.B.2.2.1 s.B.2.2.2 s.B.1 s.B.2.1 s.B.2.2.1 s.B.2.2.2=some true:=by
  rw[vM1 (by decide) hb.toSized];simp
 have e2:uI 9999 s.pr s.pr=some true:=by rw[Qg (by rw[hL.pl];omega) (by rw[hL.pl];omega),aa rfl]
 have e3:BW 9999 s.ho s.ho=some true:=by
  have hol:=h.hol;rw [YC (by omega) (by omega) (fun i hi=>by
   have:=(h.laid i (by omega)).hl;omega),aa rfl]
 have e4:M8 9999 s.m s.m=some true:=by rw[abd (by omega) (by omega),aa rfl]
 have e5:uI 9999 s.ids s.ids=some true:=by rw[Qg (by omega) (by omega),aa rfl]
 unfold rj;have f0:s.st.1=s.t:=rfl;have f9:s.st.2.2.2.2.2.2.2.2.2.1=s.to:=rfl;have f10:s.st.2.2.2.2.2.2.2.2.2.2=s.ov:=rfl;have q:eL s.ov s.ov=true:=by cases s.ov<;>rfl
 rw[f0,f9,f10,aa rfl,aa rfl,q];refine(congrArg (fun z=>Option.bind z _) e1).trans ?_;refine(congrArg (fun z=>Option.bind z _) e2).trans ?_;refine(congrArg (fun z=>Option.bind z _) e3).trans ?_;refine(congrArg (fun z=>Option.bind z _) e4).trans ?_;refine(congrArg (fun z=>Option.bind z _) e5).trans ?_;rfl
def oD (r:qQ):qH where
 t:=0
 B:=(List.replicate r.1.toNat (0,0,0),List.replicate r.1.toNat (List.replicate r.1.toNat (-1)),List.replicate r.1.toNat (-1),List.replicate r.1.toNat (List.replicate r.1.toNat 0))
 pr:=r.2.1.map Prod.fst
 ho:=List.replicate r.1.toNat (List.replicate r.2.1.length 0)
 m:=[]
 ids:=[]
 to:=0
 ov:=false
structure Ib (r:qQ):Prop where
 ok:wT r
 inv:yF r (oD r)
 new:zk 9999 r=some (oD r).st
 cl:r.2.2.2.1≤20
 ahw:zk 20000 r=some (oD r).st
theorem R2 n:la n [] [] where
 dist:=List.Pairwise.nil
 len:=by decide
 sort:=List.Pairwise.nil
 may:=by simp
 time:=by simp
 were:=by simp
 asc:=List.Pairwise.nil
 pos:=by simp
 idl:=by decide
def r0:qQ:=(3,[(100,1000),(7,0)],12,20,4)
def r1:qQ:=(4,[(100,1000),(7,0)],12,20,100)
def r2:qQ:=(3,[],20,20,4)
def r3:qQ:=(3,[(100,1000),(7,0)],0,6,1)
theorem qWe {pr h}(h1:pr=[100,7])(h2:h=[0,0]):ki [(100,1000),(7,0)] pr h:=by
 subst h1;subst h2;exact⟨by decide,rfl,rfl,by decide,by decide,by decide⟩
theorem R3 {B}(h:kV B.1 B.2.1 B.2.2.1 B.2.2.2=true):qS B:=Ft.1 h
theorem abe:Ib r0:=⟨⟨by decide,by decide,by decide,by decide,by decide,by decide,by decide⟩,
  { tk:=by decide,bk:=R3 (by rfl),n:=rfl,hol:=rfl,
    laid:=fun i hi=>by
      have e:∀i,i<(oD r0).B.1.length→(oD r0).ho.getD i []=[0,0]:=by decide
      exact qWe rfl (e i hi)
    cred:=by decide,most:=by decide,waits:=R2 _,sum:=by decide,tot:=by decide,over:=by decide,none:=nofun},by rfl,by decide,by rfl⟩
theorem abf:Ib r1:=⟨⟨by decide,by decide,by decide,by decide,by decide,by decide,by decide⟩,
  { tk:=by decide,bk:=R3 (by rfl),n:=rfl,hol:=rfl,
    laid:=fun i hi=>by
      have e:∀i,i<(oD r1).B.1.length→(oD r1).ho.getD i []=[0,0]:=by decide
      exact qWe rfl (e i hi)
    cred:=by decide,most:=by decide,waits:=R2 _,sum:=by decide,tot:=by decide,over:=by decide,none:=nofun},by rfl,by decide,by rfl⟩
theorem vYl:Ib r2:=⟨⟨by decide,by decide,by decide,by decide,by decide,by decide,by decide⟩,
  { tk:=by decide,bk:=R3 (by rfl),n:=rfl,hol:=rfl,
    laid:=fun i hi=>by
      have e:∀i,i<(oD r2).B.1.length→(oD r2).ho.getD i []=[]:=by decide
      rw[e i hi];exact⟨by decide,rfl,rfl,by decide,by decide,by decide⟩
    cred:=by decide,most:=by decide,waits:=R2 _,sum:=by decide,tot:=by decide,over:=by decide,none:=nofun},by rfl,by decide,by rfl⟩
theorem abg:Ib r3:=⟨⟨by decide,by decide,by decide,by decide,by decide,by decide,by decide⟩,
  { tk:=by decide,bk:=R3 (by rfl),n:=rfl,hol:=rfl,
    laid:=fun i hi=>by
      have e:∀i,i<(oD r3).B.1.length→(oD r3).ho.getD i []=[0,0]:=by decide
      exact qWe rfl (e i hi)
    cred:=by decide,most:=by decide,waits:=R2 _,sum:=by decide,tot:=by decide,over:=by decide,none:=nofun},by rfl,by decide,by rfl⟩
structure Tk (L:wK) (N:Nat):Prop where
 side:L.1=0∨L.1=1
 gen:1≤L.2.1∧L.2.1≤(N:Int)+1
 rows:0≤L.2.2.1∧L.2.2.1≤(N:Int)
 stale:L.2.2.2=false
theorem Tk.more {L N M}(h:Tk L N)(hN:N≤M):Tk L M:=⟨h.side,⟨h.gen.1,by have:=h.gen.2;omega⟩,⟨h.rows.1,by have:=h.rows.2;omega⟩,h.stale⟩
structure ahN (k:Nat) (s:uH) (b:AC):Prop where
 is:ni k s=some b
 len:b.length≤50000
end Go.Ab.Gi
