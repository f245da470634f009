/- Plain proofs, part 1. -/
import Derived.Test.YtmbkgcillafidaaGreatGiQA
set_option linter.unusedVariables false
set_option linter.unusedSimpArgs false
set_option maxRecDepth 100000
namespace Go.Ab.Gi
open Go.Ab
theorem vTr {k}(hk:200≤k){B}(hb:qX B){m}(hd:qP m)(hm:∀q∈m,yR B.1.length q)(bU:m.length≤64) pa (sa:List (Int×Int)) cu cl pe t (ht:0≤t∧t<1099511627776)(Mv:pe≠0) pr ho ids to:
  ∃(C:BT) (m':List zJ) (ov:Bool) (o:List yD),yv k pa sa cu cl pe t B.1 B.2.1 B.2.2.1 B.2.2.2 pr ho m ids to false=some (t+1,C.1,C.2.1,C.2.2.1,C.2.2.2,pr,ho,m',ids,to,ov,o)∧vQ3 t cl B C m m' ov o∧gb B C∧(ov=false→fZ k C (wM m' (t+1))=none)∧
   ((ov=true∧m'=[]∧o=m.map (wX 22)++je B B.1.length∧C=B)∨∃l d n,o=l.map (wX 21)++vT d∧List.Perm (l++n) m∧List.Perm (d++m') n∧ov=false):=by
 have hZ:=hb.n6;have w:zA (t+1)=t+1:=zP;unfold yv Cy;simp only[w,ak,ae];cases hc:decide (t+1=cl) with
 |true=>
  simp only[ag];rw[vCd hZ hk (by omega)];simp only[ae];refine⟨B,[],true,_,rfl,⟨hb,rfl,List.nil_sublist m,hc.symm,fun _=>rfl,(fun e=>by cases e),(fun p hp=>by cases hp),fun p hp _=>?_,fun q hq=>?_,?_⟩,gb.refl B,(fun e=>by cases e),.inl ⟨rfl,rfl,rfl,rfl⟩⟩
  ·rw[Cx,(G4 (.inr rfl) hd).1 hp,vDn]
  ·rw[Cx,(G4 (.inr rfl) hd).2 hq,vDn]
  ·rw[ay,List.length_map];unfold je;rw[List.length_map,List.length_range];simp;omega
 |false=>
  simp only[ak];rw[vHa hk (by omega)];simp only[ae];have hs:∃x,Hb k pa sa cu cl pe (t+1)=some x:=by
   unfold Hb;cases decide (t+1>0) with
   |false=>exact⟨_,rfl⟩
   |true=>
    cases decide (t+1<cl) with
    |false=>exact⟨_,rfl⟩
    |true=>
     have:decide (pe=0)=false:=ab Mv;rw[this];exact⟨_,rfl⟩
  obtain⟨x,hx⟩:=hs;rw[hx];simp only[ae];have cP:List.Sublist (m.filter (fun p=> !vG (t+1) p)) m:=List.filter_sublist;have dP:=cP.length_le;have tm:qP (m.filter (fun p=> !vG (t+1) p)):=List.Pairwise.sublist cP hd;obtain⟨C,m',d,f1,f2,f3,f4,f5,f6,f7⟩:=aaB hk hb tm (fun q hq=>hm q (cP.subset hq)) (by omega) (t+1) x;have hlen:=f5.length_eq;rw[ay] at hlen;have hSt:u9 k (t+1) B.1 B.2.1 B.2.2.1 B.2.2.2 pr ho (m.filter (fun p=> !vG (t+1) p)) ids to false x=some (t+1,C.1,C.2.1,C.2.2.1,C.2.2.2,pr,ho,m',ids,to,false,vT d):=by
   unfold u9;rw[f1];simp only[ae];rw[yTn (by omega) (by omega)];rfl
  rw[hSt];have ajC:(m.filter (vG (t+1))).length+(m.filter (fun p=> !vG (t+1) p)).length=m.length:=by
   rw[←List.countP_eq_length_filter,←List.countP_eq_length_filter];have:=List.length_eq_countP_add_countP (vG (t+1)) (l:=m);simp only[Bool.not_eq_true,Bool.decide_eq_false] at this;exact this.symm
  have Ev:=G0 d;have hr:zL (((m.filter (vG (t+1))).map (wX 21)).length+(vT d).length) 64=true:=qF (by rw[List.length_map];omega) (by rw[List.length_map];omega);simp only[ae,hr,ag];have hdd:qP (d++m'):=tm.perm f5;have vd:qP d:=(List.pairwise_append.1 hdd).1;have hdm:∀p∈d,p∈m.filter (fun p=> !vG (t+1) p):=by grind
  have nz:∀p∈d,yR B.1.length p:=fun p hp=>hm p (cP.subset (hdm p hp))
  have vf:qP (m.filter (vG (t+1))):=hd.filter _;have yw:∀p∈m,vG (t+1) p=false→∀q∈m.filter (vG (t+1)),q.1≠p.1:=by
   intro p hp hl q hq e;have h1:=List.mem_filter.1 hq;have:=hd.eq_of h1.1 hp e;subst this;rw[hl] at h1;exact absurd h1.2 (by simp)
  refine⟨C,m',false,_,rfl,⟨f2,f3,f4.trans cP,hc.symm,(fun e=>by cases e),fun _ p hp=>?_,fun p hp=>?_,fun p hp hn=>?_,fun q hq=>?_,?_⟩,vCp hk hb tm (fun q hq=>hm q (cP.subset hq)) (by omega) (t+1) x f1,(fun _=>f6),.inr ⟨m.filter (vG (t+1)),d,m.filter (fun p=> !vG (t+1) p),rfl,List.filter_append_perm _ _,f5,rfl⟩⟩
  ·have:=(List.mem_filter.1 (f4.subset hp)).2
   simpa using this
  ·have h1:=List.mem_filter.1 (f4.subset hp);have hl:vG (t+1) p=false:=by simpa using h1.2
   rw[Cx,(G4 (.inl rfl) vf).2 (yw p h1.1 hl),(Ru vd nz).2 (hdd.not_in (l:=d) hp)]
  ·cases hl:vG (t+1) p with
   |true=>
    have h1:p∈m.filter (vG (t+1)):=List.mem_filter.2 ⟨hp,hl⟩;have h2:∀q∈d,q.1≠p.1:=by
     grind
    rw[Cx,(G4 (.inl rfl) vf).1 h1,(Ru vd nz).2 h2]
   |false=>
    have h1:p∈m.filter (fun p=> !vG (t+1) p):=List.mem_filter.2 ⟨hp,by rw[hl];rfl⟩;have h2:p∈d:=by
     rcases List.mem_append.1 (f5.symm.subset h1) with h|h
     ·exact h
     ·exact absurd h hn
    rw[Cx,(G4 (.inl rfl) vf).2 (yw p hp hl),(Ru vd nz).1 h2]
  ·rw[Cx,(G4 (.inl rfl) vf).2 (by grind),(Ru vd nz).2 (fun p hp=>hq p (cP.subset (hdm p hp)))]
  ·rw[ay,List.length_map];simp;omega
abbrev jM:=EQ
abbrev qQ:=Int×List oz×Int×Int×Int
abbrev jN:=Int×Int×Int×Int×Int×Int×Int
abbrev aaH:=Int×List oz×Int×Int×Int×Int×List yG×jM×AC×jM×AC×jM×List zJ×AC×Int×Bool×Int×List yD
structure qI where
 t:Int
 B:BT
 pr:AC
 ho:jM
 m:List zJ
 ids:AC
 to:Int
 ov:Bool
abbrev tn:=Int×List yG×jM×AC×jM×AC×jM×List zJ×AC×Int×Bool
def qI.st (s:qI):tn:=(s.t,s.B.1,s.B.2.1,s.B.2.2.1,s.B.2.2.2,s.pr,s.ho,s.m,s.ids,s.to,s.ov)
def dk (r:qQ)(s:qI)(who:Int)(l:List yD):aaH:=(r.1,r.2.1,r.2.2.1,r.2.2.2.1,r.2.2.2.2,s.t,s.B.1,s.B.2.1,s.B.2.2.1,s.B.2.2.2,s.pr,s.ho,s.m,s.ids,s.to,s.ov,who,l)
structure jC (r:qQ):Prop where
 pa:1≤r.1∧r.1≤6
 n3:r.2.1.length≤3
 price:∀i,i<r.2.1.length→0≤(r.2.1.getD i uV).1∧(r.2.1.getD i uV).1≤1048576
 cut:∀i,i<r.2.1.length→0≤(r.2.1.getD i uV).2∧(r.2.1.getD i uV).2≤10000
 cu:0≤r.2.2.1∧r.2.2.1≤r.2.2.2.1
 cl:1≤r.2.2.2.1∧r.2.2.2.1≤1048576
 pe:1≤r.2.2.2.2∧r.2.2.2.2≤1048576
def nA (m:List zJ):Prop:=List.Pairwise (fun p q=>wE p q=true) m
structure lg (n:Nat) (m:List zJ) (ids:AC):Prop where
 dist:qP m
 len:m.length≤40
 sort:nA m
 may:∀p∈m,yR n p
 time:∀p∈m,0≤p.2.2.2.2.2.1∧p.2.2.2.2.2.1≤p.2.2.2.2.2.2∧p.2.2.2.2.2.2≤1048576
 were:∀p∈m,p.1∈ids
 asc:qy ids
 pos:∀x∈ids,1≤x
 idl:ids.length≤200
structure yJ (r:qQ) (s:qI):Prop where
 tk:0≤s.t∧s.t≤r.2.2.2.1
 bk:qX s.B
 n:(s.B.1.length:Int)=r.1
 hol:s.ho.length=s.B.1.length
 laid:∀i,i<s.B.1.length→kq r.2.1 s.pr (s.ho.getD i [])
 cred:∀i,i<s.B.1.length→(s.B.1.getD i ad).2.1=gH r.2.1 s.pr (s.ho.getD i [])
 most:∀i,i<s.B.1.length→(s.B.1.getD i ad).2.1≤1152921504606846976
 waits:lg s.B.1.length s.m s.ids
 sum:qJ (fun i=>(s.B.1.getD i ad).1) s.B.1.length=s.to
 tot:0≤s.to∧s.to≤1152921504606846976
 over:s.ov=decide (s.t=r.2.2.2.1)
 none:s.ov=true→s.m=[]
theorem nB k a b c:vK k a b c=some (decide (a≥b)&&decide (a≤c)):=by
 unfold vK;grind
theorem nW {α:Type} c (a b:α):(bif c then some a else some b)=some (bif c then a else b):=by grind
def lh (pa t:Int)(p:zJ):Bool:=
 decide (p.2.1≥0)&&decide (p.2.1<pa)&&(decide (p.2.2.1≥0)&&decide (p.2.2.1<pa)&&(decide (p.1≥1)&&(decide (p.2.2.2.1≥1)&&(decide (p.2.2.2.1≤1099511627776)&&(decide (p.2.2.2.2.1≥1)&&(!decide (p.2.1=p.2.2.1)&&(decide (p.2.2.2.2.1≤3)&&(decide (p.2.2.2.2.2.1≥0)&&(decide (p.2.2.2.2.2.1≤p.2.2.2.2.2.2)&&(decide (p.2.2.2.2.2.2≥t)&&decide (p.2.2.2.2.2.2≤1048576)))))))))))
theorem aaI k (r:qQ) w:Mw k r w=some (decide (w≥0)&&decide (w<r.1)):=by
 unfold Mw;grind
theorem aaJ k (r:qQ) t (p:zJ):Rw k r t p=some (lh r.1 t p):=by
 unfold Rw lh;simp[aaI,nW]
def ru (cu cl t c:Int):Int:=bif decide (t≥cl) then 7 else bif decide (c=3)&&decide (t≥cu) then 7 else 0
theorem vG2 k (r:qQ) t c:Cz k r t c=some (ru r.2.2.1 r.2.2.2.1 t c):=by
 unfold Cz ru;grind
def nC (r:qQ)(t:Int)(p:zJ):Int:=bif !lh r.1 t p then 1 else ru r.2.2.1 r.2.2.2.1 t p.2.2.2.2.1
theorem vZp k (r:qQ) t (p:zJ):Hc k r t p=some (nC r t p):=by
 unfold Hc nC;rw[aaJ];simp[vG2];grind
def gd (who:Int)(f:jN):zJ:=(f.2.1,who,f.2.2)
def jg (r:qQ)(s:qI)(who:Int)(f:jN):Int×List zJ×AC:=
 bif !(decide (f.2.2.1≥0)&&decide (f.2.2.1≤r.1-1)) then(1,s.m,s.ids)
 else bif !(decide (f.2.2.2.2.1≥1)&&decide (f.2.2.2.2.1≤3)) then(1,s.m,s.ids)
 else bif !decide (nC r s.t (gd who f)=0) then(nC r s.t (gd who f),s.m,s.ids)
 else bif decide (f.2.1∈s.ids) then(6,s.m,s.ids)
 else bif decide (200≤s.ids.length) then(3,s.m,s.ids)
 else bif (vX s.m f.2.1).isSome then(6,s.m,s.ids)
 else bif decide (40≤s.m.length) then(3,s.m,s.ids)
 else(0,pz s.m (gd who f),qz s.ids f.2.1)
theorem aaK {k}(hk:9999≤k){r}(hr:jC r){s}(h:lg s.B.1.length s.m s.ids) who l f:
  ∃d,Rx k (dk r s who l) f.2=some ((jg r s who f).1,d)∧((jg r s who f).1=0→d=dk r {s with m:=(jg r s who f).2.1,ids:=(jg r s who f).2.2} who l):=by
 have hp:=hr.pa;have hi:=h.idl;have hm:=h.len;have w1:zA (r.1-1)=r.1-1:=zP;have eD:Rx k (dk r s who l) f.2=(vK k f.2.2.1 0 (zA (r.1-1))).bind fun x0=>
  bif !x0 then some (1,dk r s who l)
  else(vK k f.2.2.2.2.1 1 3).bind fun x1=>
  bif !x1 then some (1,dk r s who l)
  else(Hc k r s.t (gd who f)).bind fun x2=>
  bif !(decide (x2=0)) then some (x2,dk r s who l)
  else(Gu k s.ids f.2.1).bind fun x3=>
  bif !(decide (x3.2=0)) then some (x3.2,dk r s who l)
  else(yh k s.m (gd who f)).bind fun x4=>
  bif !(decide (x4.2=0)) then some (x4.2,dk r s who l)
  else some (0,dk r {s with m:=x4.1,ids:=x3.1} who l):=rfl
 rw[eD,nB,nB,vZp,w1,aah (by omega) (by omega) h.asc,qPy (by omega) (by omega) (by unfold yB;omega)];simp only[ae];unfold jg;cases decide (f.2.2.1≥0)&&decide (f.2.2.1≤r.1-1) with
 |false=>exact by simp
 |true=>
 cases decide (f.2.2.2.2.1≥1)&&decide (f.2.2.2.2.1≤3) with
 |false=>exact by simp
 |true=>
 by_cases hc:nC r s.t (gd who f)=0
 ·rw[aa hc];by_cases h1:f.2.1∈s.ids
  ·rw[aa h1];exact by simp
  ·rw[ab h1];by_cases h2:200≤s.ids.length
   ·rw[aa h2];exact by simp
   ·rw[ab h2];have e1:(gd who f).1=f.2.1:=rfl;rw[e1];cases(vX s.m f.2.1).isSome with
    |true=>exact by simp
    |false=>
     by_cases h3:40≤s.m.length
     ·rw[aa h3];exact by simp
     ·rw[ab h3];exact by simp
 ·rw[ab hc];exact by simp
def nD (who kd a:Int):yD:=(who,kd,a,0,0,0,0,0)
theorem yP2 {k l}(hl:l.length≤9999) r s who kd a:yx k (dk r s who l) kd [a]=some (dk r s who (l++[nD who kd a])):=by
 have e:yx k (dk r s who l) kd [a]=bif zL (l.length+1) 64 then some (dk r s who (l++[nD who kd a])) else none:=rfl
 rw[e,qF];rfl
def lj (r:qQ)(s:qI)(who:Int)(f:jN):Int×List zJ×List yD:=match vX s.m f.2.1 with
 |none=>(4,s.m,[])
 |some x=>
  bif !decide ((s.m.getD x pd).2.1=who) then(4,s.m,[])
  else bif decide (f.1=2) then(0,yN s.m x,[nD who 20 f.2.1])
  else bif decide (f.1 = 4) then (bif !(decide (f.2.2.1≥1)&&decide (f.2.2.1≤3)) then(1,s.m,[])
   else bif !decide (ru r.2.2.1 r.2.2.2.1 s.t f.2.2.1=0) then(ru r.2.2.1 r.2.2.2.1 s.t f.2.2.1,s.m,[])
   else(0,pz (yN s.m x) ((s.m.getD x pd).1,(s.m.getD x pd).2.1,(s.m.getD x pd).2.2.1,(s.m.getD x pd).2.2.2.1,f.2.2.1,(s.m.getD x pd).2.2.2.2.2.1,(s.m.getD x pd).2.2.2.2.2.2),[]))
  else bif decide (f.2.2.1=0) then(0,LV (yN s.m x) (s.m.getD x pd),[])
  else bif decide (f.2.2.1=1) then(0,pz (yN s.m x) (s.m.getD x pd),[])
  else(1,s.m,[])
theorem vZo {k}(hk:9999≤k){r s}(h:lg s.B.1.length s.m s.ids) who {l}(hl:l.length≤9999)(f:jN):
  ∃d,CA k (dk r s who l) f=some ((lj r s who f).1,d)∧((lj r s who f).1=0→d=dk r {s with m:=(lj r s who f).2.1} who (l++(lj r s who f).2.2)):=by
 have hm:=h.len;have o6:yB s.m:=by unfold yB;omega
 have eD : CA k (dk r s who l) f = ((py k s.m f.2.1).bind fun x0=>
   bif decide (x0<0) then some (((0,0,0,0,0,0,0):zJ),(4:Int))
   else bif zB x0 s.m.length then (bif !(decide ((s.m.getD x0.toNat (0,0,0,0,0,0,0)).2.1=who)) then some ((0,0,0,0,0,0,0),4)
    else bif zB x0 s.m.length then some ((s.m.getD x0.toNat (0,0,0,0,0,0,0)),0)
    else none)
   else none).bind fun x0=>
  bif !(decide (x0.2=0)) then some (x0.2,dk r s who l)
  else bif decide (f.1 = 2) then ((qx k s.m f.2.1).bind fun x1=>
   (yx k (dk r {s with m:=x1.1} who l) 20 [f.2.1]).bind fun x2=>
   some (x1.2.2.2.2.2.2.2.2,x2))
  else bif decide (f.1 = 4) then ((vK k f.2.2.1 1 3).bind fun x3=>
   bif !x3 then some (1,dk r s who l)
   else(Cz k r s.t f.2.2.1).bind fun x4=>
   bif !(decide (x4=0)) then some (x4,dk r s who l)
   else(Gp k s.m f.2.1 f.2.2.1).bind fun x5=>
   some (x5.2,dk r {s with m:=x5.1} who l))
  else bif decide (f.2.2.1 = 0) then ((Gs k s.m f.2.1).bind fun x6=>
   some (x6.2,dk r {s with m:=x6.1} who l))
  else bif decide (f.2.2.1 = 1) then ((Gq k s.m f.2.1).bind fun x7=>
   some (x7.2,dk r {s with m:=x7.1} who l))
  else some (1,dk r s who l):=rfl
 rw[eD,Gg (by omega) (by omega)];unfold lj fi;cases hx:vX s.m f.2.1 with
 |none=>exact by simp
 |some x=>
  have du:=kZ hx;have e1:decide ((x:Int)<0)=false:=by simp
  simp only[ae,e1,ak,qB,aa du.1,ag,ao];by_cases hw:(s.m.getD x (0,0,0,0,0,0,0)).2.1=who
  ·have xE:(s.m.getD x pd).2.1=who:=hw;rw[aa hw];by_cases h2:f.1=2
   ·rw[aa h2];simp only[ag,Cm (show s.m.length<k by omega) o6,ae,yP2 hl];unfold iG;rw[hx];exact by simp
   ·rw[ab h2];simp only[ak];by_cases h4:f.1=4
    ·rw[aa h4];simp only[ag,nB,ae,vG2,vUr (show 3≤k by omega) (by grind) o6 h.dist hm hx];cases decide (f.2.2.1≥1)&&decide (f.2.2.1≤3) with
     |false=>exact by simp
     |true=>
      simp only[aA,ak];by_cases hc:ru r.2.2.1 r.2.2.2.1 s.t f.2.2.1=0
      all_goals simp_all
    ·rw[ab h4];simp only[ak];by_cases h0:f.2.2.1=0
     ·rw[aa h0];simp only[ag,aae (show 3≤k by omega) (by grind) o6 hx,ae];exact by simp
     ·rw[ab h0];simp only[ak];by_cases h1:f.2.2.1=1
      ·rw[aa h1];simp only[ag,vTe (show 3≤k by omega) (by grind) o6 h.dist hm hx,ae];exact by simp
      ·rw[ab h1];exact by simp
  ·have xE:¬(s.m.getD x pd).2.1=who:=hw;rw[ab hw];exact by simp
def qYu (s:qI)(a:List yG)(b:jM)(m:AC):qI:={s with B:=(a,b,m,s.B.2.2.2)}
def lk (r:qQ)(s:qI)(who:Int)(f:jN):Int×qI:=
 bif decide (f.1 = 5) then (bif !((decide (f.2.1≥0)&&decide (f.2.1≤r.1-1))&& !decide (f.2.1=who)) then(1,s)
  else bif !(decide (f.2.2.1≥-1)&&decide (f.2.2.1≤1152921504606846976)) then(1,s)
  else(0,qYu s s.B.1 (s.B.2.1.set who.toNat ((s.B.2.1.getD who.toNat []).set f.2.1.toNat f.2.2.1)) s.B.2.2.1))
 else bif decide (f.1 = 6) then (bif !(decide (f.2.1≥-1)&&decide (f.2.1≤1152921504606846976)) then(1,s)
  else(0,qYu s s.B.1 s.B.2.1 (s.B.2.2.1.set who.toNat f.2.1)))
 else bif !(decide (f.2.1≥0)&&decide (f.2.1≤1152921504606846976)) then(1,s)
 else(0,qYu s (s.B.1.set who.toNat ((s.B.1.getD who.toNat ad).1,(s.B.1.getD who.toNat ad).2.1,f.2.1)) s.B.2.1 s.B.2.2.1)
theorem aaL {k}(hk:9999≤k){r}(hr:jC r){s}(hb:qX s.B)(hn:(s.B.1.length:Int)=r.1){who}(hw:0≤who∧who<r.1) l (f:jN):
    ∃d,CB k (dk r s who l) f=some ((lk r s who f).1,d)∧((lk r s who f).1=0→d=dk r (lk r s who f).2 who l):=by
  have hp:=hr.pa;have w1:zA (r.1-1)=r.1-1:=zP;obtain⟨w,rfl⟩:=Int.eq_ofNat_of_zero_le hw.1;have gI:w<s.B.1.length:=by omega
  have eD:CB k (dk r s w l) f=(gG k s.B.1 s.B.2.1 s.B.2.2.1 s.B.2.2.2).bind fun x0=>
    bif decide (f.1 = 5) then (((vK k f.2.1 0 (zA (r.1-1))).bind fun x0=>bif x0 then some (!(decide (f.2.1=(w:Int)))) else some false).bind fun x1=>
      bif !x1 then some (1,dk r s w l)
      else(vK k f.2.2.1 (-1) 1152921504606846976).bind fun x2=>
      bif !x2 then some (1,dk r s w l)
      else bif zB (w : Int) x0.2.1.length then (bif zB f.2.1 (x0.2.1.getD (w:Int).toNat []).length then
        some (0,dk r {s with B:=(x0.1,(x0.2.1.set (w:Int).toNat ((x0.2.1.getD (w:Int).toNat []).set f.2.1.toNat f.2.2.1)),x0.2.2.1,x0.2.2.2)} w l)
       else none)
      else none)
    else bif decide (f.1 = 6) then ((vK k f.2.1 (-1) 1152921504606846976).bind fun x3=>
      bif !x3 then some (1,dk r s w l)
      else bif zB (w:Int) x0.2.2.1.length then some (0,dk r {s with B:=(x0.1,x0.2.1,(x0.2.2.1.set (w:Int).toNat f.2.1),x0.2.2.2)} w l)
      else none)
    else(vK k f.2.1 0 1152921504606846976).bind fun x4=>
    bif !x4 then some (1,dk r s w l)
    else bif zB (w:Int) x0.1.length then some (0,dk r {s with B:=((x0.1.set (w:Int).toNat ((x0.1.getD (w:Int).toNat (0,0,0)).1,(x0.1.getD (w:Int).toNat (0,0,0)).2.1,f.2.1)),x0.2.1,x0.2.2.1,x0.2.2.2)} w l)
    else none:=rfl
  rw[eD,Le (by omega) hb.toSized,w1];simp only[ae,nB,qB,ao];unfold lk;rw[ao];by_cases h5:f.1=5
  · rw[aa h5];simp only[ag];cases hc:decide (f.2.1≥0)&&decide (f.2.1≤r.1-1) with
    |false=>exact by simp
    |true=>
      simp  at hc;cases decide (f.2.1=(w:Int)) with
      |true=>exact by simp
      |false=>
        cases decide (f.2.2.1≥-1)&&decide (f.2.2.1≤1152921504606846976) with
        |false=>exact by simp
        |true=>
          have b1:decide (w<s.B.2.1.length)=true:=aa (by rw[hb.bl];exact gI);have b2:zB f.2.1 (s.B.2.1.getD w []).length=true:=wT hc.1 (by rw[hb.br w gI];omega);simp only[ag,ae,bO,aA,ak,b1,b2,Bool.and_self];exact⟨_,rfl,fun _=>rfl⟩
  · rw[ab h5];simp only[ak];by_cases h6:f.1=6
    · rw[aa h6];cases decide (f.2.1≥-1)&&decide (f.2.1≤1152921504606846976) with
      |false=>exact by simp
      |true=>
        have b1:decide (w<s.B.2.2.1.length)=true:=aa (by rw[hb.ml];exact gI);simp only[ag,aA,ak,b1];exact⟨_,rfl,fun _=>rfl⟩
    · rw[ab h6];cases decide (f.2.1≥0)&&decide (f.2.1≤1152921504606846976) with
      |false=>exact by simp
      |true=>
        have b1:decide (w<s.B.1.length)=true:=by grind
        simp only[ag,aA,ak,b1];exact⟨_,rfl,fun _=>rfl⟩
def Hd (s:qI)(w:Nat)(h:AC)(n:Int):Int×qI:=
 bif decide (n>1152921504606846976) then(8,s)
 else bif decide (n<(s.B.1.getD w ad).2.1)&&decide ((s.B.1.getD w ad).1+n<0) then(9,s)
 else(0,{s with B:=(s.B.1.set w ((s.B.1.getD w ad).1,n,(s.B.1.getD w ad).2.2),s.B.2.1,s.B.2.2.1,s.B.2.2.2),ho:=s.ho.set w h})
def ll (r:qQ)(s:qI)(who a many:Int):Int×qI:=
 bif !(decide (a≥0)&&decide (a≤(r.2.1.length:Int)-1)) then(1,s)
 else bif !(decide (many≥0)&&decide (many≤1099511627776)) then(1,s)
 else Hd s who.toNat ((s.ho.getD who.toNat []).set a.toNat many) (gH r.2.1 s.pr ((s.ho.getD who.toNat []).set a.toNat many))
theorem kq.set {sa pr h}(L:kq sa pr h){i}(hi:i<sa.length){v}(hv:0≤v∧v≤1099511627776):kq sa pr (h.set i v):=
 ⟨L.n3,L.pl,by rw[List.length_set];exact L.hl,L.cut,L.price,fun j hj=>by
  rw[fF];split
  ·exact hv
  ·exact L.hold j hj⟩
theorem kq.setP {sa pr h}(L:kq sa pr h){i}(hi:i<sa.length){v}(hv:0≤v∧v≤1048576):kq sa (pr.set i v) h:=
 ⟨L.n3,by rw[List.length_set];exact L.pl,L.hl,L.cut,fun j hj=>by
  rw[fF];split
  ·exact hv
  ·exact L.price j hj,L.hold⟩
theorem vXp {k}{l:jM}(hl:l.length≤9999):He k l=some l:=by
 unfold He;rw[qF];rfl
theorem aaM {k}(hk:9999≤k){r}(hr:jC r){s}(h:yJ r s){who}(hw:0≤who∧who<r.1) l a many:
    ∃d,Ry k (dk r s who l) a many=some ((ll r s who a many).1,d)∧((ll r s who a many).1=0→d=dk r (ll r s who a many).2 who l):=by
  have hp:=hr.pa;have h3:=hr.n3;have hn:=h.n;have hZ:=h.bk.n6;have hol:=h.hol;have w1:zA ((r.2.1.length:Int)-1)=(r.2.1.length:Int)-1:=zP;obtain⟨w,rfl⟩:=Int.eq_ofNat_of_zero_le hw.1;have gI:w<s.B.1.length:=by omega
  have eD:Ry k (dk r s w l) a many=((vK k a 0 (zA ((r.2.1.length:Int)-1))).bind fun x0=>some x0).bind fun x0=>
    bif !x0 then some (1,dk r s w l)
    else(vK k many 0 1099511627776).bind fun x1=>
    bif !x1 then some (1,dk r s w l)
    else(He k s.ho).bind fun x2=>
    bif zB (w : Int) x2.length then ((rj k (x2.getD (w:Int).toNat []) a many).bind fun x3=>
      bif zB (w:Int) x2.length then(
       bif zB (w : Int) (x2.set (w : Int).toNat x3).length then ((nv k r.2.1 s.pr ((x2.set (w:Int).toNat x3).getD (w:Int).toNat [])).bind fun x4=>
        bif zB (w : Int) s.B.1.length then (bif !x4.2 then some (8,dk r s w l)
         else bif decide (x4.1>1152921504606846976) then some (8,dk r s w l)
         else bif decide (x4.1 < (s.B.1.getD (w : Int).toNat (0, 0, 0)).2.1) then (bif decide ((zA ((s.B.1.getD (w:Int).toNat (0,0,0)).1+x4.1))<0) then some (9,dk r s w l)
          else(gG k s.B.1 s.B.2.1 s.B.2.2.1 s.B.2.2.2).bind fun x5=>
          bif zB (w:Int) x5.1.length then
           some (0,dk r {s with B:=((x5.1.set (w:Int).toNat ((x5.1.getD (w:Int).toNat (0,0,0)).1,x4.1,(x5.1.getD (w:Int).toNat (0,0,0)).2.2)),x5.2.1,x5.2.2.1,x5.2.2.2),ho:=x2.set (w:Int).toNat x3} w l)
          else none)
         else(gG k s.B.1 s.B.2.1 s.B.2.2.1 s.B.2.2.2).bind fun x6=>
         bif zB (w:Int) x6.1.length then
          some (0,dk r {s with B:=((x6.1.set (w:Int).toNat ((x6.1.getD (w:Int).toNat (0,0,0)).1,x4.1,(x6.1.getD (w:Int).toNat (0,0,0)).2.2)),x6.2.1,x6.2.2.1,x6.2.2.2),ho:=x2.set (w:Int).toNat x3} w l)
         else none)
        else none)
       else none)
      else none)
    else none:=rfl
  rw[eD,w1,nB,nB,Le (by omega) h.bk.toSized,vXp (by omega)];simp only[ae,qB,ao];unfold ll;simp only[ao];cases hc:decide (a≥0)&&decide (a≤(r.2.1.length:Int)-1) with
  |false=>exact by simp
  |true=>
  simp only[aR,ba] at hc;cases hm:decide (many≥0)&&decide (many≤1099511627776) with
  |false=>exact by simp
  |true=>
  obtain⟨i,rfl⟩:=Int.eq_ofNat_of_zero_le hc.1;have hi:i<r.2.1.length:=by omega
  have L:=h.laid w gI;have L2:=L.set hi (v:=many) (by grind);have b1:decide (w<s.ho.length)=true:=by grind
  have b2:decide (w<s.B.1.length)=true:=aa gI;have mG:rj k (s.ho.getD w []) (i:Int) many=some ((s.ho.getD w []).set i many):=by
    have:=yNm (k:=k) (l:=s.ho.getD w []) (by rw[L.hl];omega) (i:=(i:Int)) (by omega) (by rw[L.hl];omega) many;simp_all
  have Mx:(s.ho.set w ((s.ho.getD w []).set i many)).getD w []=(s.ho.getD w []).set i many:=by
    rw[fF,if_pos ⟨rfl,by omega⟩]
  have hv:=yDz (k:=k) L2 (by omega);have hb:=h.bk.nums.bal w gI;have Br:=GB L2;simp only[aA,ak,b1,ag,mG,ae,List.length_set,Mx,hv,b2,ao];clear hv L2 Mx eD;generalize gH r.2.1 s.pr ((s.ho.getD w []).set i many)=n at Br⊢;unfold Hd;cases h8':decide (n>1152921504606846976) with
  |true=>exact by simp
  |false=>
    have h8:¬n>1152921504606846976:=fW h8';have w2:zA ((s.B.1.getD w (0,0,0)).1+n)=(s.B.1.getD w (0,0,0)).1+n:=zP (by have:=hb.1;simp only[ad] at this;omega) (by have:=hb.2;simp only[ad] at this;omega);simp only[w2,ak];cases decide (n<(s.B.1.getD w (0,0,0)).2.1) with
    |false=>exact by simp
    |true=>
      cases decide ((s.B.1.getD w (0,0,0)).1+n<0) with
      |true=>exact by simp
      |false=>exact by simp
def jX (a:yG)(n:Int):yG×Int:=bif fH (a.1+n,a.2.1,a.2.2) then((a.1+n,a.2.1,a.2.2),0) else(a,8)
theorem yTi {k}{a:yG}(ha:-4611686018427387904<a.1∧a.1<4611686018427387904){n}(hn:-1099511627776≤n∧n≤1099511627776):My k a n=some (jX a n):=by
 have ajN:Rz k a.1 n=some (a.1+n,true):=by
  unfold Rz;have w1:n>0→zA (9223372036854775807-n)=9223372036854775807-n:=fun h=>zP
  have w2:n<0→zA (-9223372036854775808-n)= -9223372036854775808-n:=fun h=>zP
  have w3:zA (a.1+n)=a.1+n:=zP;grind
 unfold My jX;simp[yO9];grind
abbrev vg:=Int×jN
theorem vZm k kd:∃n,uJ k kd=some n∧-1≤n∧n≤6:=by
 have c:∀(b:Bool) (x y:Option Int),(∃n,x=some n∧-1≤n∧n≤6)→(∃n,y=some n∧-1≤n∧n≤6)→∃n,(bif b then x else y)=some n∧-1≤n∧n≤6:=by
  simp_all
 iterate 23 (refine c _ _ _ (by simp) ?_)
 simp
theorem yYc {k}{s:AC}(hs:s.length≤6):∀n i,s.length<i+n→i≤s.length→∃x,mH k n s (s.length:Int) (i:Int)=some x
 |0,i,h,g=>by omega
 |n+1,i,h,g=>by
  show∃x,lM k (mH k n) s (s.length:Int) (i:Int)=some x;unfold lM;by_cases hi:i<s.length
  ·simp only[qZ,aa hi,qB,ao];cases decide (s.getD i 0=0) with
   |false=>simp
   |true=>
    rw[qD hi (by omega)];exact yYc hs n (i+1) (by omega) hi
  ·simp only[qZ,ab hi];simp
theorem qTe {k}(hk:10≤k)(f:jN):∃b,lN k f=some b:=by
 unfold lN;obtain⟨n,h1,h2,h3⟩:=vZm k f.1;rw[h1];simp;by_cases h0:n<0
 ·simp_all
 ·rw[ab h0,aa (by grind),aa h3];have hl:(qS [f.2.1,f.2.2.1,f.2.2.2.1,f.2.2.2.2.1,f.2.2.2.2.2.1,f.2.2.2.2.2.2] n.toNat (6-n.toNat)).length≤6:=by
   unfold qS;simp
  obtain⟨x,hx⟩:=yYc (k:=k) hl k 0 (by omega) (by simp);rw[show((0:Nat):Int)=0 from rfl] at hx;rw[hx];cases x<;>exact by simp
theorem yCa k a:RA k a=some (decide (a≥10)&&decide (a≤14)):=by
 unfold RA;grind
theorem yCw k a:Mz k a=some (decide (a≥1)&&decide (a≤14)):=by
 unfold Mz;grind
def yU8 (A B C D E F G b o:Bool):Int:=
 bif !(D&&C) then 5 else bif !b then 5 else bif B&&C then(bif !E then 5 else bif o&& !G then 7 else 0) else bif !(A&&F) then 5 else bif o&& !G then 7 else 0
theorem aaN:∀{A B C D E F G b o},yU8 A B C D E F G b o=0→(D&&C&&((B&&E)||(!B&&A&&F))&&(!o||G))=true:=by
 intro A B C D E F G b o h;cases A<;>cases B<;>cases C<;>cases D<;>cases E<;>cases F<;>cases G<;>cases b<;>cases o<;>first|rfl|exact absurd h (by decide)
theorem vR0 {k}(hk:10≤k)(r:qQ)(s:qI)(c:vg):∃b,yy k r s.st c=some (yU8 (decide (c.1≥0)) (decide (c.2.1≥10)) (decide (c.2.1≤14)) (decide (c.2.1≥1)) (decide (c.1= -1)) (decide (c.1<r.1)) (decide (c.2.1=9)) b s.ov):=by
 unfold yy;rw[yCa,yCw];obtain⟨b,hb⟩:=qTe hk c.2;rw[hb];have eo:s.st.2.2.2.2.2.2.2.2.2.2=s.ov:=rfl;rw[eo];refine⟨b,?_⟩;generalize decide (c.1≥0)=A;generalize decide (c.2.1≥10)=B;generalize decide (c.2.1≤14)=C;generalize decide (c.2.1≥1)=D;generalize decide (c.1= -1)=E;generalize decide (c.1<r.1)=F;generalize decide (c.2.1=9)=G;generalize s.ov=o;cases A<;>cases B<;>cases C<;>cases D<;>cases E<;>cases F<;>cases G<;>cases b<;>cases o<;>rfl
theorem aaO {k}(hk:10≤k)(r:qQ)(s:qI)(c:vg):∃e,yy k r s.st c=some e∧
  (e=0→((10≤c.2.1∧c.2.1≤14∧c.1= -1)∨(1≤c.2.1∧c.2.1≤9∧0≤c.1∧c.1<r.1))∧(s.ov=true→c.2.1=9)):=by
 obtain⟨b,hb⟩:=vR0 hk r s c;refine⟨_,hb,fun e=>?_⟩;have:=aaN e;grind
def jV (f:jN):AC:=[f.2.1,f.2.2.1,f.2.2.2.1,f.2.2.2.2.1,f.2.2.2.2.2.1,f.2.2.2.2.2.2]
theorem vG6 {k:Nat}{s:AC}:∀(n i:Nat),s.length≤6→mH k n s (s.length:Int) (i:Int)=some (.inl ())→∀j,i≤j→j<s.length→s.getD j 0=0
 |0,i,_,h,_,_,_=>by cases h
 |n+1,i,h6,h,j,h1,h2=>by
  have h:lM k (mH k n) s (s.length:Int) (i:Int)=some (.inl ()):=h;unfold lM at h;have hi:i<s.length:=by omega
  rw[aa (show(i:Int)<s.length by omega),qB,aa hi,ao] at h;simp only[ag] at h;cases hz:decide (s.getD i 0=0) with
  |false=>rw[hz] at h;cases h
  |true=>
   rw[hz] at h;simp only[aA,ak] at h;rw[qD hi (by omega)] at h;by_cases e:j=i
   ·subst e;exact uH hz
   ·exact vG6 n (i+1) h6 h j (by omega) h2
theorem vKb {k:Nat}{f:jN}(h:lN k f=some true):0≤yO f.1∧∀j,(yO f.1).toNat≤j→j<6→(jV f).getD j 0=0:=by
 unfold lN at h;rw[KR,ae] at h;have hm:=E1 f.1;by_cases h0:yO f.1<0
 ·rw[aa h0] at h;cases h
 ·rw[ab h0,aa (show(0:Int)≤yO f.1 by omega),aa hm] at h;simp only[ak,Bool.and_self,ag] at h;refine⟨by omega,fun j h1 h2=>?_⟩;have hs:qS [f.2.1,f.2.2.1,f.2.2.2.1,f.2.2.2.2.1,f.2.2.2.2.2.1,f.2.2.2.2.2.2] (yO f.1).toNat (6-(yO f.1).toNat)=(jV f).drop (yO f.1).toNat:=by
   unfold qS;show List.take _ ((jV f).drop _)=_;exact List.take_of_length_le (by rw[List.length_drop];show 6-_≤_;omega)
  rw[hs] at h;have hl:((jV f).drop (yO f.1).toNat).length=6-(yO f.1).toNat:=by rw[List.length_drop];rfl
  cases hz:mH k k ((jV f).drop (yO f.1).toNat) (((jV f).drop (yO f.1).toNat).length:Int) 0 with
  |none=>rw[hz] at h;cases h
  |some z=>
   rw[hz] at h;cases z with
   |inr b=>
    exfalso;have key:∀(n i:Nat) (b:Bool),mH k n ((jV f).drop (yO f.1).toNat) (((jV f).drop (yO f.1).toNat).length:Int) (i:Int)=some (.inr b)→i≤6→b=false:=by
     intro n
     induction n with
     |zero=>intro i b h;cases h
     |succ n ih=>
      intro i b h h6;have h:lM k (mH k n) _ _ _=some (.inr b):=h;unfold lM at h;by_cases hi:i<((jV f).drop (yO f.1).toNat).length
      ·rw[aa,qB,aa hi] at h;simp only[ag] at h;cases hz:decide (((jV f).drop (yO f.1).toNat).getD (i:Int).toNat 0=0) with
       |false=>rw[hz] at h;cases h;rfl
       |true=>
        rw[hz] at h;simp only[aA,ak] at h;rw[qD hi (by omega)] at h;exact ih (i+1) b h (by omega)
      ·rw[ab] at h;cases h
    have:=key k 0 b hz (by omega);subst this;cases h
   |inl u=>
    have:=vG6 (k:=k) k 0 (by omega) hz (j-(yO f.1).toNat) (Nat.zero_le _) (by omega);rw[bT,List.getElem?_drop] at this;rw[bT,←this]
    congr 2
    omega
theorem aaP {k:Nat}(hk:10≤k){f:jN}(h0:0≤yO f.1)(hz:∀j,(yO f.1).toNat≤j→j<6→(jV f).getD j 0=0):lN k f=some true:=by
 have hm:=E1 f.1;unfold lN;rw[KR,ae,ab,aa (show(0:Int)≤yO f.1 by omega),aa hm];simp only[ak,Bool.and_self,ag];have hs:qS [f.2.1,f.2.2.1,f.2.2.2.1,f.2.2.2.2.1,f.2.2.2.2.2.1,f.2.2.2.2.2.2] (yO f.1).toNat (6-(yO f.1).toNat)=(jV f).drop (yO f.1).toNat:=by
  unfold qS;show List.take _ ((jV f).drop _)=_;exact List.take_of_length_le (by rw[List.length_drop];show 6-_≤_;omega)
 rw[hs];have hl:((jV f).drop (yO f.1).toNat).length=6-(yO f.1).toNat:=by rw[List.length_drop];rfl
 have hg:∀i,i<((jV f).drop (yO f.1).toNat).length→((jV f).drop (yO f.1).toNat).getD i 0=0:=fun i hi=>by
  have:=hz ((yO f.1).toNat+i) (by omega) (by omega);rw[bT] at this;rw[bT,List.getElem?_drop];exact this
 generalize (jV f).drop (yO f.1).toNat=s at hl hg⊢;have := eQ (L := fun n i => mH k n s (s.length : Int) i) (N := s.length) (fun _ => true) (.inl ()) (.inr false) (fun n=>by
  show lM k _ s (s.length:Int) (s.length:Int)=_;unfold lM;rw[ab (Int.lt_irrefl _)];rfl) (fun n i hi=>by
  show lM k _ s (s.length:Int) (i:Int)=_;unfold lM;rw[aa (show(i:Int)<s.length by omega),qB,aa hi,ao,hg i hi,qD hi (by omega)];rfl) (n:=k) (by omega)
 rw[show zY (fun _=>true) s.length 0=true from wJ.2 fun _ _=>rfl] at this;exact(congrArg (fun z=>Option.bind z _) this).trans rfl
theorem vBf:∀(n:Nat) (b:AC),Qi (fe n b)
 |0,_=>fun x hx=>absurd hx List.not_mem_nil
 |n+1,b=>fun x hx=>by
  have hx:x∈iD (b.take 8)::fe n (b.drop 8):=hx;rcases List.mem_cons.1 hx with rfl|hx
  ·unfold iD;exact⟨YL _,YM _⟩
  ·exact vBf n _ x hx
theorem aaQ {k:Nat}(hk:10≤k){b:AC}(h:(kV b).2=0):lN k (kV b).1=some true∧Qi (jV (kV b).1):=by
 unfold kV at h⊢;by_cases h1:b=[]
 ·rw[if_pos h1] at h;cases h
 ·rw[if_neg h1] at h⊢;by_cases h2:(fG (b.drop 1)).2≠0∨((fG (b.drop 1)).1.length:Int)≠yO (zA (b.getD 0 0))
  ·rw[if_pos h2] at h;cases h
  ·rw[if_neg h2];have h3:((fG (b.drop 1)).1.length:Int)=yO (zA (b.getD 0 0)):=Decidable.byContradiction fun e=>h2 (.inr e)
   have h4:Qi (fG (b.drop 1)).1:=by
    unfold fG;split
    ·exact vBf _ _
    ·exact fun x hx=>absurd hx List.not_mem_nil
   generalize (fG (b.drop 1)).1=l at h3 h4;have hg:∀j,j<6→(jV (zA (b.getD 0 0),l.getD 0 0,l.getD 1 0,l.getD 2 0,l.getD 3 0,l.getD 4 0,l.getD 5 0)).getD j 0=l.getD j 0:=fun j hj=>by
    have:j=0∨j=1∨j=2∨j=3∨j=4∨j=5:=by omega
    rcases this with rfl|rfl|rfl|rfl|rfl|rfl<;>rfl
   refine⟨aaP hk (by show 0≤yO (zA (b.getD 0 0));omega) (fun j h5 h6=>?_),fun x hx=>?_⟩
   ·have h5:(yO (zA (b.getD 0 0))).toNat≤j:=h5;rw[hg j h6,bT,List.getElem?_eq_none (by omega)];rfl
   ·obtain⟨j,hj,rfl⟩:=List.mem_iff_getElem.1 hx;have hj6:j<6:=hj;have:=hg j hj6;rw[bT,List.getElem?_eq_getElem hj] at this;have:(jV (zA (b.getD 0 0),l.getD 0 0,l.getD 1 0,l.getD 2 0,l.getD 3 0,l.getD 4 0,l.getD 5 0))[j]=l.getD j 0:=this;show-9223372036854775808≤(jV (zA (b.getD 0 0),l.getD 0 0,l.getD 1 0,l.getD 2 0,l.getD 3 0,l.getD 4 0,l.getD 5 0))[j]∧(jV (zA (b.getD 0 0),l.getD 0 0,l.getD 1 0,l.getD 2 0,l.getD 3 0,l.getD 4 0,l.getD 5 0))[j]<9223372036854775808;rw[this];by_cases sw:j<l.length
    ·rw[bT,List.getElem?_eq_getElem sw];exact h4 _ (List.getElem_mem sw)
    ·rw[bT,List.getElem?_eq_none (by omega)];show(-9223372036854775808:Int)≤0∧(0:Int)<9223372036854775808;omega
theorem yLo x:yM .i64 x 4294967295=x%4294967296:=yVo 32 (by omega) x
theorem yWi x:shr .i64 x 32=x/4294967296:=by
 show x.fdiv (2^(min 32 64))=_;grind
theorem aaR x:shl .i64 x 32=zA (x*4294967296):=rfl
theorem aaS (x y:Int):yI false x y=max x y:=by
 unfold yI;by_cases h:y>x
 ·rw[aa h];show y=_;omega
 ·rw[ab h];show x=_;omega
theorem aaT (x y:Int):yI true x y=min x y:=by
 unfold yI;by_cases h:y<x
 ·rw[aa h];show y=_;omega
 ·rw[ab h];show x=_;omega
section
variable {k:Nat} {ro sx sy cA cK op:Int} {x y b:AC} {ar:Bool}
theorem aaU (hx:0≤sx∧sx≤(x.length:Int))(hy:0≤sy∧sy≤(y.length:Int))(lx:x.length≤1000000)(ly:y.length≤1000000)(hk:cK<9223372036854775808):
  fJ k (ro,x,sx,y,sy,cA,cK,ar,false,op)=some (false,(ro,x,sx,y,sy,cA,cK,ar,false,zA (op+1)))∨
  (ar=true∧∃a c:Nat,sx≤(a:Int)∧a≤x.length∧sy≤(c:Int)∧c≤y.length∧fJ k (ro,x,sx,y,sy,cA,cK,ar,false,op)=some (true,(ro,x.take a,(a:Int),y.take c,(c:Int),cA,cK,ar,true,op))):=by
 cases ar with
 |false=>exact .inl rfl
 |true=>
 by_cases h:op<cA
 ·left;unfold fJ;dsimp only;rw[aA,ak,aa h];rfl
 ·right;refine⟨rfl,?_⟩;obtain⟨a,ha⟩:∃a:Nat,sx+min (max cK 0) ((x.length:Int)-sx)=(a:Int):=⟨(sx+min (max cK 0) ((x.length:Int)-sx)).toNat,by omega⟩;obtain⟨c,hc⟩:∃c:Nat,sy+min (max cK 0-min (max cK 0) ((x.length:Int)-sx)) ((y.length:Int)-sy)=(c:Int):=⟨(sy+min (max cK 0-min (max cK 0) ((x.length:Int)-sx)) ((y.length:Int)-sy)).toNat,by omega⟩;refine⟨a,c,by omega,by omega,by omega,by omega,?_⟩;have w1:zA ((x.length:Int)-sx)=(x.length:Int)-sx:=zP;have w2:zA ((y.length:Int)-sy)=(y.length:Int)-sy:=zP;have w3:zA (max cK 0-min (max cK 0) ((x.length:Int)-sx))=max cK 0-min (max cK 0) ((x.length:Int)-sx):=zP;have w4:zA (sx+min (max cK 0) ((x.length:Int)-sx))=(a:Int):=by rw[ha];exact zP
  have w5:zA (sy+min (max cK 0-min (max cK 0) ((x.length:Int)-sx)) ((y.length:Int)-sy))=(c:Int):=by rw[hc];exact zP
  unfold fJ;dsimp only;simp only[aaS,aaT,w1,w2,w3,w4,w5];rw[aA,ak,ab h,ak,aa (show(0:Int)≤(a:Int) by omega),aa (show(a:Int)≤(x.length:Int) by omega),aa (show(0:Int)≤(c:Int) by omega),aa (show(c:Int)≤(y.length:Int) by omega)];simp only[Bool.and_self,ag,ao,Nat.sub_zero]
end
structure aaV (D:vS):Prop where
 x:D.2.2.1=(D.2.1.length:Int)
 y:D.2.2.2.2.1=(D.2.2.2.1.length:Int)
 room:0≤D.1∧D.1≤200000
 lx:(D.2.1.length:Int)≤D.1
 ly:(D.2.2.2.1.length:Int)≤D.1
 ck:D.2.2.2.2.2.2.1<9223372036854775808
def wY (D:vS):Bool:=D.2.2.2.2.2.2.2.2.1
def yQ5 (D:vS):Bool:=D.2.2.2.2.2.2.2.1
structure ajO (D D':vS) (i:Int) (c:AC) (dn:Bool):Prop where
 clean:aaV D'
 room:D'.1=D.1
 it:kX D' i=c
 oth:kX D' (1-i)=kX D (1-i)
 dn:wY D'=dn
 ar:yQ5 D'=yQ5 D
structure Ka (k:Nat) (l:AC):Prop where
 n:l.length<k
 m:l.length≤100000
 w:Qi l
theorem yYk s:yK (jb s)=fY [s.1,s.2.2.2.2.2.2.2.2.2.1,bif s.2.2.2.2.2.2.2.2.2.2 then 1 else 0,(s.2.1.length:Int),(s.2.2.1.length:Int),(s.2.2.2.1.length:Int),(s.2.2.2.2.1.length:Int),(s.2.2.2.2.2.2.1.length:Int),(s.2.2.2.2.2.2.2.1.length:Int)]++
  (yK (s.2.1.map lK)++(yK s.2.2.1++(fY s.2.2.2.1++(yK s.2.2.2.2.1++(fY s.2.2.2.2.2.1++(yK s.2.2.2.2.2.2.1++(yK (s.2.2.2.2.2.2.2.1.map lL)++(fY s.2.2.2.2.2.2.2.2.1++[])))))))):=by
 simp[jb,yK]
theorem vS8 n (i:Nat)(hi:i≤7):IntKind.wrap .u8 (shr .u64 (IntKind.wrap .u64 n) (IntKind.wrap .u64 (8*(i:Int))))=vP n i:=by
 rw[vSn n i hi];have e:∀x:Int,∀j:Nat,j≤56→shr .u64 x (j:Int)=x/2^j:=fun x j hj=>by
  unfold shr;rw[ao,Nat.min_eq_left (show j≤IntKind.bits .u64 from Nat.le_trans hj (by decide)),Int.fdiv_eq_ediv_of_nonneg _ (by grind)]
 have w:IntKind.wrap .u64 (8*(i:Int))=((8*i:Nat):Int):=by
  rw[YW];omega
 rw[w,e _ _ (by omega),YW,KU];have:i=0∨i=1∨i=2∨i=3∨i=4∨i=5∨i=6∨i=7:=by omega
 rcases this with rfl|rfl|rfl|rfl|rfl|rfl|rfl|rfl<;>(omega)<;>omega
theorem aaW {k l}(j:Nat)(hj:j<l.length)(hl:l.length≤1000000):∀c n,c<n→c≤8→∀r:AC,r.length+c≤100000000→MA k n l (j:Int) (8*(c:Int)-8) r=some (l,(j:Int),r++(fg (l.getD j 0)).drop (8-c)):=by
 intro c
 induction c with
 |zero=>
  intro n h1 _ r hr;obtain⟨n,rfl⟩:=aoa n;rw[show(fg (l.getD j 0)).drop (8-0)=[] from rfl,List.append_nil];rfl
 |succ c ih=>
  intro n h1 h2 r hr;obtain⟨n,rfl⟩:=aoa n;have g:=ih n (by omega) (by omega) (r++[vP (l.getD j 0) c]) (by grind);show RB k (MA k n) l _ _ r=_;unfold RB;have e8:8*((c+1:Nat):Int)-8=8*(c:Int):=by omega
  have w:IntKind.wrap .u64 (8*(c:Int))=8*(c:Int):=by rw[YW];omega
  rw[e8,aa,ag,wT,ag];rw[show decide (IntKind.wrap .u64 (8*(c:Int))<0)=false from by grind,bO,ag,qF,ag,ao];rw[vS8 _ _ (by omega),show zA (8*(c:Int)-8)=8*(c:Int)-8 by rw[zP],g,List.append_assoc];have:c=0∨c=1∨c=2∨c=3∨c=4∨c=5∨c=6∨c=7:=by omega
  rcases this with rfl|rfl|rfl|rfl|rfl|rfl|rfl|rfl<;>rfl
theorem MB {k}(hk:9≤k){l}(hl:l.length≤1000000)(pT:l.length<k):yz k l=some (jQ l):=by
 have all:∀(c n j:Nat),j+c=l.length→c<n→CC k n l (j:Int) (jQ (l.take j))=some (jQ l):=by
  intro c
  induction c with
  |zero=>
   intro n j h1 h2;obtain⟨n,rfl⟩:=aoa n;show Hf k (CC k n) l _ _=_;unfold Hf;rw[ab,List.take_of_length_le (by omega)];rfl
  |succ c ih=>
   intro n j h1 h2;obtain⟨n,rfl⟩:=aoa n;have hj:j<l.length:=by omega
   have g:=ih n (j+1) (by omega) (by omega);have hlen:(jQ (l.take j)).length=8*j:=by rw[qp,bZ];omega
   have g1:=aaW (k:=k) j hj hl 8 k (by omega) (by omega) (jQ (l.take j)) (by omega);rw[show(8*((8:Nat):Int)-8)=56 from rfl] at g1;show Hf k (CC k n) l _ _=_;unfold Hf;rw[aa,ag,g1,ae];rw[qD hj (by omega)];have e:jQ (l.take (j+1))=jQ (l.take j)++(fg (l.getD j 0)).drop (8-8):=by
    rw[←fE l j 0 hj];simp[jQ]
   rw[e] at g;exact g
 unfold yz;have:=all l.length k 0 (by omega) (by omega);have this:CC k k l 0 []=some (jQ l):=this;rw[this];rfl
theorem CD {k}(hk:9≤k){l}(hl:l.length≤1000000)(pT:l.length<k):kt k l=some (fY l):=by
 unfold kt;rw[MB hk (by simp) (by grind),ae,MB hk hl pT,ae,qF (by simp[qp];omega) (by simp[qp];omega),ag];rfl
theorem yCu {k}(hk:9999≤k){l}(h:jG l):pF k l=some (yK l):=by
 have hn:=h.n;unfold pF;obtain ⟨s, h1, h2⟩ := vA (L := fun n i (s : AC) => Hg k n l i s) (N := l.length) (fun s => s) (fun i s => s = yK (l.take i)) (fun n s _=>by
  show Hh k (Hg k n) l _ s=_;unfold Hh;simp) (fun n i s hi hs=>by
  refine⟨s++fY (l.getD i []),?_,by rw[hs,yLs hi]⟩;show Hh k (Hg k n) l (i:Int) s=_;unfold Hh;have hr:=h.r _ (fD (d:=[]) hi);have pZ:s.length≤20000*9999:=by
   have:=KV (l:=l.take i) fun x hx=>h.r x (by grind)
   grind
  rw[aa,ag,wT,ag,ao,CD (by omega) (by omega) (by omega),ae,
   qF (by rw[sX];omega) (by rw[sX];omega),ag,qD (N:=l.length) hi (by omega)]) (n:=k) (s:=[]) (by omega) rfl
 simp_all
theorem yGj a b:yK (a++b)=yK a++yK b:=by simp[yK]
theorem vOi {k}(hk:9999≤k){s:xS}{b1:List (Int×Int×Int)×EQ×AC×EQ}(hl:b1.1.length≤2400) r (hr:r.length≤100000000):vh k k 0 s b1 r=some (s,b1,r++yK (b1.1.map lK)):=by
 obtain ⟨t, h1, h2⟩ := vA (L := fun n i (t : AC) => vh k n i s b1 t) (N := b1.1.length) (fun t => (s, b1, t)) (fun i t => t = r ++ yK ((b1.1.take i).map lK)) (fun n t _=>by
  show Hi k (vh k n) _ s b1 t=_;unfold Hi;simp) (fun n i t hi ht=>by
  refine⟨t++fY (lK (b1.1.getD i (0,0,0))),?_,by rw[ht,List.append_assoc,←Qf lK (0,0,0) hi,yGj];rfl⟩;show Hi k (vh k n) (i:Int) s b1 t=_;unfold Hi;have hlen:t.length≤100000000+20000*2400:=by
   have:=KV (l:=(b1.1.take i).map lK) fun x hx=>by
    obtain⟨y,_,rfl⟩:=List.mem_map.1 hx;show 3≤2400
    decide
   grind
  rw[aa,ag,wT,ag,ag,ag];have aU:=CD (k:=k) (by omega) (l:=lK (b1.1.getD i (0,0,0))) (by show 3≤1000000;decide) (by show 3<k;omega);refine(congrArg (fun z=>Option.bind z _) aU).trans ?_;have h32:(fY (lK (b1.1.getD i (0,0,0)))).length=32:=rfl;simp only[ae];rw[qF,ag,qD (N:=b1.1.length) hi (by omega)]) (n:=k) (s:=r) (by omega) (by simp[yK])
 simp_all
theorem aaX {k}(hk:9999≤k){s:xS}(hl:s.2.2.2.2.2.2.2.1.length≤2400) r (hr:r.length≤100000000):vi k k 0 s r=some (s,r++yK (s.2.2.2.2.2.2.2.1.map lL)):=by
 obtain ⟨t, h1, h2⟩ := vA (L := fun n i (t : AC) => vi k n i s t) (N := s.2.2.2.2.2.2.2.1.length) (fun t => (s, t)) (fun i t => t = r ++ yK ((s.2.2.2.2.2.2.2.1.take i).map lL)) (fun n t _=>by
  show Hj k (vi k n) _ s t=_;unfold Hj;simp) (fun n i t hi ht=>by
  refine⟨t++fY (lL (s.2.2.2.2.2.2.2.1.getD i (0,0,0,0,0,0,0))),?_,by rw[ht,List.append_assoc,←Qf lL (0,0,0,0,0,0,0) hi,yGj];rfl⟩;show Hj k (vi k n) (i:Int) s t=_;unfold Hj;have hlen:t.length≤100000000+20000*2400:=by
   have:=KV (l:=(s.2.2.2.2.2.2.2.1.take i).map lL) fun x hx=>by
    obtain⟨y,_,rfl⟩:=List.mem_map.1 hx;show 7≤2400
    decide
   grind
  rw[aa,ag,wT,ag];have aU:=CD (k:=k) (by omega) (l:=lL (s.2.2.2.2.2.2.2.1.getD i (0,0,0,0,0,0,0))) (by show 7≤1000000;decide) (by show 7<k;omega);refine(congrArg (fun z=>Option.bind z _) aU).trans ?_;have bU:(fY (lL (s.2.2.2.2.2.2.2.1.getD i (0,0,0,0,0,0,0)))).length=64:=rfl;simp only[ae];rw[qF,ag,qD (N:=s.2.2.2.2.2.2.2.1.length) hi (by omega)]) (n:=k) (s:=r) (by omega) (by simp[yK])
 simp_all
theorem yIp {k}(hk:9999≤k){s}(h:jG (jb s)):oD k s=some (yK (jb s)):=by
  have hn:=h.n;have Es:=h.n;have hr:=h.r;have bn:=KV hr;have eq:=yYk s;obtain⟨S,hS⟩:∃S,yK (jb s)=S:=⟨_,rfl⟩;rw[hS] at eq bn⊢;obtain⟨t,ac,bi,mu,po,pr,ho,pa,ids,to,ov⟩:=s;have dp : ∀ x, (x ∈ bi ∨ x = mu ∨ x ∈ po ∨ x = pr ∨ x ∈ ho ∨ x = ids) → x.length ≤ 2400 := fun x hx => hr x (by
    simp only[jb,List.mem_append,List.mem_singleton];rcases hx with h|h|h|h|h|h<;>simp[h])
  simp only[jb,ay,List.length_cons,List.length_nil,List.length_map] at hn;dsimp only at eq;have l1:=congrArg List.length eq;simp only[ay] at l1;have fb:jG bi:=⟨by omega,fun x hx=>dp x (.inl hx)⟩;have fp:jG po:=⟨by omega,fun x hx=>dp x (.inr (.inr (.inl hx)))⟩;have fh:jG ho:=⟨by omega,fun x hx=>dp x (.inr (.inr (.inr (.inr (.inl hx)))))⟩;have hmu:=dp mu (.inr (.inl rfl));have pv:=dp pr (.inr (.inr (.inr (.inl rfl))));have kK:=dp ids (.inr (.inr (.inr (.inr (.inr rfl)))));have go : ∀ (o : Int), ((kt k [t,to,o,(ac.length:Int),(bi.length:Int),(mu.length:Int),(po.length:Int),(ho.length:Int),(pa.length:Int)]).bind fun x0=>
      (vh k k 0 (t,ac,bi,mu,po,pr,ho,pa,ids,to,ov) (ac,bi,mu,po) x0).bind fun z=>
      (pF k z.2.1.2.1).bind fun x2=>
      bif zL (z.2.2.length + x2.length) 1 then ((kt k z.2.1.2.2.1).bind fun x3=>
       bif zL ((z.2.2 ++ x2).length + x3.length) 1 then ((pF k z.2.1.2.2.2).bind fun x4=>
        bif zL (((z.2.2 ++ x2) ++ x3).length + x4.length) 1 then ((kt k z.1.2.2.2.2.2.1).bind fun x5=>
         bif zL ((((z.2.2 ++ x2) ++ x3) ++ x4).length + x5.length) 1 then ((pF k z.1.2.2.2.2.2.2.1).bind fun x6=>
          bif zL (((((z.2.2 ++ x2) ++ x3) ++ x4) ++ x5).length + x6.length) 1 then ((vi k k 0 z.1 (((((z.2.2++x2)++x3)++x4)++x5)++x6)).bind fun z1=>
           (kt k z1.1.2.2.2.2.2.2.2.2.1).bind fun x8=>
           bif zL (z1.2.length+x8.length) 1 then some (z1.2++x8)
           else none)
          else none)
         else none)
        else none)
       else none)
      else none)=some (fY [t,to,o,(ac.length:Int),(bi.length:Int),(mu.length:Int),(po.length:Int),(ho.length:Int),(pa.length:Int)]++(yK (ac.map lK)++(yK bi++(fY mu++(yK po++(fY pr++(yK ho++(yK (pa.map lL)++(fY ids++[]))))))))):=fun o=>by
    have h9:(fY [t,to,o,(ac.length:Int),(bi.length:Int),(mu.length:Int),(po.length:Int),(ho.length:Int),(pa.length:Int)]).length=80:=rfl;have h9':(fY [t,to,bif ov then 1 else 0,(ac.length:Int),(bi.length:Int),(mu.length:Int),(po.length:Int),(ho.length:Int),(pa.length:Int)]).length=80:=rfl;rw[h9'] at l1;rw[CD (by omega) (by simp) (by simp;omega)];simp only[ae];rw[vOi hk (by show ac.length≤2400;omega) _ (by omega)];simp only[ae];rw[yCu hk fb,ae,qF (by simp only[ay];omega) (by simp only[ay];omega),ag];rw[CD (by omega) (by omega) (by omega),ae,qF (by simp only[ay];omega) (by simp only[ay];omega),ag];rw[yCu hk fp,ae,qF (by simp only[ay];omega) (by simp only[ay];omega),ag];rw[CD (by omega) (by omega) (by omega),ae,qF (by simp only[ay];omega) (by simp only[ay];omega),ag];rw[yCu hk fh,ae,qF (by simp only[ay];omega) (by simp only[ay];omega),ag];rw[aaX hk (by show pa.length≤2400;omega) _ (by simp only[ay];omega)];simp only[ae];rw[CD (by omega) (by omega) (by omega),ae,qF (by simp only[ay];omega) (by simp only[ay];omega),ag];simp only[List.append_assoc,List.append_nil]
  rw[eq];unfold oD;cases ov with
  |false=>exact go 0
  |true=>exact go 1
def qV (D:vS):wZ:=(D.2.1,D.2.2.2.1,D.2.2.1,D.2.2.2.2.1,D.1,D.2.2.2.2.2.2.2.2.2,D.2.2.2.2.2.1,D.2.2.2.2.2.2.1,D.2.2.2.2.2.2.2.1,D.2.2.2.2.2.2.2.2.1)
def iI (L:wA):wA:=(L.2.1,L.1,L.2.2.1,L.2.2.2)
def mp {α:Type}(z:α×vS):α×wZ:=(z.1,qV z.2)
def Hk {α:Type}(z:α×wA×vS):α×wA×wZ:=(z.1,iI z.2.1,qV z.2.2)
theorem aaY {α β:Type}(f:α→β) c a b:Option.map f (bif c then a else b)=bif c then Option.map f a else Option.map f b:=by
 grind
theorem RD k D:vj k (qV D)=(fJ k D).map mp:=by
 unfold vj fJ;simp[aaY];rfl
theorem vB3 {k}{D D':vS}{c}(h:fJ k D=some (c,D')):D'.2.1.length≤D.2.1.length∧D'.2.2.2.1.length≤D.2.2.2.1.length:=by
 unfold fJ at h;grind
theorem yQn {k D i}(hi:i=0∨i=1){b}(hx:D.2.1.length≤1000000)(hy:D.2.2.2.1.length≤1000000)(hb:b.length≤1000000):Hl k (qV D) i b=(vk k D i b).map mp:=by
 show(bif wY D then _ else _)=Option.map mp (bif wY D then _ else _);cases wY D with
 |true=>rfl
 |false=>
  have hl:=@vB3 k D;rcases hi with rfl|rfl
  · show(bif decide ((b.length:Int)>zA (D.1-(D.2.1.length:Int))) then _ else(vj k (qV D)).bind _)=Option.map mp (bif decide ((b.length:Int)>zA (D.1-(D.2.1.length:Int))) then _ else(fJ k D).bind _);cases decide ((b.length:Int)>zA (D.1-(D.2.1.length:Int))) with
    |true=>rfl
    |false=>
     rw[RD];cases hq:fJ k D with
     |none=>rfl
     |some z=>
      obtain⟨c,D'⟩:=z;cases c with
      |true=>rfl
      |false=>
       have:=hl hq;show(bif zL (0+D'.2.1.length) 1 then(bif zL (D'.2.1.length+b.length) 1 then _ else none) else none)=Option.map mp (bif zL (D'.2.1.length+b.length) 1 then _ else none);rw[qF (n:=0+D'.2.1.length),qF (n:=D'.2.1.length+b.length)];rfl
  · show(bif decide ((b.length:Int)>zA (D.1-(D.2.2.2.1.length:Int))) then _ else(vj k (qV D)).bind _)=Option.map mp (bif decide ((b.length:Int)>zA (D.1-(D.2.2.2.1.length:Int))) then _ else(fJ k D).bind _);cases decide ((b.length:Int)>zA (D.1-(D.2.2.2.1.length:Int))) with
    |true=>rfl
    |false=>
     rw[RD];cases hq:fJ k D with
     |none=>rfl
     |some z=>
      obtain⟨c,D'⟩:=z;cases c with
      |true=>rfl
      |false=>
       have:=hl hq;show(bif zL (0+D'.2.2.2.1.length) 1 then(bif zL (D'.2.2.2.1.length+b.length) 1 then _ else none) else none)=Option.map mp (bif zL (D'.2.2.2.1.length+b.length) 1 then _ else none);rw[qF (n:=0+D'.2.2.2.1.length),qF (n:=D'.2.2.2.1.length+b.length)];rfl
theorem vGy k D:CE k (qV D)=(tp k D).map mp:=by
 show(bif wY D then _ else _)=Option.map mp (bif wY D then _ else _);cases wY D with
 |true=>rfl
 |false=>
  rw[RD];cases fJ k D with
  |none=>rfl
  |some z=>
   obtain⟨c,D'⟩:=z;cases c<;>rfl
theorem aaZ k D {i}(hi:i=0∨i=1):qQi k (qV D) i=(Hm k D i).map mp:=by
 show(bif wY D then _ else _)=Option.map mp (bif wY D then _ else _);cases wY D with
 |true=>rfl
 |false=>
  rcases hi with rfl|rfl
  all_goals
   rw[RD];cases fJ k D with
   |none=>rfl
   |some z=>
    obtain⟨c,D'⟩:=z;cases c<;>rfl
theorem vUo {k}{D D':vS}{i e}(hi:i=0∨i=1)(h:Hm k D i=some (e,D')):D'.2.1.length≤D.2.1.length∧D'.2.2.2.1.length≤D.2.2.2.1.length:=by
 have h:(bif wY D then some (11,D) else _)=some (e,D'):=h;cases hd:wY D with
 |true=>
  simp_all
 |false=>
  rw[hd] at h;have hl:=@vB3 k D;cases hq:fJ k D with
  |none=>
   rcases hi with rfl|rfl
   all_goals
    have h:(fJ k D).bind _=some (e,D'):=h;simp_all
  |some z=>
   rcases hi with rfl|rfl
   all_goals
    have h:(fJ k D).bind _=some (e,D'):=h;grind
theorem vFb {k b}(hb:b.length≤60000):MD k b=some (kW b,true):=by
 unfold MD;rw[ab,ak,qF,ag];have e1:IntKind.wrap .u8 (zA (Int.tdiv (b.length:Int) 256))=IntKind.wrap .u8 (shr .i64 (b.length:Int) 8):=by
  have:Int.tdiv (b.length:Int) 256=((b.length/256:Nat):Int):=rfl;have h2:shr .i64 (b.length:Int) 8=(b.length:Int)/256:=by
   unfold shr;rw[Int.fdiv_eq_ediv_of_nonneg _ (by grind)];rfl
  rw[this,zP,h2];rfl
 have e2:IntKind.wrap .u8 (Int.tmod (b.length:Int) 256)=IntKind.wrap .u8 (b.length:Int):=by
  have:Int.tmod (b.length:Int) 256=((b.length%256:Nat):Int):=rfl;rw[this,KU,KU];omega
 rw[e1,e2];rfl
theorem yHn {k:Nat}(hk:9≤k){D:vS}{i:Int}(hi:i=0∨i=1){g:Int}{b:AC}(hx:D.2.1.length≤1000000)(hy:D.2.2.2.1.length≤1000000)(hb:b.length≤50000):Hn k (qV D) g i b=(za k D i g b).map mp:=by
  have hlen:(kW (fg g++b)).length=b.length+10:=by rw[Qh,ay];show 8+b.length+2=_;omega
  unfold Hn za;have hl:(fg g++b).length≤60000:=by rw[ay];show 8+b.length≤_;omega
  rw[E3 hk [g] (by simp) (by simp;omega),MB hk (by simp) (by simp;omega)];simp only[ae];rw[show jQ [g]=fg g by simp[jQ]];rw[qF (by show(8+b.length)*1≤_;omega) (by show 8+b.length≤_;omega),Qe,if_pos hl,vFb hl];simp only[ag,ak,ae,aA];rw[show qPb k (qV D)=some D.1 from rfl,show RE k D=some D.1 from rfl];simp only[ae];cases decide (((kW (fg g++b)).length:Int)>D.1)<;>cases decide (g>4611686018427387904)<;>try rfl
  simp only[ak];rw[aaZ k D hi];have hw:=@vUo k D;cases hq:Hm k D i with
  |none=>rfl
  |some z=>
   obtain⟨e,D1⟩:=z;have hw:=hw hi hq;show(bif decide (e=0) then(Hl k (qV D1) i (kW (fg g++b))).bind _ else _)=Option.map mp (bif !(decide (e=0)) then _ else(vk k D1 i (kW (fg g++b))).bind _);cases he:decide (e=0) with
   |false=>
    show(bif decide (e=0) then _ else _)=_;rw[he];rfl
   |true=>
    rw[yQn hi (by omega) (by omega) (by omega)];cases vk k D1 i (kW (fg g++b)) with
    |none=>rfl
    |some z=>
     obtain⟨e,D2⟩:=z;show(bif decide (e=0) then(CE k (qV D2)).bind _ else _)=Option.map mp (bif !(decide (e=0)) then _ else(tp k D2).bind _);rw[vGy];cases decide (e=0) with
     |false=>rfl
     |true=>cases tp k D2<;>rfl
theorem vXv {k:Nat}{L:wA}(hs:L.1=0∨L.1=1){D:vS}{b:AC}(hx:D.2.1.length≤1000000)(hy:D.2.2.2.1.length≤1000000)(hb:b.length≤60000):zb k (iI L) (qV D) b=(zc k L D b).map Hk:=by
  have hlen:=Qh b;obtain⟨m,g,n,st⟩:=L;unfold zb zc;rw[Qe,if_pos hb,vFb hb];show(bif st then _ else(Hl k (qV D) m (kW b)).bind _)=Option.map Hk (bif st then _ else(vk k D m (kW b)).bind _);cases st with
  |true=>rfl
  |false=>
   rw[yQn hs hx hy (by omega)];cases vk k D m (kW b) with
   |none=>rfl
   |some z=>
    obtain⟨e,D1⟩:=z;show(bif decide (e=3) then _ else bif decide (e=0) then(CE k (qV D1)).bind _ else bif decide (e=0) then _ else _)=Option.map Hk (bif decide (e=3) then _ else bif decide (e=0) then(tp k D1).bind _ else bif decide (e=0) then _ else _);rw[vGy];cases decide (e=3) with
    |true=>rfl
    |false=>
     cases decide (e=0) with
     |false=>rfl
     |true=>
      cases tp k D1 with
      |none=>rfl
      |some z=>
       obtain⟨e,D2⟩:=z;show(bif decide (e=0) then _ else _)=Option.map Hk (bif decide (e=0) then _ else _);cases decide (e=0)<;>rfl
theorem vXm {k:Nat}(hk:9≤k){L:wA}(hs:L.1=0∨L.1=1){D:vS}{b:AC}(hx:D.2.1.length≤1000000)(hy:D.2.2.2.1.length≤1000000)(hb:b.length≤50000):pG k (iI L) (qV D) b=(oE k L D b).map Hk:=by
  unfold pG oE;have e2:zA (1-L.1)=1-L.1:=zP;show(Hn k (qV D) (zA (L.2.1+1)) (zA (1-L.1)) b).bind _=_;rw[e2,yHn hk (by omega) hx hy hb];cases za k D (1-L.1) (zA (L.2.1+1)) b with
  |none=>rfl
  |some z=>
   obtain⟨e,D1⟩:=z;show(bif decide (e=0) then some (e,(zA (L.2.1+1),zA (1-L.1),0,false),qV D1) else _)=Option.map Hk (bif decide (e=0) then some (e,(1-L.1,zA (L.2.1+1),0,false),D1) else _);rw[e2];cases decide (e=0)<;>rfl
theorem vWt {k}(hk:10≤k)(f:zD):∃b,tq k f=some b∧(b=true→0≤yO f.1):=by
 have key:∀(c n i:Nat),i+c=6→c<n→∀x:Int,∃z,zd k n x (i:Int) f=some z∧(z=.inl x∨z=.inr false):=by
  intro c
  induction c with
  |zero=>
   intro n i h1 h2 x;obtain⟨n,rfl⟩:=aoa n;obtain rfl:i=6:=by omega
   exact⟨_,rfl,.inl rfl⟩
  |succ c ih=>
   intro n i h1 h2 x;obtain⟨n,rfl⟩:=aoa n;obtain⟨z,g1,g2⟩:=ih n (i+1) (by omega) (by omega) x;have st:∀v:Int,∃z',(bif !decide (v=0) then some (.inr false) else zd k n x ((i+1:Nat):Int) f)=some z'∧(z'=.inl x∨z'=.inr false):=by grind
   have:i=0∨i=1∨i=2∨i=3∨i=4∨i=5:=by omega
   rcases this with rfl|rfl|rfl|rfl|rfl|rfl
   ·exact st f.2.1
   ·exact st f.2.2.1
   ·exact st f.2.2.2.1
   ·exact st f.2.2.2.2.1
   ·exact st f.2.2.2.2.2.1
   ·exact st f.2.2.2.2.2.2
 have hm:=E1 f.1;have e:yI false (yO f.1) 0=(((yO f.1).toNat:Nat):Int):=by
  grind
 obtain⟨z,g1,g2⟩:=key (6-(yO f.1).toNat) k (yO f.1).toNat (by omega) (by omega) (yO f.1);unfold tq;rw[P8,ae,e,g1,ae];rcases g2 with rfl|rfl
 all_goals simp
theorem qNj x (s:Nat)(h:s≤62):shr .i64 x (s:Int)=x/2^s:=by
 have e:shr .i64 x (s:Int)=x.fdiv (2^(min (s:Int).toNat 64)):=rfl;grind
theorem tt x:shr .i64 x 16=x/65536:=qNj x 16 (by decide)
theorem vE1 x:shr .i64 x 32=x/4294967296:=qNj x 32 (by decide)
theorem vFk x:shr .i64 x 48=x/281474976710656:=qNj x 48 (by decide)
theorem aa0 x:shr .i64 x 0=x:=by grind
theorem vl x:yM .i64 x 65535=x%65536:=yVo 16 (by decide) x
theorem RF m (hm:m≤62){x y}(hx:0≤x)(hy:0≤y∧y<2^m)(hs:x*2^m+y<9223372036854775808):wV .i64 (x*2^m) y=x*2^m+y:=by
 obtain⟨a,rfl⟩:=Int.eq_ofNat_of_zero_le hx;obtain⟨b,rfl⟩:=Int.eq_ofNat_of_zero_le hy.1;have hp:(2:Int)^m=((2^m:Nat):Int):=by simp
 rw[hp] at hs hy⊢;have e1:(a:Int)*((2^m:Nat):Int)=((a*2^m:Nat):Int):=by simp
 rw[e1] at hs⊢;have hb:b<2^m:=by omega
 unfold wV tO;have ME:IntKind.i64.bits=64:=rfl;have e2:(BitVec.ofInt IntKind.i64.bits ((a*2^m:Nat):Int)|||BitVec.ofInt IntKind.i64.bits (b:Int)).toNat=a*2^m+b:=by
  rw[BitVec.toNat_or,BitVec.ofInt_natCast,BitVec.ofInt_natCast,BitVec.toNat_ofNat,BitVec.toNat_ofNat,ME,Nat.mod_eq_of_lt (by omega),Nat.mod_eq_of_lt (by omega)];have:=Nat.shiftLeft_add_eq_or_of_lt hb a;rw[Nat.shiftLeft_eq] at this;exact this.symm
 rw[e2];exact zP
def V9 (l0 l1 l2 l3 l4 l5 l6 l7 l8:Int):Int:=l0+65536*(l1+65536*(l2+65536*(l3+65536*(l4+65536*(l5+65536*(l6+65536*(l7+65536*l8)))))))
theorem vX0 (l0 l1 l2 l3 l4 l5 l6 l7 l8:Int){c1 c2 c3 c4 c5 c6 c7 c8:Int}(h1:c1=zA (l1+shr .i64 l0 16))(h2:c2=zA (l2+shr .i64 c1 16))(h3:c3=zA (l3+shr .i64 c2 16))(h4:c4=zA (l4+shr .i64 c3 16))(h5:c5=zA (l5+shr .i64 c4 16))(h6:c6=zA (l6+shr .i64 c5 16))(h7:c7=zA (l7+shr .i64 c6 16))(h8:c8=zA (l8+shr .i64 c7 16)):
  Ho 9999 [l0,l1,l2,l3,l4,l5,l6,l7,l8]=some [yM .i64 l0 65535,yM .i64 c1 65535,yM .i64 c2 65535,yM .i64 c3 65535,yM .i64 c4 65535,yM .i64 c5 65535,yM .i64 c6 65535,yM .i64 c7 65535,c8]:=by
 subst h8;subst h7;subst h6;subst h5;subst h4;subst h3;subst h2;subst h1
 kernel_rfl
theorem vF3 {l0 l1 l2 l3 l4 l5 l6 l7 l8:Int}(g0:0≤l0∧l0≤1099511627776)(g1:0≤l1∧l1≤1099511627776)(g2:0≤l2∧l2≤1099511627776)(g3:0≤l3∧l3≤1099511627776)(g4:0≤l4∧l4≤1099511627776)(g5:0≤l5∧l5≤1099511627776)(g6:0≤l6∧l6≤1099511627776)(g7:0≤l7∧l7≤1099511627776)(g8:0≤l8∧l8≤1099511627776):∃d0 d1 d2 d3 d4 d5 d6 d7 d8,
  Ho 9999 [l0,l1,l2,l3,l4,l5,l6,l7,l8]=some [d0,d1,d2,d3,d4,d5,d6,d7,d8]∧V9 d0 d1 d2 d3 d4 d5 d6 d7 d8=V9 l0 l1 l2 l3 l4 l5 l6 l7 l8∧(0≤d0∧d0<65536)∧(0≤d1∧d1<65536)∧(0≤d2∧d2<65536)∧(0≤d3∧d3<65536)∧(0≤d4∧d4<65536)∧(0≤d5∧d5<65536)∧(0≤d6∧d6<65536)∧(0≤d7∧d7<65536)∧0≤d8:=by
 obtain⟨c1,oe⟩:∃c,c=l1+l0/65536:=⟨_,rfl⟩;have b1:0≤c1∧c1≤2199023255552:=by omega
 have h1:c1=zA (l1+shr .i64 l0 16):=by rw[tt,←oe,zP]
 obtain⟨c2,dq⟩:∃c,c=l2+c1/65536:=⟨_,rfl⟩;have b2:0≤c2∧c2≤2199023255552:=by omega
 have h2:c2=zA (l2+shr .i64 c1 16):=by rw[tt,←dq,zP]
 obtain⟨c3,dM⟩:∃c,c=l3+c2/65536:=⟨_,rfl⟩;have b3:0≤c3∧c3≤2199023255552:=by omega
 have h3:c3=zA (l3+shr .i64 c2 16):=by rw[tt,←dM,zP]
 obtain⟨c4,gX⟩:∃c,c=l4+c3/65536:=⟨_,rfl⟩;have b4:0≤c4∧c4≤2199023255552:=by omega
 have h4:c4=zA (l4+shr .i64 c3 16):=by rw[tt,←gX,zP]
 obtain⟨c5,np⟩:∃c,c=l5+c4/65536:=⟨_,rfl⟩;have b5:0≤c5∧c5≤2199023255552:=by omega
 have h5:c5=zA (l5+shr .i64 c4 16):=by rw[tt,←np,zP]
 obtain⟨c6,EO⟩:∃c,c=l6+c5/65536:=⟨_,rfl⟩;have b6:0≤c6∧c6≤2199023255552:=by omega
 have h6:c6=zA (l6+shr .i64 c5 16):=by rw[tt,←EO,zP]
 obtain⟨c7,EP⟩:∃c,c=l7+c6/65536:=⟨_,rfl⟩;have b7:0≤c7∧c7≤2199023255552:=by omega
 have h7:c7=zA (l7+shr .i64 c6 16):=by rw[tt,←EP,zP]
 obtain⟨c8,hc8⟩:∃c,c=l8+c7/65536:=⟨_,rfl⟩;have b8:0≤c8∧c8≤2199023255552:=by omega
 have h8:c8=zA (l8+shr .i64 c7 16):=by rw[tt,←hc8,zP]
 have run:=vX0 l0 l1 l2 l3 l4 l5 l6 l7 l8 h1 h2 h3 h4 h5 h6 h7 h8;simp only[vl] at run;refine⟨_,_,_,_,_,_,_,_,_,run,?_,⟨Int.emod_nonneg _ (by decide),Int.emod_lt_of_pos _ (by decide)⟩,⟨Int.emod_nonneg _ (by decide),Int.emod_lt_of_pos _ (by decide)⟩,⟨Int.emod_nonneg _ (by decide),Int.emod_lt_of_pos _ (by decide)⟩,⟨Int.emod_nonneg _ (by decide),Int.emod_lt_of_pos _ (by decide)⟩,⟨Int.emod_nonneg _ (by decide),Int.emod_lt_of_pos _ (by decide)⟩,⟨Int.emod_nonneg _ (by decide),Int.emod_lt_of_pos _ (by decide)⟩,⟨Int.emod_nonneg _ (by decide),Int.emod_lt_of_pos _ (by decide)⟩,⟨Int.emod_nonneg _ (by decide),Int.emod_lt_of_pos _ (by decide)⟩,b8.1⟩;unfold V9;clear run h1 h2 h3 h4 h5 h6 h7 h8;omega
theorem aa1 l0 l1 l2 l3 l4 l5 l6 l7 l8 n:RG 9999 [l0,l1,l2,l3,l4,l5,l6,l7,l8] n=Ho 9999 [zA (l0*n),zA (l1*n),zA (l2*n),zA (l3*n),zA (l4*n),zA (l5*n),zA (l6*n),zA (l7*n),zA (l8*n)]:=by
 have e:RH 9999 9999 n 0 [l0,l1,l2,l3,l4,l5,l6,l7,l8]=some [zA (l0*n),zA (l1*n),zA (l2*n),zA (l3*n),zA (l4*n),zA (l5*n),zA (l6*n),zA (l7*n),zA (l8*n)]:=by kernel_rfl
 unfold RG;simp_all
theorem vOs l0 l1 l2 l3 l4 l5 l6 l7 l8 n:V9 l0 l1 l2 l3 l4 l5 l6 l7 l8*n=V9 (l0*n) (l1*n) (l2*n) (l3*n) (l4*n) (l5*n) (l6*n) (l7*n) (l8*n):=by
 unfold V9;grind
theorem aa2 l0 l1 l2 l3 l4 l5 l6 l7 l8 {x0 x1 x2 x3 x4 x5 x6 x7 x8 r0 r1 r2 r3 r4 r5 r6 r7 r8 r9}(h8:x8=zA (shl .i64 r9 16+l8))(h7:x7=zA (shl .i64 r8 16+l7))(h6:x6=zA (shl .i64 r7 16+l6))(h5:x5=zA (shl .i64 r6 16+l5))(h4:x4=zA (shl .i64 r5 16+l4))(h3:x3=zA (shl .i64 r4 16+l3))(h2:x2=zA (shl .i64 r3 16+l2))(h1:x1=zA (shl .i64 r2 16+l1))(h0:x0=zA (shl .i64 r1 16+l0))(h9:r9=0)(k8:r8=Int.tmod x8 10000)(k7:r7=Int.tmod x7 10000)(k6:r6=Int.tmod x6 10000)(k5:r5=Int.tmod x5 10000)(k4:r4=Int.tmod x4 10000)(k3:r3=Int.tmod x3 10000)(k2:r2=Int.tmod x2 10000)(k1:r1=Int.tmod x1 10000)(k0:r0=Int.tmod x0 10000):
  MF 9999 9999 10000 0 8 [l0,l1,l2,l3,l4,l5,l6,l7,l8]=some [zA (Int.tdiv x0 10000),zA (Int.tdiv x1 10000),zA (Int.tdiv x2 10000),zA (Int.tdiv x3 10000),zA (Int.tdiv x4 10000),zA (Int.tdiv x5 10000),zA (Int.tdiv x6 10000),zA (Int.tdiv x7 10000),zA (Int.tdiv x8 10000)]:=by
 subst h0;subst k1;subst h1;subst k2;subst h2;subst k3;subst h3;subst k4;subst h4;subst k5;subst h5;subst k6;subst h6;subst k7;subst h7;subst k8;subst h8;subst h9
 kernel_rfl
theorem vm x:shl .i64 x 16=zA (x*65536):=rfl
theorem vWp q0 q1 q2 q3 (h : decide (q3 ≥ 32768) = false) : ((Hq 9999 9999 4 [q0,q1,q2,q3,0,0,0,0,0]).bind fun z1=>
 match z1 with
 | .inl z2 => bif zB 3 z2.length then (bif decide ((z2.getD 3 0)≥32768) then some ((0:Int),false)
   else bif zB 3 z2.length then (bif zB 2 z2.length then (bif zB 1 z2.length then (bif zB 0 z2.length then some ((wV .i64 (wV .i64 (wV .i64 (shl .i64 (z2.getD 3 0) 48) (shl .i64 (z2.getD 2 0) 32)) (shl .i64 (z2.getD 1 0) 16)) (z2.getD 0 0)),true)
      else none)
     else none)
    else none)
   else none)
  else none
 |.inr z3=>some (z3.1,z3.2))=some (wV .i64 (wV .i64 (wV .i64 (shl .i64 q3 48) (shl .i64 q2 32)) (shl .i64 q1 16)) q0,true):=by
  have e:Hq 9999 9999 4 [q0,q1,q2,q3,0,0,0,0,0]=some (.inl [q0,q1,q2,q3,0,0,0,0,0]):=by rfl
  rw[e];simp only[ae];have e3:([q0,q1,q2,q3,0,0,0,0,0]:AC).getD 3 0=q3:=rfl;rw[e3,h];rfl
theorem vQ2 {q0 q1 q2 q3}(h0:0≤q0∧q0<65536)(h1:0≤q1∧q1<65536)(h2:0≤q2∧q2<65536)(h3:0≤q3∧q3<32768):
  wV .i64 (wV .i64 (wV .i64 (shl .i64 q3 48) (shl .i64 q2 32)) (shl .i64 q1 16)) q0=q0+65536*(q1+65536*(q2+65536*q3)):=by
 have s3:shl .i64 q3 48=zA (q3*281474976710656):=rfl;have s2:shl .i64 q2 32=zA (q2*4294967296):=rfl;have s1:shl .i64 q1 16=zA (q1*65536):=rfl;rw[s3,s2,s1,zP (x:=q3*281474976710656),zP (x:=q2*4294967296),zP (x:=q1*65536)];have b1:=RF 48 (by decide) (x:=q3) (y:=q2*4294967296) h3.1 (by omega) (by omega);have p48:(2:Int)^48=281474976710656:=rfl;rw[p48] at b1;have b2:=RF 32 (by decide) (x:=q3*65536+q2) (y:=q1*65536) (by omega) (by omega) (by omega);have p32:(2:Int)^32=4294967296:=rfl;rw[p32] at b2;have b3:=RF 16 (by decide) (x:=(q3*65536+q2)*65536+q1) (y:=q0) (by omega) (by omega) (by omega);grind
theorem vS7 {l0 l1 l2 l3 l4 l5 l6 l7 l8}(g0:0≤l0∧l0<65536)(g1:0≤l1∧l1<65536)(g2:0≤l2∧l2<65536)(g3:0≤l3∧l3<65536)(g4:0≤l4∧l4<65536)(g5:0≤l5∧l5<65536)(g6:0≤l6∧l6<65536)(g7:0≤l7∧l7<65536)(g8:0≤l8∧l8≤0)(hV:V9 l0 l1 l2 l3 l4 l5 l6 l7 l8/10000≤1152921504606846976):RI 9999 [l0,l1,l2,l3,l4,l5,l6,l7,l8] 10000=some (V9 l0 l1 l2 l3 l4 l5 l6 l7 l8/10000,true):=by
  obtain⟨r9,h9⟩:∃r:Int,r=0:=⟨_,rfl⟩;obtain⟨x8,hx8⟩:∃x,x=r9*65536+l8:=⟨_,rfl⟩;obtain⟨r8,hr8⟩:∃r,r=x8%10000:=⟨_,rfl⟩;obtain⟨q8,hq8⟩:∃q,q=x8/10000:=⟨_,rfl⟩;have v8:x8=10000*q8+r8∧0≤r8∧r8<10000∧0≤x8∧x8<655360000:=by omega
  have h8:x8=zA (shl .i64 r9 16+l8):=by rw[vm,zP (x:=r9*65536),←hx8,zP]
  have k8:r8=Int.tmod x8 10000:=by rw[Int.tmod_eq_emod_of_nonneg (by omega)];exact hr8
  have t8:zA (Int.tdiv x8 10000)=q8:=by rw[Int.tdiv_eq_ediv_of_nonneg (by omega),←hq8,zP]
  obtain⟨x7,hx7⟩:∃x,x=r8*65536+l7:=⟨_,rfl⟩;obtain⟨r7,hr7⟩:∃r,r=x7%10000:=⟨_,rfl⟩;obtain⟨q7,hq7⟩:∃q,q=x7/10000:=⟨_,rfl⟩;have v7:x7=10000*q7+r7∧0≤r7∧r7<10000∧0≤x7∧x7<655360000:=by omega
  have h7:x7=zA (shl .i64 r8 16+l7):=by rw[vm,zP (x:=r8*65536),←hx7,zP]
  have k7:r7=Int.tmod x7 10000:=by rw[Int.tmod_eq_emod_of_nonneg (by omega)];exact hr7
  have t7:zA (Int.tdiv x7 10000)=q7:=by rw[Int.tdiv_eq_ediv_of_nonneg (by omega),←hq7,zP]
  obtain⟨x6,PT⟩:∃x,x=r7*65536+l6:=⟨_,rfl⟩;obtain⟨r6,hr6⟩:∃r,r=x6%10000:=⟨_,rfl⟩;obtain⟨q6,hq6⟩:∃q,q=x6/10000:=⟨_,rfl⟩;have v6:x6=10000*q6+r6∧0≤r6∧r6<10000∧0≤x6∧x6<655360000:=by omega
  have h6:x6=zA (shl .i64 r7 16+l6):=by rw[vm,zP (x:=r7*65536),←PT,zP]
  have k6:r6=Int.tmod x6 10000:=by rw[Int.tmod_eq_emod_of_nonneg (by omega)];exact hr6
  have t6:zA (Int.tdiv x6 10000)=q6:=by rw[Int.tdiv_eq_ediv_of_nonneg (by omega),←hq6,zP]
  obtain⟨x5,hx5⟩:∃x,x=r6*65536+l5:=⟨_,rfl⟩;obtain⟨r5,hr5⟩:∃r,r=x5%10000:=⟨_,rfl⟩;obtain⟨q5,hq5⟩:∃q,q=x5/10000:=⟨_,rfl⟩;have v5:x5=10000*q5+r5∧0≤r5∧r5<10000∧0≤x5∧x5<655360000:=by omega
  have h5:x5=zA (shl .i64 r6 16+l5):=by rw[vm,zP (x:=r6*65536),←hx5,zP]
  have k5:r5=Int.tmod x5 10000:=by rw[Int.tmod_eq_emod_of_nonneg (by omega)];exact hr5
  have t5:zA (Int.tdiv x5 10000)=q5:=by rw[Int.tdiv_eq_ediv_of_nonneg (by omega),←hq5,zP]
  obtain⟨x4,hx4⟩:∃x,x=r5*65536+l4:=⟨_,rfl⟩;obtain⟨r4,hr4⟩:∃r,r=x4%10000:=⟨_,rfl⟩;obtain⟨q4,hq4⟩:∃q,q=x4/10000:=⟨_,rfl⟩;have v4:x4=10000*q4+r4∧0≤r4∧r4<10000∧0≤x4∧x4<655360000:=by omega
  have h4:x4=zA (shl .i64 r5 16+l4):=by rw[vm,zP (x:=r5*65536),←hx4,zP]
  have k4:r4=Int.tmod x4 10000:=by rw[Int.tmod_eq_emod_of_nonneg (by omega)];exact hr4
  have t4:zA (Int.tdiv x4 10000)=q4:=by rw[Int.tdiv_eq_ediv_of_nonneg (by omega),←hq4,zP]
  obtain⟨x3,hx3⟩:∃x,x=r4*65536+l3:=⟨_,rfl⟩;obtain⟨r3,hr3⟩:∃r,r=x3%10000:=⟨_,rfl⟩;obtain⟨q3,hq3⟩:∃q,q=x3/10000:=⟨_,rfl⟩;have v3:x3=10000*q3+r3∧0≤r3∧r3<10000∧0≤x3∧x3<655360000:=by omega
  have h3:x3=zA (shl .i64 r4 16+l3):=by rw[vm,zP (x:=r4*65536),←hx3,zP]
  have k3:r3=Int.tmod x3 10000:=by rw[Int.tmod_eq_emod_of_nonneg (by omega)];exact hr3
  have t3:zA (Int.tdiv x3 10000)=q3:=by rw[Int.tdiv_eq_ediv_of_nonneg (by omega),←hq3,zP]
  obtain⟨x2,Ek⟩:∃x,x=r3*65536+l2:=⟨_,rfl⟩;obtain⟨r2,sA⟩:∃r,r=x2%10000:=⟨_,rfl⟩;obtain⟨q2,hq2⟩:∃q,q=x2/10000:=⟨_,rfl⟩;have v2:x2=10000*q2+r2∧0≤r2∧r2<10000∧0≤x2∧x2<655360000:=by omega
  have h2:x2=zA (shl .i64 r3 16+l2):=by rw[vm,zP (x:=r3*65536),←Ek,zP]
  have k2:r2=Int.tmod x2 10000:=by rw[Int.tmod_eq_emod_of_nonneg (by omega)];exact sA
  have t2:zA (Int.tdiv x2 10000)=q2:=by rw[Int.tdiv_eq_ediv_of_nonneg (by omega),←hq2,zP]
  obtain⟨x1,du⟩:∃x,x=r2*65536+l1:=⟨_,rfl⟩;obtain⟨r1,xp⟩:∃r,r=x1%10000:=⟨_,rfl⟩;obtain⟨q1,hq1⟩:∃q,q=x1/10000:=⟨_,rfl⟩;have v1:x1=10000*q1+r1∧0≤r1∧r1<10000∧0≤x1∧x1<655360000:=by omega
  have h1:x1=zA (shl .i64 r2 16+l1):=by rw[vm,zP (x:=r2*65536),←du,zP]
  have k1:r1=Int.tmod x1 10000:=by rw[Int.tmod_eq_emod_of_nonneg (by omega)];exact xp
  have t1:zA (Int.tdiv x1 10000)=q1:=by rw[Int.tdiv_eq_ediv_of_nonneg (by omega),←hq1,zP]
  obtain⟨x0,hx0⟩:∃x,x=r1*65536+l0:=⟨_,rfl⟩;obtain⟨r0,ub⟩:∃r,r=x0%10000:=⟨_,rfl⟩;obtain⟨q0,hq0⟩:∃q,q=x0/10000:=⟨_,rfl⟩;have v0:x0=10000*q0+r0∧0≤r0∧r0<10000∧0≤x0∧x0<655360000:=by omega
  have h0:x0=zA (shl .i64 r1 16+l0):=by rw[vm,zP (x:=r1*65536),←hx0,zP]
  have k0:r0=Int.tmod x0 10000:=by rw[Int.tmod_eq_emod_of_nonneg (by omega)];exact ub
  have t0:zA (Int.tdiv x0 10000)=q0:=by rw[Int.tdiv_eq_ediv_of_nonneg (by omega),←hq0,zP]
  have run:=aa2 l0 l1 l2 l3 l4 l5 l6 l7 l8 h8 h7 h6 h5 h4 h3 h2 h1 h0 h9 k8 k7 k6 k5 k4 k3 k2 k1 k0;rw[t0,t1,t2,t3,t4,t5,t6,t7,t8] at run;clear h0 k0 t0 h1 k1 t1 h2 k2 t2 h3 k3 t3 h4 k4 t4 h5 k5 t5 h6 k6 t6 h7 k7 t7 h8 k8 t8;have hv:10000*V9 q0 q1 q2 q3 q4 q5 q6 q7 q8+r0=V9 l0 l1 l2 l3 l4 l5 l6 l7 l8:=by unfold V9;omega
  have hq:V9 q0 q1 q2 q3 q4 q5 q6 q7 q8=V9 l0 l1 l2 l3 l4 l5 l6 l7 l8/10000:=by omega
  rw[←hq] at hV⊢;unfold V9 at hV;have z8:q8=0:=by omega
  have z7:q7=0:=by omega
  have z6:q6=0:=by omega
  have z5:q5=0:=by omega
  have z4:q4=0:=by omega
  have z3:q3<32768:=by omega
  rw[z4,z5,z6,z7,z8] at run;have eU:RI 9999 [l0,l1,l2,l3,l4,l5,l6,l7,l8] 10000=(MF 9999 9999 10000 0 8 [l0,l1,l2,l3,l4,l5,l6,l7,l8]).bind fun z=>(Hq 9999 9999 4 z).bind fun z1=>
   match z1 with
   | .inl z2 => bif zB 3 z2.length then (bif decide ((z2.getD 3 0)≥32768) then some ((0:Int),false)
     else bif zB 3 z2.length then (bif zB 2 z2.length then (bif zB 1 z2.length then (bif zB 0 z2.length then some ((wV .i64 (wV .i64 (wV .i64 (shl .i64 (z2.getD 3 0) 48) (shl .i64 (z2.getD 2 0) 32)) (shl .i64 (z2.getD 1 0) 16)) (z2.getD 0 0)),true)
        else none)
       else none)
      else none)
     else none)
    else none
   |.inr z3=>some (z3.1,z3.2):=rfl
  rw[eU,run];simp only[ae];refine(vWp q0 q1 q2 q3 ab).trans ?_;rw[vQ2 ⟨by omega,by omega⟩ ⟨by omega,by omega⟩ ⟨by omega,by omega⟩ ⟨by omega,z3⟩];unfold V9;rw[z4,z5,z6,z7,z8];exact by simp
theorem aa3 (a b x0 x1 x2 x3:Int):RJ 9999 9999 b 0 [x0,x1,x2,x3] [0,0,0,0,0,0,0,0,0]=some [zA (0+zA (x0*yM .i64 (shr .i64 b 0) 65535)),zA (zA (0+zA (x0*yM .i64 (shr .i64 b 16) 65535))+zA (x1*yM .i64 (shr .i64 b 0) 65535)),zA (zA (zA (0+zA (x0*yM .i64 (shr .i64 b 32) 65535))+zA (x1*yM .i64 (shr .i64 b 16) 65535))+zA (x2*yM .i64 (shr .i64 b 0) 65535)),zA (zA (zA (zA (0+zA (x0*yM .i64 (shr .i64 b 48) 65535))+zA (x1*yM .i64 (shr .i64 b 32) 65535))+zA (x2*yM .i64 (shr .i64 b 16) 65535))+zA (x3*yM .i64 (shr .i64 b 0) 65535)),zA (zA (zA (0+zA (x1*yM .i64 (shr .i64 b 48) 65535))+zA (x2*yM .i64 (shr .i64 b 32) 65535))+zA (x3*yM .i64 (shr .i64 b 16) 65535)),zA (zA (0+zA (x2*yM .i64 (shr .i64 b 48) 65535))+zA (x3*yM .i64 (shr .i64 b 32) 65535)),zA (0+zA (x3*yM .i64 (shr .i64 b 48) 65535)),0,0]:=by kernel_rfl
theorem vPd {x0 x1 x2 x3 y0 y1 y2 y3}:(x0+65536*x1+4294967296*x2+281474976710656*x3)*(y0+65536*y1+4294967296*y2+281474976710656*y3)=V9 (x0*y0) (x0*y1+x1*y0) (x0*y2+x1*y1+x2*y0) (x0*y3+x1*y2+x2*y1+x3*y0) (x1*y3+x2*y2+x3*y1) (x2*y3+x3*y2) (x3*y3) 0 0:=by
 have row:∀x:Int,x*(y0+65536*y1+4294967296*y2+281474976710656*y3)=x*y0+65536*(x*y1)+4294967296*(x*y2)+281474976710656*(x*y3):=by grind
 rw[Int.add_mul,Int.add_mul,Int.add_mul,Int.mul_assoc,Int.mul_assoc,Int.mul_assoc,row,row,row,row];unfold V9;omega
theorem aa4 {a b}(ha:0≤a∧a≤1048576)(hb:0≤b∧b≤1099511627776):∃d0 d1 d2 d3 d4 d5 d6 d7 d8,
  RK 9999 a b=some [d0,d1,d2,d3,d4,d5,d6,d7,d8]∧V9 d0 d1 d2 d3 d4 d5 d6 d7 d8=a*b∧(0≤d0∧d0<65536)∧(0≤d1∧d1<65536)∧(0≤d2∧d2<65536)∧(0≤d3∧d3<65536)∧(0≤d4∧d4<65536)∧(0≤d5∧d5<65536)∧(0≤d6∧d6<65536)∧(0≤d7∧d7<65536)∧d8=0:=by
 obtain⟨x0,hx0⟩:∃z,z=a%65536:=⟨_,rfl⟩;have ze:0≤x0∧x0≤65535:=by omega
 obtain⟨x1,du⟩:∃z,z=a/65536%65536:=⟨_,rfl⟩;have zg:0≤x1∧x1≤65535:=by omega
 obtain⟨x2,Ek⟩:∃z,z=a/4294967296%65536:=⟨_,rfl⟩;have zh:0≤x2∧x2≤65535:=by omega
 obtain⟨x3,hx3⟩:∃z,z=a/281474976710656%65536:=⟨_,rfl⟩;have zi:0≤x3∧x3≤65535:=by omega
 obtain⟨y0,V4⟩:∃z,z=b%65536:=⟨_,rfl⟩;have zj:0≤y0∧y0≤65535:=by omega
 obtain⟨y1,WX⟩:∃z,z=b/65536%65536:=⟨_,rfl⟩;have zk:0≤y1∧y1≤65535:=by omega
 obtain⟨y2,WY⟩:∃z,z=b/4294967296%65536:=⟨_,rfl⟩;have zl:0≤y2∧y2≤65535:=by omega
 obtain⟨y3,hy3⟩:∃z,z=b/281474976710656%65536:=⟨_,rfl⟩;have zm:0≤y3∧y3≤65535:=by omega
 have ea:a=x0+65536*x1+4294967296*x2+281474976710656*x3:=by omega
 have eb:b=y0+65536*y1+4294967296*y2+281474976710656*y3:=by omega
 have dg:RM 9999 a=some [x0,x1,x2,x3]:=by
  unfold RM;rw[tt,vE1,vFk,vl,vl,vl,vl,←hx0,←du,←Ek,←hx3]
 have run:=aa3 a b x0 x1 x2 x3;rw[aa0,tt,vE1,vFk,vl,vl,vl,vl,←V4,←WX,←WY,←hy3] at run;have D7:=vPd (x0:=x0) (x1:=x1) (x2:=x2) (x3:=x3) (y0:=y0) (y1:=y1) (y2:=y2) (y3:=y3);rw[←ea,←eb] at D7;have hm:=wP ha.1 ha.2 hb.1 hb.2;have m00:=wP ze.1 ze.2 zj.1 zj.2;have m01:=wP ze.1 ze.2 zk.1 zk.2;have m02:=wP ze.1 ze.2 zl.1 zl.2;have m03:=wP ze.1 ze.2 zm.1 zm.2;have m10:=wP zg.1 zg.2 zj.1 zj.2;have m11:=wP zg.1 zg.2 zk.1 zk.2;have m12:=wP zg.1 zg.2 zl.1 zl.2;have m13:=wP zg.1 zg.2 zm.1 zm.2;have m20:=wP zh.1 zh.2 zj.1 zj.2;have m21:=wP zh.1 zh.2 zk.1 zk.2;have m22:=wP zh.1 zh.2 zl.1 zl.2;have m23:=wP zh.1 zh.2 zm.1 zm.2;have m30:=wP zi.1 zi.2 zj.1 zj.2;have m31:=wP zi.1 zi.2 zk.1 zk.2;have m32:=wP zi.1 zi.2 zl.1 zl.2;have m33:=wP zi.1 zi.2 zm.1 zm.2;generalize x0*y0=z00 at*
 generalize x0*y1=RN at*
 generalize x0*y2=MG at*
 generalize x0*y3=Hr at*
 generalize x1*y0=z10 at*
 generalize x1*y1=RO at*
 generalize x1*y2=MH at*
 generalize x1*y3=MI at*
 generalize x2*y0=z20 at*
 generalize x2*y1=RP at*
 generalize x2*y2=RQ at*
 generalize x2*y3=RR at*
 generalize x3*y0=z30 at*
 generalize x3*y1=z31 at*
 generalize x3*y2=z32 at*
 generalize x3*y3=z33 at*
 rw[zP (x:=z00)] at run;rw[zP (x:=RN)] at run;rw[zP (x:=MG)] at run;rw[zP (x:=Hr)] at run;rw[zP (x:=z10)] at run;rw[zP (x:=RO)] at run;rw[zP (x:=MH)] at run;rw[zP (x:=MI)] at run;rw[zP (x:=z20)] at run;rw[zP (x:=RP)] at run;rw[zP (x:=RQ)] at run;rw[zP (x:=RR)] at run;rw[zP (x:=z30)] at run;rw[zP (x:=z31)] at run;rw[zP (x:=z32)] at run;rw[zP (x:=z33)] at run;rw[zP (x:=0+z00)] at run;rw[zP (x:=0+RN)] at run;rw[zP (x:=0+MG)] at run;rw[zP (x:=0+Hr)] at run;rw[zP (x:=0+RN+z10)] at run;rw[zP (x:=0+MG+RO)] at run;rw[zP (x:=0+Hr+MH)] at run;rw[zP (x:=0+MI)] at run;rw[zP (x:=0+MG+RO+z20)] at run;rw[zP (x:=0+Hr+MH+RP)] at run;rw[zP (x:=0+MI+RQ)] at run;rw[zP (x:=0+RR)] at run;rw[zP (x:=0+Hr+MH+RP+z30)] at run;rw[zP (x:=0+MI+RQ+z31)] at run;rw[zP (x:=0+RR+z32)] at run;rw[zP (x:=0+z33)] at run;obtain⟨d0,d1,d2,d3,d4,d5,d6,d7,d8,c1,c2,n0,n1,n2,n3,n4,n5,n6,n7,n8⟩:=vF3 (l0:=0+z00) (l1:=0+RN+z10) (l2:=0+MG+RO+z20) (l3:=0+Hr+MH+RP+z30) (l4:=0+MI+RQ+z31) (l5:=0+RR+z32) (l6:=0+z33) (l7:=0) (l8:=0) (by omega) (by omega) (by omega) (by omega) (by omega) (by omega) (by omega) (by omega) (by omega);refine⟨d0,d1,d2,d3,d4,d5,d6,d7,d8,?_,?_,n0,n1,n2,n3,n4,n5,n6,n7,?_⟩
 ·unfold RK;rw[dg];simp only[ae];rw[run];simp only[ae];rw[c1];rfl
 ·rw[c2,D7];unfold V9;omega
 ·have:V9 d0 d1 d2 d3 d4 d5 d6 d7 d8=a*b:=by
   rw[c2,D7];unfold V9;omega
  unfold V9 at this;omega
theorem aa5 {p m c:Int}(hp:0≤p∧p≤1048576)(hm:0≤m∧m≤1099511627776)(hc:0≤c∧c≤10000):RT 9999 p m c=some (uU p m c,true):=by
 obtain⟨d0,d1,d2,d3,d4,d5,d6,d7,d8,e1,e2,n0,n1,n2,n3,n4,n5,n6,n7,n8⟩:=aa4 hp hm;have zn:=wP hp.1 hp.2 hm.1 hm.2;have hn:0≤10000-c∧10000-c≤10000:=by omega
 have wn:zA (10000-c)=10000-c:=zP;have hw:=yV3 hp hm hc;unfold uU at hw⊢;have hpn:=wP zn.1 zn.2 hn.1 hn.2;have eV:=vOs d0 d1 d2 d3 d4 d5 d6 d7 d8 (10000-c);rw[e2] at eV;unfold RT;rw[ab (show¬p<0 by omega),ab (show¬m<0 by omega),ab (show¬c<0 by omega),ab (show¬c>10000 by omega),e1,wn];simp only[ak,ae];rw[aa1];generalize 10000-c=n at*
 have u0:=wP n0.1 (show d0≤65535 by omega) hn.1 hn.2;have u1:=wP n1.1 (show d1≤65535 by omega) hn.1 hn.2;have u2:=wP n2.1 (show d2≤65535 by omega) hn.1 hn.2;have u3:=wP n3.1 (show d3≤65535 by omega) hn.1 hn.2;have u4:=wP n4.1 (show d4≤65535 by omega) hn.1 hn.2;have u5:=wP n5.1 (show d5≤65535 by omega) hn.1 hn.2;have u6:=wP n6.1 (show d6≤65535 by omega) hn.1 hn.2;have u7:=wP n7.1 (show d7≤65535 by omega) hn.1 hn.2;have u8:0≤d8*n∧d8*n≤0:=by rw[n8,Int.zero_mul];omega
 generalize d0*n=t0 at*
 generalize d1*n=t1 at*
 generalize d2*n=t2 at*
 generalize d3*n=t3 at*
 generalize d4*n=t4 at*
 generalize d5*n=t5 at*
 generalize d6*n=t6 at*
 generalize d7*n=t7 at*
 generalize d8*n=t8 at*
 rw[zP (x:=t0),zP (x:=t1),zP (x:=t2),zP (x:=t3),zP (x:=t4),zP (x:=t5),zP (x:=t6),zP (x:=t7),zP (x:=t8)];obtain⟨e0,e1,e2,e3,e4,e5,e6,e7,e8,f1,f2,k0,k1,k2,k3,k4,k5,k6,k7,k8⟩:=vF3 (l0:=t0) (l1:=t1) (l2:=t2) (l3:=t3) (l4:=t4) (l5:=t5) (l6:=t6) (l7:=t7) (l8:=t8) (by omega) (by omega) (by omega) (by omega) (by omega) (by omega) (by omega) (by omega) (by omega);rw[f1];simp only[ae];rw[←eV] at f2;have z8:e8≤0:=by unfold V9 at f2;omega
 rw[vS7 k0 k1 k2 k3 k4 k5 k6 k7 ⟨k8,z8⟩ (by rw[f2];exact hw.2),f2];rfl
theorem qWg k x y:Hs k x.1 x.2.1 x.2.2.1 x.2.2.2.1 x.2.2.2.2.1 x.2.2.2.2.2.1 x.2.2.2.2.2.2 y.1 y.2.1 y.2.2.1 y.2.2.2.1 y.2.2.2.2.1 y.2.2.2.2.2.1 y.2.2.2.2.2.2=some (wE x y):=by
 unfold Hs wE;grind
theorem aa6 k {a b}(ha:0≤a∧a≤4611686018427387904)(hb:0≤b∧b≤1152921504606846976):Ht k a b=some (a+b,true):=by
 unfold Ht;rw[zP (x:=a+b),zP (x:=9223372036854775807-b),ab (show¬a>9223372036854775807-b by omega),ab (show¬b<0 by omega)];simp
theorem qPl {sa pr h}(L:kq sa pr h):zo 9999 sa pr h=some (gH sa pr h,true):=by
 have h3:=L.n3;obtain ⟨s', g1, g2⟩ := vA (L := fun n i (v : Int) => MJ 9999 n sa pr h v i) (N := sa.length) (fun v => (.inl v : Int ⊕ Int × Bool)) (fun i v => v = qJ (oC sa pr h) i) (fun n v _=>by
  show Hu 9999 _ sa pr h v (sa.length:Int)=_;unfold Hu;simp) (fun n i v hi hv=>by
  refine⟨v+oC sa pr h i,?_,by rw[hv];rfl⟩;show Hu 9999 (MJ 9999 n) sa pr h v (i:Int)=_;unfold Hu;have hw:=L7 L hi;have hb:=Rc (g:=oC sa pr h) (n:=i) (fun j hj=>L7 L (by omega));have ed:sa.getD i (0,0)=sa.getD i uV:=rfl;rw[aa (by grind),qB,qB,qB,aa hi,aa (show i<pr.length by rw[L.pl];exact hi),aa (show i<h.length by rw[L.hl];exact hi),ao,ed,aa5 (L.price i hi) (L.hold i hi) (L.cut i hi)];simp only[ae];have e:uU (pr.getD i 0) (h.getD i 0) (sa.getD i uV).2=oC sa pr h i:=rfl;rw[e,aa6 _ (by omega) hw,qD hi (by omega)];rfl) (n:=9999) (s:=0) (by omega) rfl
 unfold zo;rw[aa (show(pr.length:Int)=(sa.length:Int) by rw[L.pl]),aa (show(h.length:Int)=(sa.length:Int) by rw[L.hl]),g1,g2];rfl
theorem CF {α:Type}{d}(l:List α){i} h:l.getD i d=l[i]:=by
 simp_all
theorem vn {k l}(hk:l.length<k)(hl:yB l) id:oF k l id=some (iG l id):=by
 unfold yB at hl;unfold oF;rw[LP hk (by omega)];unfold fi iG;cases hp:vX l id with
 |none=>rfl
 |some x=>
  have hx:=(kZ hp).1;have e1:decide ((x:Int)<0)=false:=ab;have e2:decide ((0:Int)≤(x:Int))=true:=by simp
  have e3:decide ((x:Int)≤(l.length:Int))=true:=aa;have e4:decide ((0:Int)≤((x+1:Nat):Int))=true:=aa;have e5:decide (((x+1:Nat):Int)≤(l.length:Int))=true:=aa;have l1:=List.length_take_le x l;have l2:(l.drop (x+1)).length≤l.length:=by rw[List.length_drop];omega
  have e6:zL (0+(l.take x).length) 56=true:=qF;have e7:zL ((l.take x).length+(l.drop (x+1)).length) 56=true:=qF;simp only[ae,e3,e5,qD hx (show l.length<9223372036854775808 by omega),qB,aa hx,ao,e6,e7];rfl
theorem qXo (q p:zJ):jc q p= !wE p q:=by
 unfold jc wE;rcases Int.lt_trichotomy q.2.1 p.2.1 with h|h|h
 ·have h1:¬p.2.1<q.2.1:=by omega
  have h2:¬p.2.1=q.2.1:=by omega
  simp[h,h1,h2]
 ·rcases Int.lt_trichotomy q.2.2.2.2.1 p.2.2.2.2.1 with g|g|g
  ·have g1:¬p.2.2.2.2.1≤q.2.2.2.2.1:=by omega
   simp[h,g,g1]
  ·simp[h,g]
  ·have g1:¬q.2.2.2.2.1<p.2.2.2.2.1:=by omega
   have g2:p.2.2.2.2.1≤q.2.2.2.2.1:=by omega
   simp[h,g1,g2]
 ·have h1:¬q.2.1<p.2.1:=by omega
  have h2:¬q.2.1=p.2.1:=by omega
  simp[h,h1,h2]
theorem RU {k}{l:List zJ}(hl:l.length≤9999){x}(hx:x≤l.length) y:CG k l x y.1 y.2.1 y.2.2.1 y.2.2.2.1 y.2.2.2.2.1 y.2.2.2.2.2.1 y.2.2.2.2.2.2=some (l.take x++(y::l.drop x)):=by
 unfold CG;have e1:(decide (0≤(x:Int))&&decide ((x:Int)≤((l.length:Nat):Int)))=true:=by simp_all
 have e2:zL (0+(l.take x).length) 56=true:=qF (by grind) (by grind);have e3:zL ((l.take x).length+1) 56=true:=qF (by grind) (by grind);rw[e1,ao,e2,e3];have e4:zL ((l.take x++[(y.1,(y.2.1,(y.2.2.1,(y.2.2.2.1,(y.2.2.2.2.1,(y.2.2.2.2.2.1,y.2.2.2.2.2.2))))))]).length+(l.drop x).length) 56=true:=qF (by grind) (by grind);grind
theorem yCm {k}{l:List zJ}(hk:l.length<k)(hl:l.length≤9999) y:Hv k l y.1 y.2.1 y.2.2.1 y.2.2.2.1 y.2.2.2.2.1 y.2.2.2.2.2.1 y.2.2.2.2.2.2=some (((l.takeWhile (fun q=>wE q y)).length:Nat):Int):=by
 have := Gl (L := fun n i => Hw k n l i y.1 y.2.1 y.2.2.1 y.2.2.2.1 y.2.2.2.2.1 y.2.2.2.2.2.1 y.2.2.2.2.2.2) (N := l.length) (fun x => wE (l.getD x pd) y) (fun i => (i : Int)) (fun n=>by
  show Hy k _ l l.length _ _ _ _ _ _ _=_;unfold Hy;simp) (fun n i hi=>by
  show Hy k _ l i _ _ _ _ _ _ _=_;unfold Hy;have h1:=qWg k (l.getD i pd) y;simp only[qB,qZ,ao,aa hi,ag,h1,ae,qD hi (by grind)]
  ) l.length 0 k (by omega) hk
 have e:((0:Nat):Int)=0:=rfl;unfold Hv;have h':Hw k k l 0 y.1 y.2.1 y.2.2.1 y.2.2.2.1 y.2.2.2.2.1 y.2.2.2.2.2.1 y.2.2.2.2.2.2=_:=this;rw[h',Gm (fun q=>wE q y) l pd l.length 0 (by omega),List.drop_zero,Nat.zero_add];rfl
theorem aa7 {k:Nat}{l:List zJ}(hk:l.length<k)(hl:l.length≤9999)(p:zJ):
  CH k l p.1 p.2.1 p.2.2.1 p.2.2.2.1 p.2.2.2.2.1 p.2.2.2.2.2.1 p.2.2.2.2.2.2=some (bif (vX l p.1).isSome then(l,6) else bif decide (40≤l.length) then(l,3) else(pz l p,0)):=by
 unfold CH;rw[LP hk (by omega)];unfold fi;cases hp:vX l p.1 with
 |some x=>
  have e1:decide ((x:Int)≥0)=true:=aa;simp only[ae,e1,ag,Option.isSome_some]
 |none=>
  have e1:decide ((-1:Int)≥0)=false:=rfl;simp only[ae,e1,ak,Option.isSome_none];by_cases h:40≤l.length
  ·rw[aa h,aa (show(l.length:Int)≥40 by omega)];rfl
  ·rw[ab h,ab (show¬(l.length:Int)≥40 by omega)];simp only[ak];rw[yCm hk hl p];simp only[ae];rw[RU hl (Cn _ l) p,(ow _ l).1,(ow _ l).2];rfl
theorem vPo {k l}(bK:l.length<k)(hl:yB l){id x}(hx:vX l id=some x) c:
  MK k l id c=some (pz (yN l x) ((l.getD x pd).1,(l.getD x pd).2.1,(l.getD x pd).2.2.1,(l.getD x pd).2.2.2.1,c,(l.getD x pd).2.2.2.2.2.1,(l.getD x pd).2.2.2.2.2.2),0):=by
 have du:=kZ hx;have hlen:=ou du.1;have dL:=hl;unfold yB at dL;unfold MK;rw[vn bK hl];unfold iG;rw[hx];simp only[ae];have h1:=yCm (k:=k) (l:=yN l x) (by omega) (by omega) ((l.getD x pd).1,(l.getD x pd).2.1,(l.getD x pd).2.2.1,(l.getD x pd).2.2.2.1,c,(l.getD x pd).2.2.2.2.2.1,(l.getD x pd).2.2.2.2.2.2);rw[h1];simp only[ae];have h2:=RU (k:=k) (l:=yN l x) (by omega) (Cn (fun q=>wE q ((l.getD x pd).1,(l.getD x pd).2.1,(l.getD x pd).2.2.1,(l.getD x pd).2.2.2.1,c,(l.getD x pd).2.2.2.2.2.1,(l.getD x pd).2.2.2.2.2.2)) (yN l x)) ((l.getD x pd).1,(l.getD x pd).2.1,(l.getD x pd).2.2.1,(l.getD x pd).2.2.2.1,c,(l.getD x pd).2.2.2.2.2.1,(l.getD x pd).2.2.2.2.2.2);rw[h2,(ow _ (yN l x)).1,(ow _ (yN l x)).2];rfl
theorem aa8 {k l}(bK:l.length<k)(hl:yB l){id x}(hx:vX l id=some x):
  ML k l id=some (pz (yN l x) (l.getD x pd),0):=by
 have du:=kZ hx;have hlen:=ou du.1;have dL:=hl;unfold yB at dL;unfold ML;rw[vn bK hl];unfold iG;rw[hx];simp only[ae];rw[yCm (k:=k) (l:=yN l x) (by omega) (by omega) (l.getD x pd)];simp only[ae];rw[RU (k:=k) (l:=yN l x) (by omega) (Cn (fun q=>wE q (l.getD x pd)) (yN l x)) (l.getD x pd),(ow _ (yN l x)).1,(ow _ (yN l x)).2];rfl
theorem aa9 {k l}(bK:l.length<k)(hl:yB l){id x}(hx:vX l id=some x):
  MM k l id=some (LV (yN l x) (l.getD x pd),0):=by
 have du:=kZ hx;have hlen:=ou du.1;have dL:=hl;unfold yB at dL;have MN:∀(l:List zJ),l.length<k→l.length≤9999→∀p:zJ,MO k k l 0 p=some (l,(((l.takeWhile (fun q=>jc q p)).length:Nat):Int),p):=by
  intro l bK hl p;have := Gl (L := fun n i => MO k n l i p) (N := l.length) (fun x => jc (l.getD x pd) p) (fun i => (l, (i : Int), p)) (fun n=>by
   show Hz k _ l l.length p=_;unfold Hz;simp) (fun n i hi=>by
   show Hz k _ l i p=_;unfold Hz;have h1:=qWg k p (l.getD i pd);simp only[qB,qZ,ao,aa hi,h1,qD hi (by grind),qXo];rfl) l.length 0 k (by omega) bK
  have e:((0:Nat):Int)=0:=rfl;rw[e] at this;rw[this,Gm (fun q=>jc q p) l pd l.length 0 (by omega),List.drop_zero,Nat.zero_add]
 unfold MM;rw[vn bK hl];unfold iG;rw[hx];have h1:=MN (yN l x) (by omega) (by omega) (l.getD x pd);refine(congrArg (fun z=>Option.bind z _) h1).trans ?_;simp only[ae];rw[RU (k:=k) (l:=yN l x) (by omega) (Cn (fun q=>jc q (l.getD x pd)) (yN l x)) (l.getD x pd),(ow _ (yN l x)).1,(ow _ (yN l x)).2];rfl
theorem vVw {k:Nat}{l:AC}(hk:l.length<k)(hl:l.length≤9999)(id:Int):CI k l id=some (decide (id∈l)):=by
 have := eQ (L := fun n i => tu k n l id i) (N := l.length) (fun i => !decide (l.getD i 0 = id)) (.inl ()) (.inr true) (fun n=>by
  show tv k _ l id l.length=_;unfold tv;rw [ab (Int.lt_irrefl _)]; rfl) (fun n i hi=>by
  show tv k (tu k n) l id i=_;unfold tv;rw[aa (show(i:Int)<l.length by omega),qB,aa hi,ao,qD hi (by omega)];cases decide (l.getD i 0=id)<;>rfl) hk
 unfold CI;have h':tu k k l id 0=_:=this;rw[h'];have e:zY (fun i=> !decide (l.getD i 0=id)) l.length 0= !decide (id∈l):=by
  by_cases hm:id∈l
  ·rw[aa hm];cases ha:zY (fun i=> !decide (l.getD i 0=id)) l.length 0 with
   |false=>rfl
   |true=>
    obtain⟨i,hi,e⟩:=List.getElem_of_mem hm;have:=wJ.1 ha i hi;rw[CF l hi,e] at this;simp at this
  ·rw[ab hm];refine wJ.2 fun i hi=>?_
   rw[ab (show¬l.getD i 0=id from fun e=>hm (by rw[←e];exact fD hi))];rfl
 rw[e];cases decide (id∈l)<;>rfl
theorem vQ9 {k:Nat}{l:AC}(hk:l.length<k)(hl:l.length≤9999)(id:Int):
  CJ k l id=some (bif decide (id∈l) then(l,6) else bif decide (200≤l.length) then(l,3) else(qz l id,0)):=by
 unfold CJ;rw[vVw hk hl];simp only[ae];by_cases hm:id∈l
 ·rw[aa hm];rfl
 ·rw[ab hm];simp only[ak];by_cases h:200≤l.length
  ·rw[aa h,aa (show(l.length:Int)≥200 by omega)];rfl
  ·rw[ab h,ab (show¬(l.length:Int)≥200 by omega)];have := Gl (L := fun n i => MP k n l id i) (N := l.length) (fun x => decide (l.getD x 0 < id)) (fun i => (l, id, (i : Int))) (fun n=>by
    show HA k _ l id l.length=_;unfold HA;simp only [qZ, ab (Nat.lt_irrefl _), ak]) (fun n i hi=>by
    show HA k _ l id i=_;unfold HA;simp only[qB,qZ,ao,aa hi,ag,qD hi (show l.length<9223372036854775808 by omega)];rfl) l.length 0 k (by omega) hk
   have e:((0:Nat):Int)=0:=rfl;rw[e,Gm (fun x=>decide (x<id)) l 0 l.length 0 (by omega),List.drop_zero,Nat.zero_add] at this;have h':MP k k l id 0=_:=this;simp only[ak];rw[h'];have hn:=Cn (fun x=>decide (x<id)) l;obtain⟨t1,t2⟩:=ow (fun x=>decide (x<id)) l;have e1:(decide (0≤(((l.takeWhile (fun x=>decide (x<id))).length:Nat):Int))&&decide ((((l.takeWhile (fun x=>decide (x<id))).length:Nat):Int)≤((l.length:Nat):Int)))=true:=by simp;exact hn
   have hd:=(List.dropWhile_sublist (fun x=>decide (x<id)) (l:=l)).length_le;simp only[ae,e1,ag,ao,t1,t2];rw[qF (n:=0+(l.takeWhile (fun x=>decide (x<id))).length) (by omega) (by omega),qF (n:=(l.takeWhile (fun x=>decide (x<id))).length+1) (by omega) (by omega),qF (n:=(l.takeWhile (fun x=>decide (x<id))++[id]).length+(l.dropWhile (fun x=>decide (x<id))).length) (by rw[ay];simp;omega) (by rw[ay];simp;omega)];simp only[ag];unfold qz;simp
abbrev aba:=Int×List oz×Int×Int×Int×Int×List yG×jM×AC×jM×AC×jM×List zJ×AC×Int×Bool×Int
def gJ (r:qQ)(s:qI)(who:Int):aba:=(r.1,r.2.1,r.2.2.1,r.2.2.2.1,r.2.2.2.2,s.t,s.B.1,s.B.2.1,s.B.2.2.1,s.B.2.2.2,s.pr,s.ho,s.m,s.ids,s.to,s.ov,who)
def RV (s:qI)(i:Nat)(a:yG)(to:Int):qI:={s with B:=(s.B.1.set i a,s.B.2.1,s.B.2.2.1,s.B.2.2.2),to:=to}
def MQ (s:qI)(i:Nat)(n:Int):Int×qI:=
 bif decide ((s.B.1.getD i ad).1+(s.B.1.getD i ad).2.1-(s.B.1.getD i ad).2.2<n) then(9,s)
 else bif decide (s.to-n<0) then(9,s)
 else bif !decide ((jX (s.B.1.getD i ad) (-n)).2=0) then((jX (s.B.1.getD i ad) (-n)).2,s)
 else bif decide (s.to-n>1152921504606846976) then(8,s)
 else(0,RV s i (jX (s.B.1.getD i ad) (-n)).1 (s.to-n))
def MR (s:qI)(i:Nat)(n:Int):Int×qI:=
 bif !decide ((jX (s.B.1.getD i ad) n).2=0) then((jX (s.B.1.getD i ad) n).2,s)
 else bif decide (s.to+n>1152921504606846976) then(8,s)
 else(0,RV s i (jX (s.B.1.getD i ad) n).1 (s.to+n))
def lq (r:qQ)(s:qI)(kd to n:Int):Int×qI:=
 bif !(decide (to≥0)&&decide (to≤r.1-1)) then(1,s)
 else bif !(decide (n≥1)&&decide (n≤1099511627776)) then(1,s)
 else bif decide (kd=11) then MQ s to.toNat n else MR s to.toNat n
theorem abb {k}(hk:9999≤k){r}(hr:jC r){s}(h:yJ r s) who kd to n:
    ∃d,HB k (gJ r s who) kd to n=some ((lq r s kd to n).1,d)∧((lq r s kd to n).1=0→d=dk r (lq r s kd to n).2 who []):=by
  have hp:=hr.pa;have hn:=h.n;have ht:=h.tot;have w1:zA (r.1-1)=r.1-1:=zP;have eD:HB k (gJ r s who) kd to n=(vK k to 0 (zA (r.1-1))).bind fun x0=>
    bif !x0 then some (1,dk r s who [])
    else(vK k n 1 1099511627776).bind fun x1=>
    bif !x1 then some (1,dk r s who [])
    else bif zB to s.B.1.length then ((HC k (s.B.1.getD to.toNat (0,0,0)) n).bind fun x2=>
      bif decide (kd = 11) then ((HD k (s.B.1.getD to.toNat (0,0,0)) n 3).bind fun x3=>
       (HE k (s.B.1.getD to.toNat (0,0,0)) 3).bind fun x4=>
       bif decide (x4<n) then some (9,dk r s who [])
       else bif decide ((zA (s.to-n))<0) then some (9,dk r s who [])
       else bif !(decide (x3.2=0)) then some (x3.2,dk r s who [])
       else bif decide ((zA (s.to-n))>1152921504606846976) then some (8,dk r s who [])
       else(gG k s.B.1 s.B.2.1 s.B.2.2.1 s.B.2.2.2).bind fun x5=>
       bif zB to x5.1.length then some (0,dk r {s with B:=(x5.1.set to.toNat x3.1,x5.2.1,x5.2.2.1,x5.2.2.2),to:=zA (s.to-n)} who [])
       else none)
      else bif !(decide (x2.2=0)) then some (x2.2,dk r s who [])
      else bif decide ((zA (s.to+n))>1152921504606846976) then some (8,dk r s who [])
      else(gG k s.B.1 s.B.2.1 s.B.2.2.1 s.B.2.2.2).bind fun x6=>
      bif zB to x6.1.length then some (0,dk r {s with B:=(x6.1.set to.toNat x2.1,x6.2.1,x6.2.2.1,x6.2.2.2),to:=zA (s.to+n)} who [])
      else none)
    else none:=rfl
  rw[eD,w1,nB,nB,Le (by omega) h.bk.toSized];simp only[ae];unfold lq;cases hc:decide (to≥0)&&decide (to≤r.1-1) with
  |false=>exact by simp
  |true=>
  simp only[aR,ba] at hc;cases hm:decide (n≥1)&&decide (n≤1099511627776) with
  |false=>exact by simp
  |true=>
  simp only[aR,ba] at hm;obtain⟨i,rfl⟩:=Int.eq_ofNat_of_zero_le hc.1;have hi:i<s.B.1.length:=by omega
  have hb:=h.bk.nums.bal i hi;have kP:=h.bk.nums.res i hi;have hcr:=h.most i hi;have abc:0≤(s.B.1.getD i ad).2.1:=by rw[h.cred i hi];exact GB (h.laid i hi)
  have b0:zB (i:Int) s.B.1.length=true:=by rw[qB,aa hi]
  have MS:HC k (s.B.1.getD i (0,0,0)) n=some (jX (s.B.1.getD i ad) n):=by
    unfold HC;rw[yTi hb (by omega)];rfl
  have MU:HD k (s.B.1.getD i (0,0,0)) n 3=some (jX (s.B.1.getD i ad) (-n)):=by
    unfold HD;rw[show zA (0-n)= -n by rw[zP];omega,yTi hb (by omega)];simp
  have zp:HE k (s.B.1.getD i (0,0,0)) 3=some ((s.B.1.getD i ad).1+(s.B.1.getD i ad).2.1-(s.B.1.getD i ad).2.2):=by
    unfold HE;have d1:decide ((3:Int)=3)=true:=rfl;rw[d1,ag];have q1:zA ((s.B.1.getD i (0,0,0)).1+(s.B.1.getD i (0,0,0)).2.1)=(s.B.1.getD i ad).1+(s.B.1.getD i ad).2.1:=zP (by simp only[ad] at*;omega) (by simp only[ad] at*;omega);rw[q1];exact congrArg some (zP (by simp only[ad] at*;omega) (by simp only[ad] at*;omega))
  have q2:zA (s.to-n)=s.to-n:=zP;have q3:zA (s.to+n)=s.to+n:=zP;simp only[aA,ak,b0,ag,ao,MS,MU,zp,ae,q2,q3];clear MS MU zp eD;cases decide (kd=11) with
  |true=>
    simp only[ag];unfold MQ;cases decide ((s.B.1.getD i ad).1+(s.B.1.getD i ad).2.1-(s.B.1.getD i ad).2.2<n) with
    |true=>exact by simp
    |false=>
    cases decide (s.to-n<0) with
    |true=>exact by simp
    |false=>
    cases hz:decide ((jX (s.B.1.getD i ad) (-n)).2=0) with
    |false=>exact by simp
    |true=>
    cases decide (s.to-n>1152921504606846976) with
    |true=>exact by simp
    |false=>exact⟨_,rfl,fun _=>rfl⟩
  |false=>
    simp only[ak];unfold MR;cases hz:decide ((jX (s.B.1.getD i ad) n).2=0) with
    |false=>exact by simp
    |true=>
    cases decide (s.to+n>1152921504606846976) with
    |true=>exact by simp
    |false=>exact⟨_,rfl,fun _=>rfl⟩
def gK (sa:List oz)(pr:AC)(ho:jM)(j:Nat):Int:=gH sa pr (ho.getD j [])
def vp (sa:List oz)(pr:AC)(ho:jM)(a:List yG):List yG:=(List.range a.length).map fun j=>((a.getD j ad).1,gK sa pr ho j,(a.getD j ad).2.2)
def HF (r:qQ)(s:qI)(pr:AC):Int×qI:=
 bif zY (fun j=> !decide (gK r.2.1 pr s.ho j>1152921504606846976)) s.B.1.length 0 then(0,{s with B:=(vp r.2.1 pr s.ho s.B.1,s.B.2.1,s.B.2.2.1,s.B.2.2.2),pr:=pr}) else(8,s)
def lr (r:qQ)(s:qI)(a p:Int):Int×qI:=
 bif !(decide (a≥0)&&decide (a≤(r.2.1.length:Int)-1)) then(1,s)
 else bif !(decide (p≥0)&&decide (p≤1048576)) then(1,s)
 else HF r s (s.pr.set a.toNat p)
theorem yC0 sa pr ho a:(vp sa pr ho a).length=a.length:=by simp[vp]
theorem yE8 sa pr ho a {j}(hj:j<a.length):(vp sa pr ho a).getD j ad=((a.getD j ad).1,gK sa pr ho j,(a.getD j ad).2.2):=by
 unfold vp;simp_all
theorem vRe {k:Nat}(hk:9999≤k){r:qQ}{s:qI}(who:Int){pr:AC}(hL:∀i,i<s.B.1.length→kq r.2.1 pr (s.ho.getD i []))(hol:s.ho.length=s.B.1.length)(hZ:s.B.1.length≤6):
  (zY (fun j=> !decide (gK r.2.1 pr s.ho j>1152921504606846976)) s.B.1.length 0=true∧vq k k s.ho s.ho.length 0 (gJ r s who) pr s.B.1 s.B.2.1 s.B.2.2.1 s.B.2.2.2=some (.inl (gJ r s who,pr,vp r.2.1 pr s.ho s.B.1,s.B.2.1,s.B.2.2.1,s.B.2.2.2)))∨
  (zY (fun j=> !decide (gK r.2.1 pr s.ho j>1152921504606846976)) s.B.1.length 0=false∧vq k k s.ho s.ho.length 0 (gJ r s who) pr s.B.1 s.B.2.1 s.B.2.2.1 s.B.2.2.2=some (.inr (8,gJ r s who))):=by
 rw[hol];have:=Lt (L:=fun n i (a:List yG)=>vq k n s.ho s.B.1.length i (gJ r s who) pr a s.B.2.1 s.B.2.2.1 s.B.2.2.2) (N:=s.B.1.length) (fun j=> !decide (gK r.2.1 pr s.ho j>1152921504606846976))
  (fun a=>.inl (gJ r s who,pr,a,s.B.2.1,s.B.2.2.1,s.B.2.2.2)) (.inr (8,gJ r s who))
  (fun i a => a.length = s.B.1.length ∧ ∀ j, j < s.B.1.length → a.getD j ad = if j < i then ((s.B.1.getD j ad).1, gK r.2.1 pr s.ho j, (s.B.1.getD j ad).2.2) else s.B.1.getD j ad) (fun n a _=>by
   show HG k _ s.ho s.B.1.length s.B.1.length (gJ r s who) pr a s.B.2.1 s.B.2.2.1 s.B.2.2.2=_;unfold HG;simp only [qZ, ab (Nat.lt_irrefl _), ak]) (fun n i a hi ha=>by
   have hv:=yDz (k:=k) (hL i hi) (by omega);have aI:vq k (n+1) s.ho s.B.1.length i (gJ r s who) pr a s.B.2.1 s.B.2.2.1 s.B.2.2.2=bif decide (gK r.2.1 pr s.ho i>1152921504606846976) then some (.inr (8,gJ r s who)) else vq k n s.ho s.B.1.length ((i+1:Nat):Int) (gJ r s who) pr (a.set i ((a.getD i ad).1,gK r.2.1 pr s.ho i,(a.getD i ad).2.2)) s.B.2.1 s.B.2.2.1 s.B.2.2.2:=by
    show HG k _ s.ho s.B.1.length i (gJ r s who) pr a s.B.2.1 s.B.2.2.1 s.B.2.2.2=_;unfold HG;have iT:nv k (gJ r s who).2.1 pr (s.ho.getD i [])=some (gK r.2.1 pr s.ho i,true):=hv;simp only[qZ,qB,ao,aa hi,aa (show i<s.ho.length by omega),aa (show i<a.length by rw[ha.1];exact hi),ag,iT,ae,aA,ak,qD hi (show s.B.1.length<9223372036854775808 by omega)];rfl
   refine⟨fun ho=>?_,fun ho=>?_⟩
   ·have h1:decide (gK r.2.1 pr s.ho i>1152921504606846976)=false:=by simpa using ho
    refine⟨_,by rw[aI,h1];rfl,by rw[List.length_set];exact ha.1,fun j hj=>?_⟩;rw[fF];by_cases e:i=j
    ·subst e;rw[if_pos ⟨rfl,by rw[ha.1];exact hi⟩,if_pos (by omega),ha.2 i hi,if_neg (Nat.lt_irrefl _)]
    ·rw[if_neg (by omega),ha.2 j hj];by_cases h:j<i
     ·rw[if_pos h,if_pos (by omega)]
     ·rw[if_neg h,if_neg (by omega)]
   ·have h1:decide (gK r.2.1 pr s.ho i>1152921504606846976)=true:=by simpa using ho
    rw[aI,h1];rfl) s.B.1.length 0 k s.B.1 (by omega) (by omega) ⟨rfl,fun j _=>by rw[if_neg (Nat.not_lt_zero _)]⟩
 rcases this with⟨h1,a,h2,h3,h4⟩|⟨h1,h2⟩
 ·refine .inl ⟨h1,?_⟩;have e:a=vp r.2.1 pr s.ho s.B.1:=EW ad (by rw[h3,yC0]) fun j hj=>by
   rw[h3] at hj;rw[h4 j hj,if_pos hj,yE8 _ _ _ _ hj]
  rw[←e];exact h2
 ·exact .inr ⟨h1,h2⟩
theorem vYe {k:Nat}(hk:9999≤k){r:qQ}(hr:jC r){s:qI}(h:yJ r s)(who a p:Int):
  ∃d,RW k (gJ r s who) a p=some ((lr r s a p).1,d)∧((lr r s a p).1=0→d=dk r (lr r s a p).2 who []):=by
 have h3:=hr.n3;have hZ:=h.bk.n6;have pj:=h.bk.n1;have w1:zA ((r.2.1.length:Int)-1)=(r.2.1.length:Int)-1:=zP;have eD:RW k (gJ r s who) a p=((vK k a 0 (zA ((r.2.1.length:Int)-1))).bind fun x0=>some x0).bind fun x0=>
  bif !x0 then some (1,dk r s who [])
  else(vK k p 0 1048576).bind fun x1=>
  bif !x1 then some (1,dk r s who [])
  else(rj k s.pr a p).bind fun x2=>
  (gG k s.B.1 s.B.2.1 s.B.2.2.1 s.B.2.2.2).bind fun x3=>
  (vq k k s.ho (s.ho.length:Int) 0 (gJ r s who) x2 x3.1 x3.2.1 x3.2.2.1 x3.2.2.2).bind fun z=>
  match z with
  |.inl z1=>some (0,(jF z1.1 (CK z1 (z1.2.1,(yBa z1.1 [])))))
  |.inr z2=>some (jK z2 []):=rfl
 rw[eD,w1,nB,nB,Le (by omega) h.bk.toSized];simp only[ae];unfold lr;cases hc:decide (a≥0)&&decide (a≤(r.2.1.length:Int)-1) with
 |false=>exact⟨_,rfl,fun e=>by cases e⟩
 |true=>
 simp only[aR,ba] at hc;cases hm:decide (p≥0)&&decide (p≤1048576) with
 |false=>exact⟨_,rfl,fun e=>by cases e⟩
 |true=>
 simp only[aR,ba] at hm;obtain⟨i,rfl⟩:=Int.eq_ofNat_of_zero_le hc.1;have hi:i<r.2.1.length:=by omega
 have L0:=h.laid 0 (by omega);have mG:rj k s.pr (i:Int) p=some (s.pr.set i p):=by
  have:=yNm (k:=k) (l:=s.pr) (by rw[L0.pl];omega) (i:=(i:Int)) (by omega) (by rw[L0.pl];omega) p;rw[ao] at this;exact this
 simp only[aA,ak,mG,ae,ao];unfold HF;rcases vRe (r:=r) (s:=s) hk who (pr:=s.pr.set i p) (fun j hj=>(h.laid j hj).setP hi ⟨by omega,by omega⟩) h.hol hZ with⟨g1,g2⟩|⟨g1,g2⟩
 ·rw[g2,g1];exact⟨_,rfl,fun _=>rfl⟩
 ·rw[g2,g1];exact⟨_,rfl,fun e=>by cases e⟩
theorem MV {q p}:wE q p=true↔q.2.1<p.2.1∨(q.2.1=p.2.1∧q.2.2.2.2.1≤p.2.2.2.2.1):=by
 unfold wE;simp
theorem yFg {q p}:jc q p=true↔q.2.1<p.2.1∨(q.2.1=p.2.1∧q.2.2.2.2.1<p.2.2.2.2.1):=by
 unfold jc;simp
theorem yYg {a b c}(h:wE a b=true)(g:wE b c=true):wE a c=true:=by
 rw[MV] at*;omega
theorem vSr {a b}(h:¬wE a b=true):wE b a=true:=by
 rw[MV] at*;omega
theorem abd {a b}(h:jc a b=true):wE a b=true:=by
 rw[yFg] at h;rw[MV];omega
theorem abe {a b}(h:¬jc a b=true):wE b a=true:=by
 rw[yFg] at h;rw[MV];omega
theorem vC5 f l (p:zJ):List.Perm (l.takeWhile f++(p::l.dropWhile f)) (p::l):=by
 have:=List.perm_middle (a:=p) (l₁:=l.takeWhile f) (l₂:=l.dropWhile f);simp_all
theorem vJl {l:List zJ}(hs:nA l)(p:zJ)(f:zJ→Bool)(h1:∀q,f q=true→wE q p=true)(h2:∀q,¬f q=true→wE p q=true):nA (l.takeWhile f++(p::l.dropWhile f)):=by
 have pZ:=hs;unfold nA at hs pZ⊢;rw[←List.takeWhile_append_dropWhile (p:=f) (l:=l)] at hs;obtain⟨a1,a2,a3⟩:=List.pairwise_append.1 hs;have htw:∀q∈l.takeWhile f,f q=true:=fun q hq=>List.all_eq_true.1 (List.all_takeWhile (p:=f) (l:=l)) q hq
 have hdw:∀q∈l.dropWhile f,wE p q=true:=by
  cases hd:l.dropWhile f with
  |nil=>intro q hq;cases hq
  |cons x m=>
   have hx:¬f x=true:=by
    have bx:l.dropWhile f≠[]:=by rw[hd];simp
    have:=List.head_dropWhile_not f bx;have e:(l.dropWhile f).head bx=x:=by simp only[hd,List.head_cons]
    rw[e] at this;simp[this]
   intro q hq;rcases List.mem_cons.1 hq with rfl|hq
   ·exact h2 _ hx
   ·rw[hd] at a2;exact yYg (h2 x hx) ((List.pairwise_cons.1 a2).1 q hq)
 refine List.pairwise_append.2 ⟨a1,List.pairwise_cons.2 ⟨hdw,a2⟩,fun a ha b hb=>?_⟩;rcases List.mem_cons.1 hb with rfl|hb
 ·exact h1 a (htw a ha)
 ·exact a3 a ha b hb
theorem qOy {l}(hs:nA l) p:nA (pz l p):=vJl hs p _ (by simp) (fun _ h=>vSr h)
theorem vUt {l}(hs:nA l) p:nA (LV l p):=vJl hs p _ (fun _ h=>abd h) (fun _ h=>abe h)
theorem qV4 l p:List.Perm (pz l p) (p::l):=vC5 _ l p
theorem vTd l p:List.Perm (LV l p) (p::l):=vC5 _ l p
theorem nA.cut {l}(h:nA l) x:nA (yN l x):=List.Pairwise.sublist (uT l x) h
theorem vZx {l:AC}(ha:qy l){id:Int}(hn:id∉l):qy (qz l id):=by
 unfold qz;have si:=ha;unfold qy at ha si⊢;rw[←List.takeWhile_append_dropWhile (p:=fun x=>decide (x<id)) (l:=l)] at ha;obtain⟨a1,a2,a3⟩:=List.pairwise_append.1 ha;have htw:∀q∈l.takeWhile (fun x=>decide (x<id)),q<id:=fun q hq=>by simpa using List.all_eq_true.1 (List.all_takeWhile (p:=fun x=>decide (x<id)) (l:=l)) q hq
 have hdw:∀q∈l.dropWhile (fun x=>decide (x<id)),id<q:=by
  cases hd:l.dropWhile (fun x=>decide (x<id)) with
  |nil=>intro q hq;cases hq
  |cons x m=>
   have By:x∈l:=(List.dropWhile_sublist _).subset (by rw[hd];exact List.mem_cons_self ..);have hx:¬x<id:=by
    have bx:l.dropWhile (fun x=>decide (x<id))≠[]:=by rw[hd];simp
    have:=List.head_dropWhile_not (fun x=>decide (x<id)) bx;have e:(l.dropWhile (fun x=>decide (x<id))).head bx=x:=by simp only[hd,List.head_cons]
    rw[e] at this
    simpa using this
   have bx:x≠id:=fun e=>hn (e▸By)
   intro q hq;rcases List.mem_cons.1 hq with rfl|hq
   ·omega
   ·rw[hd] at a2;have:=(List.pairwise_cons.1 a2).1 q hq;omega
 refine List.pairwise_append.2 ⟨a1,List.pairwise_cons.2 ⟨hdw,a2⟩,fun a ha b hb=>?_⟩;rcases List.mem_cons.1 hb with rfl|hb
 ·exact htw a ha
 ·exact a3 a ha b hb
theorem vO4 l id:List.Perm (qz l id) (id::l):=by
 have:=List.perm_middle (a:=id) (l₁:=l.takeWhile (fun x=>decide (x<id))) (l₂:=l.dropWhile (fun x=>decide (x<id)))
 rwa [List.takeWhile_append_dropWhile] at this
theorem lg.sub {n m m' ids}(h:lg n m ids)(hs:List.Sublist m' m):lg n m' ids:=
 ⟨List.Pairwise.sublist hs h.dist,by have:=hs.length_le;have:=h.len;omega,List.Pairwise.sublist hs h.sort,fun p hp=>h.may p (by grind),fun p hp=>h.time p (by grind),fun p hp=>h.were p (by grind),h.asc,h.pos,h.idl⟩
theorem lg.turn {n:Nat}{m:List zJ}{ids:AC}(h:lg n m ids){x:Nat}(hx:x<m.length){p:zJ}{m':List zJ}(hp:List.Perm m' (p::yN m x))(hs:nA m')(h1:p.1=(m.getD x pd).1)
  (h2:yR n p) (h3:0≤p.2.2.2.2.2.1∧p.2.2.2.2.2.1≤p.2.2.2.2.2.2∧p.2.2.2.2.2.2≤1048576):lg n m' ids:=by
 have hc:=uT m x;have hl:=ou hx;have hd:qP (p::yN m x):=by
  refine List.pairwise_cons.2 ⟨fun q hq=>?_,h.dist.cut x⟩;rw[h1];have hd:=h.dist;unfold qP at hd;rw[QZ m x pd hx] at hd;have LY:=List.pairwise_append.1 hd;have hd3:=List.pairwise_cons.1 LY.2.1;unfold yN at hq;rcases List.mem_append.1 hq with hq|hq
  ·exact fun e=>LY.2.2 _ hq _ (List.mem_cons_self ..) e.symm
  ·exact hd3.1 _ hq
 have hlen:=hp.length_eq;rw[List.length_cons] at hlen;refine⟨hd.perm hp,by have:=h.len;omega,hs,fun q hq=>?_,fun q hq=>?_,fun q hq=>?_,h.asc,h.pos,h.idl⟩;all_goals rcases List.mem_cons.1 (hp.subset hq) with rfl|pA
 ·exact h2
 ·exact h.may q (hc.subset pA)
 ·exact h3
 ·exact h.time q (hc.subset pA)
 ·rw[h1];exact h.were _ (fD hx)
 ·exact h.were q (hc.subset pA)
theorem abf {r:qQ}{s:qI}(hr:jC r)(h:yJ r s){who:Int}{f:jN}(h0:(jg r s who f).1=0):lg s.B.1.length (jg r s who f).2.1 (jg r s who f).2.2:=by
 have hw:=h.waits;have hn:=h.n;have ht:=h.tk;unfold jg at h0⊢;cases hc:decide (f.2.2.1≥0)&&decide (f.2.2.1≤r.1-1) with
 |false=>rw[hc] at h0;cases h0
 |true=>
 cases dq:decide (f.2.2.2.2.1≥1)&&decide (f.2.2.2.2.1≤3) with
 |false=>rw[hc,dq] at h0;cases h0
 |true=>
 cases dM:decide (nC r s.t (gd who f)=0) with
 |false=>rw[hc,dq,dM] at h0;exact absurd h0 (fW dM)
 |true=>
 cases gX:decide (f.2.1∈s.ids) with
 |true=>rw[hc,dq,dM,gX] at h0;cases h0
 |false=>
 cases np:decide (200≤s.ids.length) with
 |true=>rw[hc,dq,dM,gX,np] at h0;cases h0
 |false=>
 cases EO:(vX s.m f.2.1).isSome with
 |true=>rw[hc,dq,dM,gX,np,EO] at h0;cases h0
 |false=>
 cases EP:decide (40≤s.m.length) with
 |true=>rw[hc,dq,dM,gX,np,EO,EP] at h0;cases h0
 |false=>
 show lg s.B.1.length (pz s.m (gd who f)) (qz s.ids f.2.1);have Ph:f.2.1∉s.ids:=fW gX;have hi:=fW np;have hm:=fW EP;have CL:=uH dM;have hip:lh r.1 s.t (gd who f)=true:=by
  unfold nC at CL;cases hb:lh r.1 s.t (gd who f) with
  |true=>rfl
  |false=>rw[hb] at CL;cases CL
 unfold lh at hip;simp only[aR,ba,Bool.not_eq_true',decide_eq_false_iff_not] at hip;obtain⟨⟨p1,p2⟩,⟨p3,p4⟩,p5,p6,p7,p8,p9,uC,p11,p12,p13,p14⟩:=hip;have zn:=qV4 s.m (gd who f);have RX:=vO4 s.ids f.2.1;have hlen:=zn.length_eq;have ql:=RX.length_eq;rw[List.length_cons] at hlen ql;have ca:yR s.B.1.length (gd who f):=⟨p1,by omega,p3,by omega,p9,p6,p7,p8,uC⟩;have gC:∀x,x∈s.ids→x∈qz s.ids f.2.1:=fun x hx=>RX.symm.subset (List.mem_cons_of_mem _ hx)
 have MW:qP (gd who f::s.m):=List.pairwise_cons.2 ⟨fun q hq e=>Ph (by have:=hw.were q hq;rw[←e] at this;exact this),hw.dist⟩;refine⟨MW.perm zn,by omega,qOy hw.sort _,fun q hq=>?_,fun q hq=>?_,fun q hq=>?_,vZx hw.asc Ph,fun x hx=>?_,by omega⟩
 ·rcases List.mem_cons.1 (zn.subset hq) with rfl|pA
  ·exact ca
  ·exact hw.may q pA
 ·rcases List.mem_cons.1 (zn.subset hq) with rfl|pA
  ·exact⟨p11,p12,p14⟩
  ·exact hw.time q pA
 ·rcases List.mem_cons.1 (zn.subset hq) with rfl|pA
  ·exact RX.symm.subset (List.mem_cons_self ..)
  ·exact gC _ (hw.were q pA)
 ·rcases List.mem_cons.1 (RX.subset hx) with rfl|pW
  ·exact p5
  ·exact hw.pos x pW
theorem abg {r s}(h:yJ r s){who f}(h0:(lj r s who f).1=0):lg s.B.1.length (lj r s who f).2.1 s.ids:=by
 have hw:=h.waits;unfold lj at h0⊢;cases hx:vX s.m f.2.1 with
 |none=>omega
 |some x=>
 rw[hx] at h0;have du:=(kZ hx).1;have dp:s.m.getD x pd∈s.m:=by grind
 have hm:=hw.may _ dp;have ht:=hw.time _ dp;simp only at h0⊢;cases hc:decide ((s.m.getD x pd).2.1=who) with
 |false=>simp_all
 |true=>
 cases dq:decide (f.1=2) with
 |true=>exact hw.sub (uT _ _)
 |false=>
 cases dM:decide (f.1=4) with
 |true=>
  cases gX:decide (f.2.2.1≥1)&&decide (f.2.2.1≤3) with
  |false=>simp_all
  |true=>
  cases np:decide (ru r.2.2.1 r.2.2.2.1 s.t f.2.2.1=0) with
  |false=>simp_all
  |true=>
  simp  at gX;obtain⟨m1,m2,m3,m4,m5,m6,m7,m8,m9⟩:=hm;exact hw.turn du (qV4 _ _) (qOy (hw.sort.cut x) _) rfl ⟨m1,m2,m3,m4,m5,m6,m7,gX.1,gX.2⟩ ht
 |false=>
  cases gX:decide (f.2.2.1=0) with
  |true=>exact hw.turn du (vTd _ _) (vUt (hw.sort.cut x) _) rfl hm ht
  |false=>
   cases np:decide (f.2.2.1=1) with
   |true=>exact hw.turn du (qV4 _ _) (qOy (hw.sort.cut x) _) rfl hm ht
   |false=>simp_all
theorem vJo {n}(h:-1≤n∧n≤1152921504606846976):jD n=true:=by
 unfold jD;grind
theorem tw {a}:fH a=true↔(-4611686018427387904<a.1∧a.1<4611686018427387904)∧(0≤a.2.1∧a.2.1≤2305843009213693952)∧(0≤a.2.2∧a.2.2≤2305843009213693952):=by
 unfold fH;grind
theorem jA.setBil {a}{b:jM}{m}{p:jM}(h:jA a b m p){w i}(hw:w<a.length)(hi:i<a.length){n}(hn:-1≤n∧n≤1152921504606846976):jA a (b.set w ((b.getD w []).set i n)) m p:=
  { h with
    bl:=by rw[List.length_set];exact h.bl
    br:=fun j hj=>by
      rw[fF];split
      · rw[List.length_set];exact h.br w hw
      · exact h.br j hj
    bil:=fun j hj k hk=>by
      unfold cell;rw[fF];split
      · rw[fF];split
        · exact vJo hn
        · exact h.bil w hw k hk
      · exact h.bil j hj k hk}
theorem jA.setMul {a}{b:jM}{m}{p:jM}(h:jA a b m p) w {n}(hn:-1≤n∧n≤1152921504606846976):jA a b (m.set w n) p:=
  { h with
    ml:=by rw[List.length_set];exact h.ml
    mul:=fun j hj=>by
      rw[fF];split
      · exact vJo hn
      · exact h.mul j hj}
theorem jA.setAcct {a}{b:jM}{m}{p:jM}(h:jA a b m p){a'}(hl:a'.length=a.length)(ha:∀i,i<a.length→fH (a'.getD i ad)=true):jA a' b m p where
 n1:=by rw[hl];exact h.n1
 n6:=by rw[hl];exact h.n6
 bl:=by rw[hl];exact h.bl
 br:=by rw[hl];exact h.br
 ml:=by rw[hl];exact h.ml
 pl:=by rw[hl];exact h.pl
 pr:=by rw[hl];exact h.pr
 mul:=by rw[hl];exact h.mul
 bil:=by rw[hl];exact h.bil
 acct:=by simp_all
 net:=by rw[hl];exact h.net
 turn:=by rw[hl];exact h.turn
theorem vVp {n g i}(hi:i<n) d:qJ (fun j=>if j=i then g j+d else g j) n=qJ g n+d:=by
 have e:qJ (fun j=>if j=i then g j+d else g j) n=qJ (fun j=>g j+(if j=i then d else 0)) n:=by grind
 rw[e,EV,B2,if_pos hi]
theorem yJ.books {r s}(h:yJ r s){B}(hb:qX B)(hl:B.1.length=s.B.1.length)(qw:∀i,i<s.B.1.length→(B.1.getD i ad).1=(s.B.1.getD i ad).1)(hc:∀i,i<s.B.1.length→(B.1.getD i ad).2.1=(s.B.1.getD i ad).2.1):yJ r {s with B:=B} where
 tk:=h.tk
 bk:=hb
 n:=by rw[hl];exact h.n
 hol:=by rw[hl];exact h.hol
 laid:=by rw[hl];exact h.laid
 cred:=by rw[hl];intro i hi;rw[hc i hi];exact h.cred i hi
 most:=by rw[hl];intro i hi;rw[hc i hi];exact h.most i hi
 waits:=by rw[hl];exact h.waits
 sum:=by rw[hl,sW qw];exact h.sum
 tot:=h.tot
 over:=h.over
 none:=h.none
theorem yJ.queue {r s}(h:yJ r s)(ho:s.ov=false){m ids}(hw:lg s.B.1.length m ids):yJ r {s with m:=m,ids:=ids} where
 tk:=h.tk
 bk:=h.bk
 n:=h.n
 hol:=h.hol
 laid:=h.laid
 cred:=h.cred
 most:=h.most
 waits:=hw
 sum:=h.sum
 tot:=h.tot
 over:=h.over
 none:=by grind
theorem vQp {r:qQ}{s:qI}(h:yJ r s){who:Int}(hw:0≤who∧who<r.1){f:jN}(h0:(lk r s who f).1=0):yJ r (lk r s who f).2:=by
 have hn:=h.n;have hb:jA s.B.1 s.B.2.1 s.B.2.2.1 s.B.2.2.2:=h.bk;obtain⟨w,rfl⟩:=Int.eq_ofNat_of_zero_le hw.1;have gI:w<s.B.1.length:=by omega
 unfold lk at h0⊢;cases hc:decide (f.1=5) with
 |true=>
  rw[hc] at h0;simp only[ag] at h0⊢;cases dq:decide (f.2.1≥0)&&decide (f.2.1≤r.1-1) with
  |false=>rw[dq] at h0;cases h0
  |true=>
  cases dM:decide (f.2.1=(w:Int)) with
  |true=>rw[dq,dM] at h0;cases h0
  |false=>
  cases gX:decide (f.2.2.1≥-1)&&decide (f.2.2.1≤1152921504606846976) with
  |false=>rw[dq,dM,gX] at h0;cases h0
  |true=>
  simp only[aR,ba] at dq gX;exact h.books (B:=(s.B.1,s.B.2.1.set w ((s.B.2.1.getD w []).set f.2.1.toNat f.2.2.1),s.B.2.2.1,s.B.2.2.2)) (hb.setBil gI (by omega) (by grind)) rfl (by simp) (by simp)
 |false=>
  rw[hc] at h0;simp only[ak] at h0⊢;cases dq:decide (f.1=6) with
  |true=>
   rw[dq] at h0;simp only[ag] at h0⊢;cases dM:decide (f.2.1≥-1)&&decide (f.2.1≤1152921504606846976) with
   |false=>rw[dM] at h0;cases h0
   |true=>
   simp only[aR,ba] at dM;exact h.books (B:=(s.B.1,s.B.2.1,s.B.2.2.1.set w f.2.1,s.B.2.2.2)) (hb.setMul w (by grind)) rfl (fun _ _=>rfl) (by simp)
  |false=>
   rw[dq] at h0;simp only[ak] at h0⊢;cases dM:decide (f.2.1≥0)&&decide (f.2.1≤1152921504606846976) with
   |false=>rw[dM] at h0;cases h0
   |true=>
   have hg:∀i,(s.B.1.set w ((s.B.1.getD w ad).1,(s.B.1.getD w ad).2.1,f.2.1)).getD i ad=if i=w then((s.B.1.getD w ad).1,(s.B.1.getD w ad).2.1,f.2.1) else s.B.1.getD i ad:=by grind
   refine h.books (B:=(s.B.1.set w ((s.B.1.getD w ad).1,(s.B.1.getD w ad).2.1,f.2.1),s.B.2.1,s.B.2.2.1,s.B.2.2.2)) (hb.setAcct (by rw[List.length_set]) fun i hi=>?_) (by simp) (fun i hi=>?_) (fun i hi=>?_)
   ·rw[hg];split
    ·have:=tw.1 (hb.acct w gI);rw[tw];grind
    ·exact hb.acct i hi
   all_goals grind
theorem abh {r}(hr:jC r){s}(h:yJ r s){who}(hw:0≤who∧who<r.1){a many}(h0:(ll r s who a many).1=0):yJ r (ll r s who a many).2:=by
  have hn:=h.n;have hb:jA s.B.1 s.B.2.1 s.B.2.2.1 s.B.2.2.2:=h.bk;obtain⟨w,rfl⟩:=Int.eq_ofNat_of_zero_le hw.1;have gI:w<s.B.1.length:=by omega
  have hol:=h.hol;unfold ll at h0⊢;simp only[ao] at h0⊢;cases hc:decide (a≥0)&&decide (a≤(r.2.1.length:Int)-1) with
  |false=>simp_all
  |true=>
  cases dq:decide (many≥0)&&decide (many≤1099511627776) with
  |false=>simp_all
  |true=>
  rw[hc,dq] at h0;simp only[aA,ak] at h0⊢;simp  at hc dq;have L2:=(h.laid w gI).set (i:=a.toNat) (by omega) (v:=many) (by grind);have Br:=GB L2;obtain⟨n,bx⟩:∃n,n=gH r.2.1 s.pr ((s.ho.getD w []).set a.toNat many):=by simp
  rw[←bx] at h0 Br⊢;unfold Hd at h0⊢;cases dM:decide (n>1152921504606846976) with
  |true=>simp_all
  |false=>
  cases gX:decide (n<(s.B.1.getD w ad).2.1)&&decide ((s.B.1.getD w ad).1+n<0) with
  |true=>simp_all
  |false=>
  have dM:=fW dM;have hg:∀i,(s.B.1.set w ((s.B.1.getD w ad).1,n,(s.B.1.getD w ad).2.2)).getD i ad=if i=w then((s.B.1.getD w ad).1,n,(s.B.1.getD w ad).2.2) else s.B.1.getD i ad:=by grind
  have hgh:∀i,(s.ho.set w ((s.ho.getD w []).set a.toNat many)).getD i []=if i=w then(s.ho.getD w []).set a.toNat many else s.ho.getD i []:=by grind
  simp only[ak];have gL:(s.B.1.set w ((s.B.1.getD w ad).1,n,(s.B.1.getD w ad).2.2)).length=s.B.1.length:=by simp
  exact{
    tk:=h.tk
    bk:=hb.setAcct gL fun i hi=>by
      rw[hg];split
      · have:=tw.1 (hb.acct w gI);rw[tw];grind
      · exact hb.acct i hi
    n:=by simp_all
    hol:=by simp_all
    laid:=by
      rw[gL];intro i hi;rw[hgh];split
      · exact L2
      · exact h.laid i hi
    cred:=by
      rw[gL];intro i hi;rw[hg,hgh];split
      · exact bx
      · exact h.cred i hi
    most:=by
      rw[gL];intro i hi;rw[hg];split
      · show n≤_;omega
      · exact h.most i hi
    waits:=by rw[gL];exact h.waits
    sum:=by
      rw[gL,sW (h:=fun i=>(s.B.1.getD i ad).1) (by grind)];exact h.sum
    tot:=h.tot
    over:=h.over
    none:=h.none}
theorem yVq {r s}(h:yJ r s){i}(hi:i<s.B.1.length){n}(hz:(jX (s.B.1.getD i ad) n).2=0)(ht:0≤s.to+n∧s.to+n≤1152921504606846976):
    yJ r (RV s i (jX (s.B.1.getD i ad) n).1 (s.to+n)):=by
  have hb:jA s.B.1 s.B.2.1 s.B.2.2.1 s.B.2.2.2:=h.bk;unfold jX at hz⊢;cases hc:fH ((s.B.1.getD i ad).1+n,(s.B.1.getD i ad).2.1,(s.B.1.getD i ad).2.2) with
  |false=>simp_all
  |true=>
  simp only[ag];have hg:∀j,(s.B.1.set i ((s.B.1.getD i ad).1+n,(s.B.1.getD i ad).2.1,(s.B.1.getD i ad).2.2)).getD j ad=if j=i then((s.B.1.getD i ad).1+n,(s.B.1.getD i ad).2.1,(s.B.1.getD i ad).2.2) else s.B.1.getD j ad:=by grind
  have gL:(s.B.1.set i ((s.B.1.getD i ad).1+n,(s.B.1.getD i ad).2.1,(s.B.1.getD i ad).2.2)).length=s.B.1.length:=by simp
  unfold RV;exact{
    tk:=h.tk
    bk:=hb.setAcct gL fun j hj=>by
      rw[hg];split
      · exact hc
      · exact hb.acct j hj
    n:=by rw[gL];exact h.n
    hol:=by rw[gL];exact h.hol
    laid:=by rw[gL];exact h.laid
    cred:=by
      rw[gL];intro j hj;rw[hg];split
      · rename_i e;rw[e];exact h.cred i hi
      · exact h.cred j hj
    most:=by
      rw[gL];intro j hj;rw[hg];split
      · exact h.most i hi
      · exact h.most j hj
    waits:=by rw[gL];exact h.waits
    sum:=by
      rw[gL,sW (h:=fun j=>if j=i then(s.B.1.getD j ad).1+n else(s.B.1.getD j ad).1) (by grind),vVp hi,h.sum]
    tot:=ht
    over:=h.over
    none:=h.none}
theorem abi {r s}(h:yJ r s){kd to n}(h0:(lq r s kd to n).1=0):yJ r (lq r s kd to n).2∧(lq r s kd to n).2.to=s.to+(if kd=11 then-n else n)∧(lq r s kd to n).2.m=s.m∧(lq r s kd to n).2.ids=s.ids∧(lq r s kd to n).2.t=s.t:=by
 have hn:=h.n;have ht:=h.tot;unfold lq at h0⊢;cases hc:decide (to≥0)&&decide (to≤r.1-1) with
 |false=>rw[hc] at h0;cases h0
 |true=>
 cases dq:decide (n≥1)&&decide (n≤1099511627776) with
 |false=>simp_all
 |true=>
 rw[hc,dq] at h0;simp  at hc dq;have hi:to.toNat<s.B.1.length:=by omega
 by_cases hk:kd=11
 ·rw[aa hk] at h0⊢;rw[if_pos hk];unfold MQ at h0⊢;cases dM:decide ((s.B.1.getD to.toNat ad).1+(s.B.1.getD to.toNat ad).2.1-(s.B.1.getD to.toNat ad).2.2<n) with
  |true=>rw[dM] at h0;cases h0
  |false=>
  cases gX:decide (s.to-n<0) with
  |true=>simp_all
  |false=>
  cases hz:decide ((jX (s.B.1.getD to.toNat ad) (-n)).2=0) with
  |false=>grind
  |true=>
  cases np:decide (s.to-n>1152921504606846976) with
  |true=>grind
  |false=>
  have gX:=fW gX;have:=yVq h hi (n:= -n) (by grind) (by omega);exact⟨this,rfl,rfl,rfl,rfl⟩
 ·rw[ab hk] at h0⊢;rw[if_neg hk];unfold MR at h0⊢;cases hz:decide ((jX (s.B.1.getD to.toNat ad) n).2=0) with
  |false=>simp_all
  |true=>
  cases np:decide (s.to+n>1152921504606846976) with
  |true=>simp_all
  |false=>
  have np:=fW np;exact⟨yVq h hi (by grind) (by omega),rfl,rfl,rfl,rfl⟩
theorem abj {r s}(h:yJ r s){a p}(h0:(lr r s a p).1=0):yJ r (lr r s a p).2:=by
  have hb:jA s.B.1 s.B.2.1 s.B.2.2.1 s.B.2.2.2:=h.bk;unfold lr at h0⊢;cases hc:decide (a≥0)&&decide (a≤(r.2.1.length:Int)-1) with
  |false=>simp_all
  |true=>
  cases dq:decide (p≥0)&&decide (p≤1048576) with
  |false=>simp_all
  |true=>
  simp  at hc dq;have hL:∀i,i<s.B.1.length→kq r.2.1 (s.pr.set a.toNat p) (s.ho.getD i []):=fun i hi=>(h.laid i hi).setP (by omega) (by grind)
  generalize s.pr.set a.toNat p=pr at*
  unfold HF at h0⊢;cases dM:zY (fun j=> !decide (gK r.2.1 pr s.ho j>1152921504606846976)) s.B.1.length 0 with
  |false=>simp_all
  |true=>
  simp;have hle:∀i,i<s.B.1.length→gK r.2.1 pr s.ho i≤1152921504606846976:=fun i hi=>by
    have:=wJ.1 dM i hi;simp_all
  have gL:=yC0 r.2.1 pr s.ho s.B.1;have hg:=fun(j:Nat) (hj:j<s.B.1.length)=>yE8 r.2.1 pr s.ho s.B.1 hj
  exact{
    tk:=h.tk
    bk:=hb.setAcct gL fun i hi=>by
      rw[hg i hi];have:=tw.1 (hb.acct i hi);have h1:=GB (hL i hi);rw[tw];exact⟨this.1,⟨h1,by grind⟩,this.2.2⟩
    n:=by rw[gL];exact h.n
    hol:=by rw[gL];exact h.hol
    laid:=by simp_all
    cred:=by
      rw[gL];intro i hi;rw[hg i hi];rfl
    most:=by
      simp_all
    waits:=by rw[gL];exact h.waits
    sum:=by
      rw[gL,sW (h:=fun i=>(s.B.1.getD i ad).1) (by grind)];exact h.sum
    tot:=h.tot
    over:=h.over
    none:=h.none}
abbrev MT:=Int×List oz×Int×Int×Int×Int×List yG×jM×AC×jM×AC×jM×List zJ×AC×Int×Bool×Int×Int
abbrev MOT:=Int×List oz×Int×Int×Int×Int×List yG×jM×AC×jM×AC×jM×List zJ×AC×Int×Bool×Int×List yD×Int
def rk (r:qQ)(s:qI)(who:Int):MT:=(r.1,r.2.1,r.2.2.1,r.2.2.2.1,r.2.2.2.2,s.t,s.B.1,s.B.2.1,s.B.2.2.1,s.B.2.2.2,s.pr,s.ho,s.m,s.ids,s.to,s.ov,who,0)
def qR (r:qQ)(s:qI)(who:Int)(l:List yD)(paid:Int):MOT:=(r.1,r.2.1,r.2.2.1,r.2.2.2.1,r.2.2.2.2,s.t,s.B.1,s.B.2.1,s.B.2.2.1,s.B.2.2.2,s.pr,s.ho,s.m,s.ids,s.to,s.ov,who,l,paid)
def HH (pa n:Int):Int:=bif decide (n<0) then-1 else bif decide (n≥pa) then-1 else n
theorem yDs k r s who l p n:vr k (qR r s who l p) n=some (HH r.1 n):=by
 unfold vr HH;have e:(qR r s who l p).1=r.1:=rfl;grind
theorem yAf {pa n}(h:0≤n∧n<pa):HH pa n=n:=by
 unfold HH;grind
theorem qU0 {pa n}(h:¬(0≤n∧n<pa)):HH pa n= -1:=by
 unfold HH;grind
theorem vFl k (r:qQ) t c:HI k r t c=some (ru r.2.2.1 r.2.2.2.1 t c):=by
 unfold HI ru;grind
theorem yX9 k (r:qQ) t (p:zJ):CM k r t p=some (nC r t p):=by
 unfold CM nC;rw[vFl];simp only[ae];have no:¬(p.2.1≥0∧p.2.1<r.1∧p.2.2.1≥0∧p.2.2.1<r.1∧p.1≥1∧p.2.2.2.1≥1∧p.2.2.2.1≤1099511627776∧p.2.2.2.2.1≥1∧¬p.2.1=p.2.2.1∧p.2.2.2.2.1≤3∧p.2.2.2.2.2.1≥0∧p.2.2.2.2.2.1≤p.2.2.2.2.2.2∧p.2.2.2.2.2.2≥t∧p.2.2.2.2.2.2≤1048576)→lh r.1 t p=false:=by
  intro h;cases e:lh r.1 t p with
  |false=>rfl
  |true=>
   unfold lh at e;grind
 by_cases c1:p.1<1
 ·rw[aa c1,no (fun⟨_,_,_,_,h,_⟩=>by omega)];rfl
 by_cases c2:p.2.1<0
 ·rw[ab c1,aa c2,no (fun⟨h,_⟩=>by omega)];rfl
 by_cases c3:p.2.1≥r.1
 ·rw[ab c1,ab c2,aa c3,no (fun⟨_,h,_⟩=>by omega)];rfl
 by_cases c4:p.2.2.1<0
 ·rw[ab c1,ab c2,ab c3,aa c4,no (fun⟨_,_,h,_⟩=>by omega)];rfl
 by_cases c5:p.2.2.1≥r.1
 ·rw[ab c1,ab c2,ab c3,ab c4,aa c5,no (fun⟨_,_,_,h,_⟩=>by omega)];rfl
 rw[ab c1,ab c2,ab c3,ab c4,ab c5];simp only[ak];by_cases c6:p.2.1=p.2.2.1
 ·rw[aa c6,no (fun⟨_,_,_,_,_,_,_,_,h,_⟩=>h c6)];rfl
 by_cases c7:p.2.2.2.1<1
 ·rw[ab c6,aa c7,no (fun⟨_,_,_,_,_,h,_⟩=>by omega)];rfl
 by_cases c8:p.2.2.2.1>1099511627776
 ·rw[ab c6,ab c7,aa c8,no (fun⟨_,_,_,_,_,_,h,_⟩=>by omega)];rfl
 by_cases c9:p.2.2.2.2.1<1
 ·rw[ab c6,ab c7,ab c8,aa c9,no (fun⟨_,_,_,_,_,_,_,h,_⟩=>by omega)];rfl
 by_cases Q1:p.2.2.2.2.1>3
 ·rw[ab c6,ab c7,ab c8,ab c9,aa Q1,no (by grind)];rfl
 rw[ab c6,ab c7,ab c8,ab c9,ab Q1];simp only[ak];by_cases Cl:p.2.2.2.2.2.1<0
 ·rw[aa Cl,no (by grind)];rfl
 by_cases RY:p.2.2.2.2.2.1>p.2.2.2.2.2.2
 ·rw[ab Cl,aa RY,no (by grind)];rfl
 by_cases c13:p.2.2.2.2.2.2<t
 ·rw[ab Cl,ab RY,aa c13,no (by grind)];rfl
 by_cases c14:p.2.2.2.2.2.2>1048576
 ·rw[ab Cl,ab RY,ab c13,aa c14,no (by grind)];rfl
 rw[ab Cl,ab RY,ab c13,ab c14];have e:lh r.1 t p=true:=by
  unfold lh;simp_all
 rw[e];rfl
def CN (k:Nat)(r:qQ)(s:qI)(who:Int)(p:zJ):Option (Int×MOT):=
 (CM k r s.t p).bind fun x1=>
 bif !(decide (x1=0)) then some (x1,qR r s who [] 0)
 else(CJ k s.ids p.1).bind fun x2=>
 bif !(decide (x2.2=0)) then some (x2.2,qR r s who [] 0)
 else(CH k s.m p.1 p.2.1 p.2.2.1 p.2.2.2.1 p.2.2.2.2.1 p.2.2.2.2.2.1 p.2.2.2.2.2.2).bind fun x3=>
 bif !(decide (x3.2=0)) then some (x3.2,qR r s who [] 0)
 else some (0,qR r {s with m:=x3.1,ids:=x2.1} who [] p.1)
theorem abk {k}(hk:9999≤k){r}(hr:jC r){s}(h:lg s.B.1.length s.m s.ids) who f:
  ∃d,RZ k (rk r s who) f.2=some ((jg r s who f).1,d)∧((jg r s who f).1=0→d=qR r {s with m:=(jg r s who f).2.1,ids:=(jg r s who f).2.2} who [] f.2.1):=by
 have hp:=hr.pa;have hi:=h.idl;have hm:=h.len;have eD:RZ k (rk r s who) f.2=(vr k (qR r s who [] 0) f.2.2.1).bind fun x0=>
  bif decide (f.2.2.2.2.1 ≥ 1) then (bif decide (f.2.2.2.2.1≤3) then CN k r s who (f.2.1,who,x0,f.2.2.2)
   else CN k r s who (f.2.1,who,x0,f.2.2.2.1,0,f.2.2.2.2.2))
  else CN k r s who (f.2.1,who,x0,f.2.2.2.1,0,f.2.2.2.2.2):=rfl
 have bad:∀p:zJ,lh r.1 s.t p=false→CN k r s who p=some (1,qR r s who [] 0):=by
  intro p hp;unfold CN;rw[yX9];unfold nC;rw[hp];rfl
 have ajP:∀p:zJ,¬(p.2.2.1≥0∧p.2.2.2.2.1≥1)→lh r.1 s.t p=false:=by
  intro p hn;cases e:lh r.1 s.t p with
  |false=>rfl
  |true=>
   unfold lh at e;simp  at e;obtain⟨_,⟨a3,_⟩,_,_,_,a8,_⟩:=e;exact absurd ⟨a3,a8⟩ hn
 rw[eD,yDs];simp only[ae];unfold jg;by_cases hto:0≤f.2.2.1∧f.2.2.1<r.1
 ·rw[yAf hto,aa (show f.2.2.1≥0 by omega),aa (show f.2.2.1≤r.1-1 by omega)];by_cases hc:f.2.2.2.2.1≥1∧f.2.2.2.2.1≤3
  ·rw[aa hc.1,aa hc.2];simp only[Bool.and_self,aA,ak,ag];have ep:((f.2.1,who,f.2.2.1,f.2.2.2):zJ)=gd who f:=rfl;rw[ep];unfold CN;rw[yX9];simp only[ae];by_cases hz:nC r s.t (gd who f)=0
   ·rw[aa hz];have e1:(gd who f).1=f.2.1:=rfl;simp only[aA,ak];rw[e1,vQ9 (by omega) (by omega)];simp only[ae];by_cases h1:f.2.1∈s.ids
    ·rw[aa h1];exact⟨_,rfl,fun e=>by cases e⟩
    ·rw[ab h1];by_cases h2:200≤s.ids.length
     ·rw[aa h2];exact⟨_,rfl,fun e=>by cases e⟩
     ·rw[ab h2];have e3:=aa7 (k:=k) (l:=s.m) (by omega) (by omega) (gd who f);rw[e1] at e3;simp only[ak,decide_true,aA];rw[e3];simp only[ae];cases(vX s.m f.2.1).isSome with
      |true=>exact⟨_,rfl,fun e=>by cases e⟩
      |false=>
       by_cases h3:40≤s.m.length
       ·rw[aa h3];exact⟨_,rfl,fun e=>by cases e⟩
       ·rw[ab h3];exact⟨_,rfl,fun _=>rfl⟩
   ·rw[ab hz];exact⟨_,rfl,fun e=>absurd e hz⟩
  ·have e0:=bad (f.2.1,who,f.2.2.1,f.2.2.2.1,0,f.2.2.2.2.2) (by grind);rw[e0];have g:(!(decide (f.2.2.2.2.1≥1)&&decide (f.2.2.2.2.1≤3)))=true:=by
    by_cases a:f.2.2.2.2.1≥1
    ·rw[aa a,ab (fun b=>hc ⟨a,b⟩)];rfl
    ·rw[ab a];rfl
   rw[g];refine⟨qR r s who [] 0,?_,fun e=>by cases e⟩;by_cases a:f.2.2.2.2.1≥1
   ·rw[aa a,ab (fun b=>hc ⟨a,b⟩)];rfl
   ·rw[ab a];rfl
 ·have g:(!(decide (f.2.2.1≥0)&&decide (f.2.2.1≤r.1-1)))=true:=by
   by_cases a:f.2.2.1≥0
   ·rw[aa a,ab (show¬f.2.2.1≤r.1-1 by omega)];rfl
   ·rw[ab a];rfl
  have q:∀x:Int×Int×Int×Int,CN k r s who (f.2.1,who,-1,x)=some (1,qR r s who [] 0):=by grind
  rw[g,qU0 hto,q,q];refine⟨qR r s who [] 0,?_,fun e=>by cases e⟩;cases decide (f.2.2.2.2.1≥1)<;>cases decide (f.2.2.2.2.1≤3)<;>rfl
theorem abl {k}(hk:9999≤k){r s}(h:lg s.B.1.length s.m s.ids) who f (hf:f.1=2∨f.1=3∨f.1=4):
    ∃d,CO k (rk r s who) f.1 f.2=some ((lj r s who f).1,d)∧((lj r s who f).1=0→d=qR r {s with m:=(lj r s who f).2.1} who (lj r s who f).2.2 0):=by
  have hm:=h.len;have o6:yB s.m:=by unfold yB;omega
  have eD : CO k (rk r s who) f.1 f.2 = ((mE k s.m f.2.1).bind fun x0=>
      bif decide (x0<0) then some (((0,0,0,0,0,0,0):zJ),false)
      else bif zB x0 s.m.length then (bif !(decide ((s.m.getD x0.toNat (0,0,0,0,0,0,0)).2.1=who)) then some ((0,0,0,0,0,0,0),false)
        else bif zB x0 s.m.length then some ((s.m.getD x0.toNat (0,0,0,0,0,0,0)),true)
        else none)
      else none).bind fun x0=>
    bif !x0.2 then some (4,qR r s who [] 0)
    else bif decide (f.1 = 2) then ((oF k s.m f.2.1).bind fun x1=>
      (fK k 20 [f.2.1]).bind fun x2=>
      some (0,qR r {s with m:=x1.1} who [(who,x2)] 0))
    else bif decide (f.1 = 3) then (bif decide (f.2.2.1 = 0) then ((MM k s.m f.2.1).bind fun x3=>
       some (0,qR r {s with m:=x3.1} who [] 0))
      else bif decide (f.2.2.1 = 1) then ((ML k s.m f.2.1).bind fun x4=>
       some (0,qR r {s with m:=x4.1} who [] 0))
      else some (1,qR r s who [] 0))
    else bif decide (f.2.2.1<1) then some (1,qR r s who [] 0)
    else bif decide (f.2.2.1>3) then some (1,qR r s who [] 0)
    else(HI k r s.t f.2.2.1).bind fun x5=>
    bif !(decide (x5=0)) then some (x5,qR r s who [] 0)
    else(MK k s.m f.2.1 f.2.2.1).bind fun x6=>
    some (0,qR r {s with m:=x6.1} who [] 0):=rfl
  rw[eD,LP (by omega) (by omega)];unfold lj fi;cases hx:vX s.m f.2.1 with
  |none=>exact by simp
  |some x=>
    have du:=kZ hx;have e1:decide ((x:Int)<0)=false:=ab;simp only[ae,e1,ak,qB,aa du.1,ag,ao];by_cases hw:(s.m.getD x (0,0,0,0,0,0,0)).2.1=who
    · have xE:(s.m.getD x pd).2.1=who:=hw;rw[aa hw];simp only[aA,ak,ae];by_cases h2:f.1=2
      · rw[aa h2];obtain⟨n,rfl⟩:∃n,k=n+5:=⟨k-5,by omega⟩;have eo:fK (n+5) 20 [f.2.1]=some (20,f.2.1,0,0,0,0,0):=by kernel_rfl
        simp only[ag,vn (show s.m.length<n+5 by omega) o6,ae,eo];unfold iG;rw[hx];exact⟨_,rfl,fun _=>rfl⟩
      · rw[ab h2];simp only[ak];by_cases h3:f.1=3
        · rw[aa h3,ab (show¬f.1=4 by omega)];simp only[ag,ak];by_cases h0:f.2.2.1=0
          · rw[aa h0];simp only[ag,aa9 (show s.m.length<k by omega) o6 hx,ae];exact⟨_,rfl,fun _=>rfl⟩
          · rw[ab h0];simp only[ak];by_cases h1:f.2.2.1=1
            · rw[aa h1];simp only[ag,aa8 (show s.m.length<k by omega) o6 hx,ae];exact⟨_,rfl,fun _=>rfl⟩
            · rw[ab h1];exact by simp
        · rw[ab h3,aa (show f.1=4 by omega)];simp only[ak,ag,vFl,ae,vPo (show s.m.length<k by omega) o6 hx];by_cases c1:f.2.2.1<1
          · rw[aa c1,ab (show¬f.2.2.1≥1 by omega)];exact⟨_,rfl,fun e=>by cases e⟩
          · rw[ab c1,aa (show f.2.2.1≥1 by omega)];by_cases c2:f.2.2.1>3
            · rw[aa c2,ab (show¬f.2.2.1≤3 by omega)];exact⟨_,rfl,fun e=>by cases e⟩
            · rw[ab c2,aa (show f.2.2.1≤3 by omega)];simp only[Bool.and_self,aA,ak];by_cases hc:ru r.2.2.1 r.2.2.2.1 s.t f.2.2.1=0
              · rw[aa hc];exact⟨_,rfl,fun _=>rfl⟩
              · rw[ab hc];exact by simp
    · rw[ab hw];exact⟨_,rfl,fun e=>by cases e⟩
theorem abm {k}(hk:9999≤k){r}(hr:jC r){s}(hb:qX s.B)(hn:(s.B.1.length:Int)=r.1){who}(hw:0≤who∧who<r.1) f:
    ∃d,CP k (rk r s who) f.1 f.2=some ((lk r s who f).1,d)∧((lk r s who f).1=0→d=qR r (lk r s who f).2 who [] 0):=by
  obtain⟨w,rfl⟩:=Int.eq_ofNat_of_zero_le hw.1;have gI:w<s.B.1.length:=by omega
  have eD:CP k (rk r s w) f.1 f.2=(pw k s.B.1 s.B.2.1 s.B.2.2.1 s.B.2.2.2).bind fun x0=>
    bif decide (f.1 = 5) then ((vr k (qR r s w [] 0) f.2.1).bind fun x1=>
      bif decide (x1<0) then some (1,qR r s w [] 0)
      else bif decide (x1=(w:Int)) then some (1,qR r s w [] 0)
      else bif decide (f.2.2.1<(-1)) then some (1,qR r s w [] 0)
      else bif decide (f.2.2.1>1152921504606846976) then some (1,qR r s w [] 0)
      else bif zB (w : Int) x0.2.1.length then (bif zB x1 (x0.2.1.getD (w:Int).toNat []).length then
        some (0,qR r {s with B:=(x0.1,(x0.2.1.set (w:Int).toNat ((x0.2.1.getD (w:Int).toNat []).set x1.toNat f.2.2.1)),x0.2.2.1,x0.2.2.2)} w [] 0)
       else none)
      else none)
    else bif decide (f.1 = 6) then (bif decide (f.2.1<(-1)) then some (1,qR r s w [] 0)
      else bif decide (f.2.1>1152921504606846976) then some (1,qR r s w [] 0)
      else bif zB (w:Int) x0.2.2.1.length then some (0,qR r {s with B:=(x0.1,x0.2.1,(x0.2.2.1.set (w:Int).toNat f.2.1),x0.2.2.2)} w [] 0)
      else none)
    else bif decide (f.2.1<0) then some (1,qR r s w [] 0)
    else bif decide (f.2.1>1152921504606846976) then some (1,qR r s w [] 0)
    else bif zB (w:Int) x0.1.length then some (0,qR r {s with B:=((x0.1.set (w:Int).toNat ((x0.1.getD (w:Int).toNat (0,0,0)).1,(x0.1.getD (w:Int).toNat (0,0,0)).2.1,f.2.1)),x0.2.1,x0.2.2.1,x0.2.2.2)} w [] 0)
    else none:=rfl
  rw[eD,Ld (by omega) hb.toSized,yDs];simp only[ae,qB,ao];have two:∀a b:Int,∀x:Int,decide (x<a)= !decide (x≥a)∧decide (x>b)= !decide (x≤b):=by
    intro a b x;constructor
    · by_cases h:x<a
      · rw[aa h,ab (show¬x≥a by omega)];rfl
      · rw[ab h,aa (show x≥a by omega)];rfl
    · by_cases h:x>b
      · rw[aa h,ab (show¬x≤b by omega)];rfl
      · rw[ab h,aa (show x≤b by omega)];rfl
  unfold lk;rw[ao,(two (-1) 1152921504606846976 f.2.2.1).1,(two (-1) 1152921504606846976 f.2.2.1).2,(two (-1) 1152921504606846976 f.2.1).1,(two (-1) 1152921504606846976 f.2.1).2,(two 0 0 f.2.1).1];by_cases h5:f.1=5
  · rw[aa h5];simp only[ag];by_cases hc:0≤f.2.1∧f.2.1<r.1
    · rw[yAf hc,aa (show f.2.1≥0 by omega),aa (show f.2.1≤r.1-1 by omega),ab (show¬f.2.1<0 by omega)];have b1:decide (w<s.B.2.1.length)=true:=aa (by rw[hb.bl];exact gI);have b2:zB f.2.1 (s.B.2.1.getD w []).length=true:=wT hc.1 (by rw[hb.br w gI];omega);rw[b1,b2];cases decide (f.2.1=(w:Int)) with
      |true=>exact⟨_,rfl,fun e=>by cases e⟩
      |false=>
        cases decide (f.2.2.1≥-1) with
        |false=>exact⟨_,rfl,fun e=>by cases e⟩
        |true=>
          cases decide (f.2.2.1≤1152921504606846976) with
          |false=>exact⟨_,rfl,fun e=>by cases e⟩
          |true=>exact⟨_,rfl,fun _=>rfl⟩
    · rw[qU0 hc];have g:(decide (f.2.1≥0)&&decide (f.2.1≤r.1-1))=false:=by
        by_cases a:f.2.1≥0
        · rw[aa a,ab (show¬f.2.1≤r.1-1 by omega)];rfl
        · rw[ab a];rfl
      rw[g];exact⟨_,rfl,fun e=>by cases e⟩
  · rw[ab h5];by_cases h6:f.1=6
    · rw[aa h6];have b1:decide (w<s.B.2.2.1.length)=true:=aa (by rw[hb.ml];exact gI);rw[b1];cases decide (f.2.1≥-1) with
      |false=>exact⟨_,rfl,fun e=>by cases e⟩
      |true=>
        cases decide (f.2.1≤1152921504606846976) with
        |false=>exact⟨_,rfl,fun e=>by cases e⟩
        |true=>exact⟨_,rfl,fun _=>rfl⟩
    · rw[ab h6];have b1:decide (w<s.B.1.length)=true:=aa gI;rw[b1];cases decide (f.2.1≥0) with
      |false=>exact⟨_,rfl,fun e=>by cases e⟩
      |true=>
        cases decide (f.2.1≤1152921504606846976) with
        |false=>exact⟨_,rfl,fun e=>by cases e⟩
        |true=>exact⟨_,rfl,fun _=>rfl⟩
theorem yP7 {k l}(hl:l.length≤9999){i:Nat}(h1:i<l.length) v:vt k l i v=some (l.set i v):=by
 unfold vt;rw[qF (n:=0+l.length),aa (by simp),aa (by grind),qB,aa h1,ao];rfl
theorem vVo {r}(hr:jC r){s}(h:yJ r s){who}(hw:0≤who∧who<r.1) a many:
    ∃d,R0 9999 (rk r s who) a many=some ((ll r s who a many).1,d)∧((ll r s who a many).1=0→d=qR r (ll r s who a many).2 who [] 0):=by
  have h3:=hr.n3;have hn:=h.n;have hZ:=h.bk.n6;have hol:=h.hol;obtain⟨w,rfl⟩:=Int.eq_ofNat_of_zero_le hw.1;have gI:w<s.B.1.length:=by omega
  have eD:R0 9999 (rk r s w) a many=
    bif decide (a<0) then some (1,qR r s w [] 0)
    else bif decide (a≥(r.2.1.length:Int)) then some (1,qR r s w [] 0)
    else bif decide (many<0) then some (1,qR r s w [] 0)
    else bif decide (many>1099511627776) then some (1,qR r s w [] 0)
    else bif zB (w : Int) s.ho.length then ((vt 9999 (s.ho.getD (w:Int).toNat []) a many).bind fun x0=>
      (zo 9999 r.2.1 s.pr x0).bind fun x1=>
      bif !x1.2 then some (8,qR r s w [] 0)
      else bif decide (x1.1>1152921504606846976) then some (8,qR r s w [] 0)
      else(pw 9999 s.B.1 s.B.2.1 s.B.2.2.1 s.B.2.2.2).bind fun x2=>
      bif zB (w : Int) x2.1.length then (bif decide (x1.1 < (x2.1.getD (w : Int).toNat (0, 0, 0)).2.1) then (bif decide ((zA ((x2.1.getD (w:Int).toNat (0,0,0)).1+x1.1))<0) then some (9,qR r s w [] 0)
         else bif zB (w:Int) x2.1.length then(
          bif zL (0 + s.ho.length) 24 then (bif zB (w:Int) s.ho.length then
           some (0,qR r {s with B:=((x2.1.set (w:Int).toNat ((x2.1.getD (w:Int).toNat (0,0,0)).1,x1.1,(x2.1.getD (w:Int).toNat (0,0,0)).2.2)),x2.2.1,x2.2.2.1,x2.2.2.2),ho:=s.ho.set (w:Int).toNat x0} w [] 0)
           else none)
          else none)
         else none)
        else bif zB (w:Int) x2.1.length then(
         bif zL (0 + s.ho.length) 24 then (bif zB (w:Int) s.ho.length then
           some (0,qR r {s with B:=((x2.1.set (w:Int).toNat ((x2.1.getD (w:Int).toNat (0,0,0)).1,x1.1,(x2.1.getD (w:Int).toNat (0,0,0)).2.2)),x2.2.1,x2.2.2.1,x2.2.2.2),ho:=s.ho.set (w:Int).toNat x0} w [] 0)
          else none)
         else none)
        else none)
      else none)
    else none:=rfl
  rw[eD,Ld (by omega) h.bk.toSized];simp only[ae,qB,ao];unfold ll;simp only[ao];by_cases c1:a<0
  · rw[aa c1,ab (show¬a≥0 by omega)];exact⟨_,rfl,fun e=>by cases e⟩
  rw[ab c1,aa (show a≥0 by omega)];by_cases c2:a≥(r.2.1.length:Int)
  · rw[aa c2,ab (show¬a≤(r.2.1.length:Int)-1 by omega)];exact⟨_,rfl,fun e=>by cases e⟩
  rw[ab c2,aa (show a≤(r.2.1.length:Int)-1 by omega)];by_cases c3:many<0
  · rw[aa c3,ab (show¬many≥0 by omega)];exact⟨_,rfl,fun e=>by cases e⟩
  rw[ab c3,aa (show many≥0 by omega)];by_cases c4:many>1099511627776
  · rw[aa c4,ab (show¬many≤1099511627776 by omega)];exact⟨_,rfl,fun e=>by cases e⟩
  rw[ab c4,aa (show many≤1099511627776 by omega)];obtain⟨i,rfl⟩:=Int.eq_ofNat_of_zero_le (show 0≤a by omega);have hi:i<r.2.1.length:=by omega
  have L:=h.laid w gI;have L2:=L.set hi (v:=many) ⟨by omega,by omega⟩;have b1:decide (w<s.ho.length)=true:=aa;have b2:decide (w<s.B.1.length)=true:=aa gI;have mG:vt 9999 (s.ho.getD w []) (i:Int) many=some ((s.ho.getD w []).set i many):=yP7 (by rw[L.hl];omega) (by rw[L.hl];omega) many;have hv:=qPl L2;have hb:=h.bk.nums.bal w gI;have Br:=GB L2;have e24:zL (0+s.ho.length) 24=true:=qF;simp only[Bool.and_self,aA,ak,b1,ag,mG,ae,hv,b2,ao,e24];clear hv L2 eD;generalize gH r.2.1 s.pr ((s.ho.getD w []).set i many)=n at Br⊢;unfold Hd;cases h8':decide (n>1152921504606846976) with
  |true=>exact⟨_,rfl,fun e=>by cases e⟩
  |false=>
    have h8:¬n>1152921504606846976:=fW h8';have w2:zA ((s.B.1.getD w (0,0,0)).1+n)=(s.B.1.getD w (0,0,0)).1+n:=zP (by have:=hb.1;simp only[ad] at this;omega) (by have:=hb.2;simp only[ad] at this;omega);simp only[w2,ak];cases decide (n<(s.B.1.getD w (0,0,0)).2.1) with
    |false=>exact⟨_,rfl,fun _=>rfl⟩
    |true=>
      cases decide ((s.B.1.getD w (0,0,0)).1+n<0) with
      |true=>exact⟨_,rfl,fun e=>by cases e⟩
      |false=>exact⟨_,rfl,fun _=>rfl⟩
theorem In9 {k}{a:yG}(ha:-4611686018427387904<a.1∧a.1<4611686018427387904){n}(hn:1≤n∧n≤1099511627776):HJ k a n=some (jX a n):=by
 unfold HJ jX Ht;rw[aa (by grind),zP (x:=9223372036854775807-n),ab (by grind),ab (by grind),zP (x:=a.1+n)];simp[Y0];grind
theorem abn {r}(hr:jC r){s}(h:yJ r s) who kd to n (PU:kd=10∨kd=11):
    ∃d,HK 9999 (rk r s who) (decide (kd=10)) to n=some ((lq r s kd to n).1,d)∧((lq r s kd to n).1=0→d=qR r (lq r s kd to n).2 who [] 0):=by
  have hn:=h.n;have ht:=h.tot;have eD:HK 9999 (rk r s who) (decide (kd=10)) to n=(vr 9999 (qR r s who [] 0) to).bind fun x0=>
    bif decide (x0<0) then some (1,qR r s who [] 0)
    else bif decide (n<1) then some (1,qR r s who [] 0)
    else bif decide (n>1099511627776) then some (1,qR r s who [] 0)
    else(pw 9999 s.B.1 s.B.2.1 s.B.2.2.1 s.B.2.2.2).bind fun x1=>
    bif decide (kd = 10) then (bif zB x0 x1.1.length then ((HJ 9999 (x1.1.getD x0.toNat (0,0,0)) n).bind fun x2=>
      bif decide ((zA (s.to+n))>1152921504606846976) then some (8,qR r s who [] 0)
      else bif !(decide (x2.2=0)) then some (8,qR r s who [] 0)
      else bif zB x0 x1.1.length then some (0,qR r {s with B:=((x1.1.set x0.toNat x2.1),x1.2.1,x1.2.2.1,x1.2.2.2),to:=zA (s.to+n)} who [] 0)
      else none)
     else none)
    else bif zB x0 x1.1.length then (bif decide ((zA ((zA ((x1.1.getD x0.toNat (0,0,0)).1+(x1.1.getD x0.toNat (0,0,0)).2.1))-(x1.1.getD x0.toNat (0,0,0)).2.2))<n) then some (9,qR r s who [] 0)
     else bif decide (s.to<n) then some (9,qR r s who [] 0)
     else bif zB x0 x1.1.length then
      some (0,qR r {s with B:=((x1.1.set x0.toNat ((zA ((x1.1.getD x0.toNat (0,0,0)).1-n)),(x1.1.getD x0.toNat (0,0,0)).2)),x1.2.1,x1.2.2.1,x1.2.2.2),to:=zA (s.to-n)} who [] 0)
     else none)
    else none:=rfl
  rw[eD,yDs,Ld (by omega) h.bk.toSized];simp only[ae];unfold lq;by_cases hc:0≤to∧to<r.1
  · rw[yAf hc,ab (show¬to<0 by omega),aa (show to≥0 by omega),aa (show to≤r.1-1 by omega)];by_cases c1:n<1
    · rw[aa c1,ab (show¬n≥1 by omega)];exact⟨_,rfl,fun e=>by cases e⟩
    rw[ab c1,aa (show n≥1 by omega)];by_cases c2:n>1099511627776
    · rw[aa c2,ab (show¬n≤1099511627776 by omega)];exact⟨_,rfl,fun e=>by cases e⟩
    rw[ab c2,aa (show n≤1099511627776 by omega)];obtain⟨i,rfl⟩:=Int.eq_ofNat_of_zero_le hc.1;have hi:i<s.B.1.length:=by omega
    have hb:=h.bk.nums.bal i hi;have kP:=h.bk.nums.res i hi;have hcr:=h.most i hi;have abc:0≤(s.B.1.getD i ad).2.1:=by rw[h.cred i hi];exact GB (h.laid i hi)
    have abo:=tw.1 (h.bk.acct i hi);have b0:zB (i:Int) s.B.1.length=true:=by rw[qB,aa hi]
    have q2:zA (s.to-n)=s.to-n:=zP;have q3:zA (s.to+n)=s.to+n:=zP;have MS:HJ 9999 (s.B.1.getD i (0,0,0)) n=some (jX (s.B.1.getD i ad) n):=In9 hb ⟨by omega,by omega⟩;simp only[Bool.and_self,aA,ak,b0,ag,ao,MS,ae,q2,q3];clear MS eD;rcases PU with e|e
    · rw[aa e,ab (show¬kd=11 by omega)];simp only[ag,ak];unfold MR;cases hz:decide ((jX (s.B.1.getD i ad) n).2=0) with
      |false=>
        have e8:(jX (s.B.1.getD i ad) n).2=8:=by
          have:=fW hz;unfold jX at this⊢;cases hx:fH ((s.B.1.getD i ad).1+n,(s.B.1.getD i ad).2.1,(s.B.1.getD i ad).2.2) with
          |true=>rw[hx] at this;exact absurd rfl this
          |false=>rfl
        rw[e8];cases decide (s.to+n>1152921504606846976)<;>exact⟨_,rfl,fun e=>by cases e⟩
      |true=>
        cases decide (s.to+n>1152921504606846976) with
        |true=>exact⟨_,rfl,fun e=>by cases e⟩
        |false=>exact⟨_,rfl,fun _=>rfl⟩
    · rw[ab (show¬kd=10 by omega),aa e];simp only[ag,ak];unfold MQ;have q1:zA ((s.B.1.getD i (0,0,0)).1+(s.B.1.getD i (0,0,0)).2.1)=(s.B.1.getD i ad).1+(s.B.1.getD i ad).2.1:=zP (by simp only[ad] at*;omega) (by simp only[ad] at*;omega);have q4:zA ((s.B.1.getD i ad).1+(s.B.1.getD i ad).2.1-(s.B.1.getD i (0,0,0)).2.2)=(s.B.1.getD i ad).1+(s.B.1.getD i ad).2.1-(s.B.1.getD i ad).2.2:=zP (by simp only[ad] at*;omega) (by simp only[ad] at*;omega);have q5:zA ((s.B.1.getD i (0,0,0)).1-n)=(s.B.1.getD i ad).1+-n:=by rw[zP (by simp only[ad] at*;omega) (by simp only[ad] at*;omega)];rfl
      simp only[q1,q4,q5];by_cases c5:(s.B.1.getD i ad).1+(s.B.1.getD i ad).2.1-(s.B.1.getD i ad).2.2<n
      · rw[aa c5];exact⟨_,rfl,fun e=>by cases e⟩
      rw[ab c5];by_cases c6:s.to<n
      · rw[aa c6,aa (show s.to-n<0 by omega)];exact⟨_,rfl,fun e=>by cases e⟩
      rw[ab c6,ab (show¬s.to-n<0 by omega),ab (show¬s.to-n>1152921504606846976 by omega)];have em:jX (s.B.1.getD i ad) (-n)=(((s.B.1.getD i ad).1+-n,(s.B.1.getD i ad).2.1,(s.B.1.getD i ad).2.2),0):=by
        unfold jX;have:fH ((s.B.1.getD i ad).1+-n,(s.B.1.getD i ad).2.1,(s.B.1.getD i ad).2.2)=true:=tw.2 ⟨by simp only;omega,abo.2⟩;rw[this];rfl
      rw[em];exact⟨_,rfl,fun _=>rfl⟩
  · rw[qU0 hc];have g:(decide (to≥0)&&decide (to≤r.1-1))=false:=by
      by_cases a:to≥0
      · rw[aa a,ab (show¬to≤r.1-1 by omega)];rfl
      · rw[ab a];rfl
    rw[g];exact⟨_,rfl,fun e=>by cases e⟩
theorem vV6 {r s} who {pr}(hL:∀i,i<s.B.1.length→kq r.2.1 pr (s.ho.getD i []))(hol:s.ho.length=s.B.1.length)(hZ:s.B.1.length≤6):
  (zY (fun j=> !decide (gK r.2.1 pr s.ho j>1152921504606846976)) s.B.1.length 0=true∧vu 9999 9999 0 (rk r s who) pr s.B.1 s.B.2.1 s.B.2.2.1 s.B.2.2.2=some (.inl (rk r s who,pr,vp r.2.1 pr s.ho s.B.1,s.B.2.1,s.B.2.2.1,s.B.2.2.2)))∨
  (zY (fun j=> !decide (gK r.2.1 pr s.ho j>1152921504606846976)) s.B.1.length 0=false∧vu 9999 9999 0 (rk r s who) pr s.B.1 s.B.2.1 s.B.2.2.1 s.B.2.2.2=some (.inr (8,rk r s who))):=by
 have:=Lt (L:=fun n i (a:List yG)=>vu 9999 n i (rk r s who) pr a s.B.2.1 s.B.2.2.1 s.B.2.2.2) (N:=s.B.1.length) (fun j=> !decide (gK r.2.1 pr s.ho j>1152921504606846976))
  (fun a=>.inl (rk r s who,pr,a,s.B.2.1,s.B.2.2.1,s.B.2.2.2)) (.inr (8,rk r s who))
  (fun i a => a.length = s.B.1.length ∧ ∀ j, j < s.B.1.length → a.getD j ad = if j < i then ((s.B.1.getD j ad).1, gK r.2.1 pr s.ho j, (s.B.1.getD j ad).2.2) else s.B.1.getD j ad) (fun n a ha=>by
   show HL 9999 _ s.B.1.length (rk r s who) pr a s.B.2.1 s.B.2.2.1 s.B.2.2.2=_;unfold HL;simp_all) (fun n i a hi ha=>by
   have hv:=qPl (hL i hi);have aI:vu 9999 (n+1) i (rk r s who) pr a s.B.2.1 s.B.2.2.1 s.B.2.2.2=bif decide (gK r.2.1 pr s.ho i>1152921504606846976) then some (.inr (8,rk r s who)) else vu 9999 n ((i+1:Nat):Int) (rk r s who) pr (a.set i ((a.getD i ad).1,gK r.2.1 pr s.ho i,(a.getD i ad).2.2)) s.B.2.1 s.B.2.2.1 s.B.2.2.2:=by
    show HL 9999 _ i (rk r s who) pr a s.B.2.1 s.B.2.2.1 s.B.2.2.2=_;unfold HL;have iT:zo 9999 (rk r s who).2.1 pr (s.ho.getD i [])=some (gK r.2.1 pr s.ho i,true):=hv;have eh:(rk r s who).2.2.2.2.2.2.2.2.2.2.2.1=s.ho:=rfl;simp only[eh,qZ,qB,ao,aa (show i<s.ho.length by omega),aa (show i<a.length by omega),ag,iT,aA,ak,qD hi (by grind)];rfl
   grind) s.B.1.length 0 9999 s.B.1 (by omega) (by omega) (by simp)
 rcases this with⟨h1,a,h2,h3,h4⟩|⟨h1,h2⟩
 ·have e:a=vp r.2.1 pr s.ho s.B.1:=EW ad (by rw[h3,yC0]) fun j hj=>by
   rw[h3] at hj;rw[h4 j hj,if_pos hj,yE8 _ _ _ _ hj]
  simp_all
 simp_all
theorem abp {r}(hr:jC r){s}(h:yJ r s) who a p:
  ∃d,R1 9999 (rk r s who) a p=some ((lr r s a p).1,d)∧((lr r s a p).1=0→d=qR r (lr r s a p).2 who [] 0):=by
 have h3:=hr.n3;have hZ:=h.bk.n6;have pj:=h.bk.n1;have eD:R1 9999 (rk r s who) a p=
  bif decide (a<0) then some (1,qR r s who [] 0)
  else bif decide (a≥(r.2.1.length:Int)) then some (1,qR r s who [] 0)
  else bif decide (p<0) then some (1,qR r s who [] 0)
  else bif decide (p>1048576) then some (1,qR r s who [] 0)
  else(vt 9999 s.pr a p).bind fun x0=>
  (pw 9999 s.B.1 s.B.2.1 s.B.2.2.1 s.B.2.2.2).bind fun x1=>
  (vu 9999 9999 0 (rk r s who) x0 x1.1 x1.2.1 x1.2.2.1 x1.2.2.2).bind fun z=>
  match z with
  |.inl z1=>some (0,(jF z1.1 (CK z1 (z1.2.1,(yL6 z1.1 ([],z1.1.2.2.2.2.2.2.2.2.2.2.2.2.2.2.2.2.2))))))
  |.inr z2=>some (vDx z2 ([],z2.2.2.2.2.2.2.2.2.2.2.2.2.2.2.2.2.2.2)):=rfl
 rw[eD,Ld (by omega) h.bk.toSized];simp only[ae];unfold lr;by_cases c1:a<0
 ·rw[aa c1,ab (show¬a≥0 by omega)];exact by simp
 rw[ab c1,aa (show a≥0 by omega)];by_cases c2:a≥(r.2.1.length:Int)
 ·grind
 rw[ab c2,aa (show a≤(r.2.1.length:Int)-1 by omega)];by_cases c3:p<0
 ·rw[aa c3,ab (show¬p≥0 by omega)];exact by simp
 rw[ab c3,aa (show p≥0 by omega)];by_cases c4:p>1048576
 ·rw[aa c4,ab (show¬p≤1048576 by omega)];exact by simp
 rw[ab c4,aa (show p≤1048576 by omega)];obtain⟨i,rfl⟩:=Int.eq_ofNat_of_zero_le (show 0≤a by omega);have hi:i<r.2.1.length:=by omega
 have L0:=h.laid 0 (by omega);have mG:vt 9999 s.pr (i:Int) p=some (s.pr.set i p):=yP7 (by rw[L0.pl];omega) (by rw[L0.pl];omega) p;simp only[Bool.and_self,aA,ak,mG,ae,ao];unfold HF;rcases vV6 (r:=r) (s:=s) who (pr:=s.pr.set i p) (fun j hj=>(h.laid j hj).setP hi ⟨by omega,by omega⟩) h.hol hZ with⟨g1,g2⟩|⟨g1,g2⟩
 ·rw[g2,g1];exact⟨_,rfl,fun _=>rfl⟩
 ·rw[g2,g1];exact⟨_,rfl,fun e=>by cases e⟩
theorem abq {m}(hd:qP m){i}(hi:i<m.length):fi m (m.getD i pd).1=(i:Int):=by
 obtain⟨x,hx⟩:=Q0 (fD (d:=pd) hi);have h:=kZ hx;unfold fi;have:x=i:=by
  rcases Nat.lt_trichotomy x i with g|g|g
  ·have:=List.pairwise_iff_getElem.1 hd x i h.1 hi g;grind
  ·exact g
  ·have:=List.pairwise_iff_getElem.1 hd i x hi h.1 g;grind
 simp_all
theorem vXq {k}(hk:100<k){B}(h:qX B){l:List zJ}(hl:l.length≤80):Lu k B.1 B.2.1 B.2.2.1 B.2.2.2 l=some (yj B l):=ZF hk h hl
theorem R2 {k}(hk:100<k){B}(h:qX B){l:List zJ}(hl:l.length≤80):
  ∃C:BT,vv k B.1 B.2.1 B.2.2.1 B.2.2.2 l=some (C.1,C.2.1,C.2.2.1,C.2.2.2,(iH k B l).isSome)∧(∀D,iH k B l=some D→D=C):=by
 obtain⟨r,h1,h2,h3⟩:=GC hk h hl;unfold vv iH;rw[h2,h1,vXq hk h hl];refine⟨(r.1,r.2.1,r.2.2.1,r.2.2.2.1),?_,?_⟩;all_goals grind
theorem yR0 {k}(hk:100<k){B}(h:qX B)(m:List zJ)(hm:m.length≤9999):∀c i n,i+c=m.length→c<n→
  MX k n i B.1 B.2.1 B.2.2.1 B.2.2.2 0 0 0 0 0 0 0 m = some (match fZ k B (m.drop i) with
   |some (p,C)=>.inr (true,p.1,p.2.1,p.2.2.1,p.2.2.2.1,p.2.2.2.2.1,p.2.2.2.2.2.1,p.2.2.2.2.2.2)
   |none=>.inl (0,0,0,0,0,0,0))
 |0,i,n,e,hn=>by
  obtain⟨n,rfl⟩:∃x,n=x+1:=⟨n-1,by omega⟩;have:i=m.length:=by omega
  subst this;show HM k _ m.length B.1 B.2.1 B.2.2.1 B.2.2.2 0 0 0 0 0 0 0 m=_;unfold HM;simp;rfl
 |c+1,i,n,e,hn=>by
  obtain⟨n,rfl⟩:∃x,n=x+1:=⟨n-1,by omega⟩;have hi:i<m.length:=by omega
  have ih:=yR0 hk h m hm c (i+1) n (by omega) (by omega);show HM k _ i B.1 B.2.1 B.2.2.1 B.2.2.2 0 0 0 0 0 0 0 m=_;unfold HM;obtain⟨C,h1,h2⟩:=R2 hk h (l:=[m.getD i pd]) (by simp);have c1:decide ((0:Int)≤(i:Int))=true:=by simp
  have c2:decide ((i:Int)≤((i+1:Nat):Int))=true:=by grind
  have c3:decide (((i+1:Nat):Int)≤(m.length:Int))=true:=by grind
  simp only[qB,qD hi (by grind),ao,aak m i hi];rw[yMo k B hi];grind
theorem vIs {k} (hk : 100 < k) {B} (h : qX B) {l} (bK : l.length < k) (hl : yB l) t : R3 k B.1 B.2.1 B.2.2.1 B.2.2.2 l t = some (match fZ k B (wM l t) with
   |some (p,C)=>(p.1,p.2.1,p.2.2.1,p.2.2.2.1,p.2.2.2.2.1,p.2.2.2.2.2.1,p.2.2.2.2.2.2,true)
   |none=>(0,0,0,0,0,0,0,false)):=by
 unfold R3;rw[vMm bK hl];have GH:=Rf l t;unfold yB at hl;have:=yR0 hk h (wM l t) (by omega) (wM l t).length 0 k (by omega) (by omega);grind
theorem abr {k}(hk:100<k) t {B C l m done}(h:g9 k t B l done C m):∀n (r:List zJ),qX B→l.length≤100→l.length<n→r.length+l.length≤9999→
  MY k n l t B.1 B.2.1 B.2.2.1 B.2.2.2 r=some (m,C.1,C.2.1,C.2.2.1,C.2.2.2,r++done):=by
 induction h with
 |@stop B l hx=>
  intro n r hb hl hn hr;obtain⟨n,rfl⟩:∃x,n=x+1:=⟨n-1,by omega⟩;have h2:=vIs hk hb (l:=l) (by omega) (by show l.length≤9999;omega) t;rw[hx] at h2;show HN k _ l t B.1 B.2.1 B.2.2.1 B.2.2.2 r=_;unfold HN;simp_all
 |@step B C D l m done p hx _ ih=>
  intro n r hb hl hn hr;obtain⟨n,rfl⟩:∃x,n=x+1:=⟨n-1,by omega⟩;have h2:=vIs hk hb (l:=l) (by omega) (by show l.length≤9999;omega) t;rw[hx] at h2;obtain⟨hp,hg⟩:=Cq hx;have En:=GD hp;obtain⟨ua,nT⟩:=uW En;obtain⟨oe,dq⟩:=tf hk hb (by simp) hg;have g2:=ih n (r++[p]) oe (by omega) (by omega) (by grind);show HN k _ l t B.1 B.2.1 B.2.2.1 B.2.2.2 r=_;unfold HN;rw[h2];obtain⟨C',e1,e2⟩:=R2 hk hb (l:=[p]) (by simp);have:=e2 C hg;subst this;simp[vn (show l.length<k by omega) (show yB l by show l.length≤9999;omega),ot (show r.length≤9999 by omega)];rw[List.append_cons r p done,←g2];have MZ:vv k B.1 B.2.1 B.2.2.1 B.2.2.2 [(p.1,p.2.1,p.2.2.1,p.2.2.2.1,p.2.2.2.2.1,p.2.2.2.2.2.1,p.2.2.2.2.2.2)]=_:=e1;rw[MZ];rfl
theorem vL3 {k}(hk:200≤k){B C}(hb:qX B){l m done}(hl:l.length≤100){t}(h:g9 k t B l done C m):R4 k B.1 B.2.1 B.2.2.1 B.2.2.2 l t=some (C.1,C.2.1,C.2.2.1,C.2.2.2,m,done):=by
 unfold R4;rw[abr (by omega) t h k [] hb hl (by omega) (by grind)];rfl
def qPq (x:Option (zJ×zJ×BT)):Int×Int×Int×Int×Int×Int×Int×Int×Int×Int×Int×Int×Int×Int×Bool:=match x with
 |some (p,q,C)=>(p.1,p.2.1,p.2.2.1,p.2.2.2.1,p.2.2.2.2.1,p.2.2.2.2.2.1,p.2.2.2.2.2.2,q.1,q.2.1,q.2.2.1,q.2.2.2.1,q.2.2.2.2.1,q.2.2.2.2.2.1,q.2.2.2.2.2.2,true)
 |none=>(0,0,0,0,0,0,0,0,0,0,0,0,0,0,false)
theorem vNk {k}(hk:100<k){B}(h:qX B)(m:List zJ)(hm:m.length≤9999){j}(hj:j<m.length):∀c i n,i+c=m.length→c<n→
  M3 k n j i B.1 B.2.1 B.2.2.1 B.2.2.2 0 0 0 0 0 0 0 0 0 0 0 0 0 0 m = some (match pB k B (m.getD j pd) (m.drop i) with
   |some (q,C)=>.inr (true,(m.getD j pd).1,(m.getD j pd).2.1,(m.getD j pd).2.2.1,(m.getD j pd).2.2.2.1,(m.getD j pd).2.2.2.2.1,(m.getD j pd).2.2.2.2.2.1,(m.getD j pd).2.2.2.2.2.2,q.1,q.2.1,q.2.2.1,q.2.2.2.1,q.2.2.2.2.1,q.2.2.2.2.2.1,q.2.2.2.2.2.2)
   |none=>.inl ((j:Int),B.1,B.2.1,B.2.2.1,B.2.2.2,0,0,0,0,0,0,0,0,0,0,0,0,0,0,m))
 |0,i,n,e,hn=>by
  obtain⟨n,rfl⟩:∃x,n=x+1:=⟨n-1,by omega⟩;have:i=m.length:=by omega
  subst this;show HO k _ j m.length B.1 B.2.1 B.2.2.1 B.2.2.2 0 0 0 0 0 0 0 0 0 0 0 0 0 0 m=_;unfold HO;simp;rfl
 |c+1,i,n,e,hn=>by
  obtain⟨n,rfl⟩:∃x,n=x+1:=⟨n-1,by omega⟩;have hi:i<m.length:=by omega
  have ih:=vNk hk h m hm hj c (i+1) n (by omega) (by omega);show HO k _ j i B.1 B.2.1 B.2.2.1 B.2.2.2 0 0 0 0 0 0 0 0 0 0 0 0 0 0 m=_;unfold HO;obtain⟨C,h1,h2⟩:=R2 hk h (l:=[m.getD j pd,m.getD i pd]) (by simp);simp[qB,qD hi (by grind),h1];rw[vLn k B _ hi];unfold rp;grind
theorem vFd {k}(hk:100<k){B}(h:qX B)(m:List zJ)(hm:m.length≤9999)(Mb:m.length<k):∀c i n,i+c=m.length→c<n→
  M4 k n i B.1 B.2.1 B.2.2.1 B.2.2.2 0 0 0 0 0 0 0 0 0 0 0 0 0 0 m = some (match tg k B m (m.drop i) with
   |some (p,q,C)=>.inr (true,p.1,p.2.1,p.2.2.1,p.2.2.2.1,p.2.2.2.2.1,p.2.2.2.2.2.1,p.2.2.2.2.2.2,q.1,q.2.1,q.2.2.1,q.2.2.2.1,q.2.2.2.2.1,q.2.2.2.2.2.1,q.2.2.2.2.2.2)
   |none=>.inl (0,0,0,0,0,0,0,0,0,0,0,0,0,0))
 |0,i,n,e,hn=>by
  obtain⟨n,rfl⟩:∃x,n=x+1:=⟨n-1,by omega⟩;have:i=m.length:=by omega
  subst this;show HP k _ m.length B.1 B.2.1 B.2.2.1 B.2.2.2 0 0 0 0 0 0 0 0 0 0 0 0 0 0 m=_;unfold HP;simp;rfl
 |c+1,i,n,e,hn=>by
  obtain⟨n,rfl⟩:∃x,n=x+1:=⟨n-1,by omega⟩;have hi:i<m.length:=by omega
  have ih:=vFd hk h m hm Mb c (i+1) n (by omega) (by omega);show HP k _ i B.1 B.2.1 B.2.2.1 B.2.2.2 0 0 0 0 0 0 0 0 0 0 0 0 0 0 m=_;unfold HP;have gC:=vNk hk h m hm hi m.length 0 k (by omega) Mb;have e0:((0:Nat):Int)=0:=rfl;rw[e0,List.drop_zero] at gC;simp[aa hi];rw[gC];rw[yVd k B m hi];cases pB k B (m.getD i pd) m with
  |none=>
   simp[qD hi (by grind)];exact ih
  |some x=>rfl
theorem yRj {k}(hk:100<k){B}(h:qX B){l}(bK:l.length<k)(hl:yB l) t:R5 k B.1 B.2.1 B.2.2.1 B.2.2.2 l t=some (qPq (fR k B l t)):=by
 unfold R5 fR;rw[vMm bK hl];have GH:=Rf l t;unfold yB at hl;have:=vFd hk h (wM l t) (by omega) (by omega) (wM l t).length 0 k (by omega) (by omega);have e:((0:Nat):Int)=0:=rfl;rw[e,List.drop_zero] at this;simp;rw[this];cases tg k B (wM l t) (wM l t) with
 |none=>rfl
 |some x=>rfl
theorem abt {k}(hk:100<k) t {B C l m done}(h:ek k t B l done C m):∀n (r:List zJ),qX B→qP l→l.length≤100→l.length<n→r.length+l.length≤900→
  M5 k n l t B.1 B.2.1 B.2.2.1 B.2.2.2 r=some (m,C.1,C.2.1,C.2.2.1,C.2.2.2,r++done):=by
 induction h with
 |@stop B l hx=>
  intro n r hb hd hl hn hr;obtain⟨n,rfl⟩:∃x,n=x+1:=⟨n-1,by omega⟩;have h2:=yRj hk hb (l:=l) (by omega) (by show l.length≤9999;omega) t;rw[hx] at h2;show HQ k _ l t B.1 B.2.1 B.2.2.1 B.2.2.2 r=_;unfold HQ;rw[h2];simp only[ae,qPq,bO,ag,List.append_nil]
 |@step B C D l m done p q hx _ ih=>
  intro n r hb hd hl hn hr;obtain⟨n,rfl⟩:∃x,n=x+1:=⟨n-1,by omega⟩;have h2:=yRj hk hb (l:=l) (by omega) (by show l.length≤9999;omega) t;rw[hx] at h2;obtain⟨hp,hq,pC,hg⟩:=GJ hx;obtain⟨ua,nT⟩:=GK hd hp hq pC;obtain⟨oe,dq⟩:=tf hk hb (by simp) hg;have tm:(fj l p.1).length≤l.length:=(uW hp).2.length_le;have g2:=ih n (r++[p,q]) oe (List.Pairwise.sublist nT hd) (by omega) (by omega) (by grind);have e2:r++[p,q]++done=r++p::q::done:=by rw[List.append_assoc];rfl
  show HQ k _ l t B.1 B.2.1 B.2.2.1 B.2.2.2 r=_;unfold HQ;rw[h2];obtain⟨C',e1,e2'⟩:=R2 hk hb (l:=[p,q]) (by simp);have:=e2' C hg;subst this;have MZ:vv k B.1 B.2.1 B.2.2.1 B.2.2.2 [(p.1,p.2.1,p.2.2.1,p.2.2.2.1,p.2.2.2.2.1,p.2.2.2.2.2.1,p.2.2.2.2.2.2),(q.1,q.2.1,q.2.2.1,q.2.2.2.1,q.2.2.2.2.1,q.2.2.2.2.2.1,q.2.2.2.2.2.2)]=_:=e1;have d1:=vn (show l.length<k by omega) (show yB l by show l.length≤9999;omega) p.1;have d2:=vn (k:=k) (l:=(iG l p.1).1) (Nat.lt_of_le_of_lt tm (by omega)) (Nat.le_trans tm (by omega)) q.1;have e3:zL (r.length+2) 56=true:=qF;simp only[ae,qPq,MZ,d1,d2,e3];rw[←e2,←g2];rfl
theorem vF5 {k}(hk:200≤k){B C}(hb:qX B){l m done}(hd:qP l)(hl:l.length≤100){t}(h:ek k t B l done C m):R6 k B.1 B.2.1 B.2.2.1 B.2.2.2 l t=some (C.1,C.2.1,C.2.2.1,C.2.2.2,m,done):=by
 unfold R6;rw[abt (by omega) t h k [] hb hd hl (by omega) (by grind)];rfl
theorem qUg {k l}(hk:l.length<k)(hl:yB l) many:HR k l many=some (vM l many):=by
 unfold yB at hl;unfold HR;obtain ⟨s', h1, h2⟩ := vA (L := fun n i s => HS k n l many i s) (N := l.length) (fun s => s) (fun i s => s = nx l many i) (fun n s _=>by
  show HT k _ l many l.length s=_;unfold HT;simp) (fun n i s hi hs=>by
  have dP:s.length≤i:=by rw[hs];exact qT1 l many i
  refine⟨bif th l many i then s++[l.getD i pd] else s,?_,?_⟩
  ·show HT k _ l many i s=_;unfold HT;have c1:decide ((0:Int)≤(i:Int))=true:=by simp
   have c2:decide ((i:Int)≤(l.length:Int))=true:=by grind
   have Z3:=QU (k:=k) (l:=l.take i) (by grind) (by show(l.take i).length≤9999;grind) (l.getD i pd).2.1;simp only[qB,qD hi (by grind),qZ,ao,aa hi,ot (show s.length≤9999 by omega),c2,Z3];unfold th ez;cases e1:decide ((l.getD i (0,(0,(0,(0,(0,(0,0))))))).2.1≥0) with
   |false=>rfl
   |true=>
    cases e2:decide ((l.getD i (0,(0,(0,(0,(0,(0,0))))))).2.1<(many.length:Int)) with
    |false=>rfl
    |true=>
     rw[ba] at e1 e2;have hb:zB (l.getD i (0,(0,(0,(0,(0,(0,0))))))).2.1 many.length=true:=wT e1 (by omega);grind
  ·show _=nx l many i++_;grind) (s:=[]) hk rfl
 have fa:HS k k l many 0 []=some s':=h1;rw[fa,h2];rfl
theorem abu {k}{B:BT}{l}(hk:l.length<k)(hl:yB l)(hn:B.1.length<k)(hn':B.1.length≤9999):
  CQ k k 0 B.1 B.2.1 B.2.2.1 B.2.2.2 l []=some (B.1,B.2.1,B.2.2.1,B.2.2.2,l,hY l B.1.length):=by
 obtain ⟨s', h1, h2⟩ := vA (L := fun n i (s : AC) => CQ k n i B.1 B.2.1 B.2.2.1 B.2.2.2 l s) (N := B.1.length) (fun s => (B.1, B.2.1, B.2.2.1, B.2.2.2, l, s)) (fun i s => s = hY l i) (fun n s _=>by
  show HU k _ B.1.length B.1 B.2.1 B.2.2.1 B.2.2.2 l s=_;unfold HU;simp) (fun n i s hi hs=>by
  refine⟨_,?_,(vK2 l i).symm⟩;show HU k _ i B.1 B.2.1 B.2.2.1 B.2.2.2 l s=_;unfold HU;have hr:zL (s.length+1) 8=true:=by rw[hs,yn];exact qF
  simp[aa hi,QU hk hl,hr,qD hi (by grind)];rw[hs];rfl) (s:=[]) hn rfl
 simp_all
theorem abv {k}{B:BT}{l:List zJ}{s m}(hk:s.length<k)(hs:s.length≤9999)(gC:∀x∈s,0≤x∧x<(m.length:Int))(h0:pD m)(hm:∀i,m.getD i 0≤9999) aP:
  HV k k aP 0 B.1 B.2.1 B.2.2.1 B.2.2.2 l m s=some (aP,B.1,B.2.1,B.2.2.1,B.2.2.2,l,fk s m):=by
 obtain ⟨s', h1, h2⟩ := vA (L := fun n i (r : AC) => HV k n aP i B.1 B.2.1 B.2.2.1 B.2.2.2 l r s) (N := s.length) (fun r => (aP, B.1, B.2.1, B.2.2.1, B.2.2.2, l, r)) (fun i r => r = fk (s.take i) m) (fun n r _=>by
  show HW k _ aP s.length B.1 B.2.1 B.2.2.1 B.2.2.2 l r s=_;unfold HW;simp) (fun n i r hi hr=>by
  refine⟨_,?_,(yM5 s m i hi).symm⟩;show HW k _ aP i B.1 B.2.1 B.2.2.1 B.2.2.2 l r s=_;unfold HW;obtain⟨b1,b2⟩:=gC _ (fD (d:=0) hi);have sm:r.length=m.length:=by rw[hr,uY]
  have hb:zB (s.getD i 0) r.length=true:=wT b1 (by omega);have fB:=Mh (s.take i) m (s.getD i 0).toNat;have um:=h0 (s.getD i 0).toNat;have my:=hm (s.getD i 0).toNat;have aS:(s.take i).length≤s.length:=by grind
  have hw:zA (r.getD (s.getD i 0).toNat 0-1)=r.getD (s.getD i 0).toNat 0-1:=by
   rw[hr];exact zP
  simp only[qZ,qB,ao,aa hi,ag,hb,hw,qD hi (by grind)];rw[hr]) (s:=m) hk rfl
 simp_all
theorem vW4 {k}(hk:100<k){B}(hb:qX B){l}(hl:∀q∈l,yR B.1.length q)(bU:l.length≤64){m f n}(h:ld B l m f n):
  ∀N (s7:Int),m.length=B.1.length→pD m→(∀i,m.getD i 0≤9999)→n<N→0≤s7→s7+n<1000000→
  M6 k N s7 B.1 B.2.1 B.2.2.1 B.2.2.2 l m=some (s7+n,f):=by
 induction h with
 |@stop m h=>
  intro N s7 hm h0 h1 hn hs pZ;obtain⟨N,rfl⟩:∃x,N=x+1:=⟨N-1,by omega⟩;show HX k _ s7 B.1 B.2.1 B.2.2.1 B.2.2.2 l m=_;unfold HX;have hS:=vHe hk hb (Mi hl bU m);have oX:uP k B.1 B.2.1 B.2.2.1 B.2.2.2 (vM l m)=some (eS B (vM l m)):=hS;rw[qUg (by omega) (show yB l by show l.length≤9999;omega)];simp_all
 |@step m f n h h' ih=>
  intro N s7 hm h0 h1 hn hs pZ;obtain⟨N,rfl⟩:∃x,N=x+1:=⟨N-1,by omega⟩;have hZ:=hb.n6;show HX k _ s7 B.1 B.2.1 B.2.2.1 B.2.2.2 l m=_;unfold HX;have hS:=vHe hk hb (Mi hl bU m);have oX:uP k B.1 B.2.1 B.2.2.1 B.2.2.2 (vM l m)=some (eS B (vM l m)):=hS;rw[qUg (by omega) (show yB l by show l.length≤9999;omega)];simp only[ae];rw[oX];simp only[ae];have w:zA (s7+1)=s7+1:=zP;have bx : decide ((((eS B (vM l m)).length : Nat) : Int) = 0) = false := ab (by
   have:=List.length_pos_iff.2 h;omega)
  have dP:(eS B (vM l m)).length≤B.1.length:=by
   unfold eS uR;grind
  rw[bx];simp;rw[abv (by omega) (by omega) (by rw[hm];exact yEa) h0 h1];simp[w];have hd0:=Rl hl hm h0;have:=ih N (s7+1) ((uY _ _).trans hm) hd0 (fun i=>by have:=(Mh (eS B (vM l m)) m i).2;have:=h1 i;omega) (by omega) (by omega) (by omega);rw[this]
  congr 2
  omega
theorem abw {k}(hk:100<k){B}(hb:qX B){l}(hl:∀q∈l,yR B.1.length q)(bU:l.length≤64) t {f n}(hn:n≤l.length)(h:ld B (vE l t) (hY (vE l t) B.1.length) f n):
  R7 k B.1 B.2.1 B.2.2.1 B.2.2.2 l t=some (f,((n+1:Nat):Int)):=by
 have hZ:=hb.n6;have hr:=yo l t;have h1:=Rm (l:=vE l t) (by omega) B.1.length;unfold R7;rw[Z0 (by omega) (by show l.length≤9999;omega)];simp;have e:CQ k k 0 B.1 B.2.1 B.2.2.1 B.2.2.2 (l.filter (kp t)) []=_:=abu (k:=k) (B:=B) (l:=vE l t) (by omega) (by show(vE l t).length≤9999;omega) (by omega) (by omega);rw[e];simp;rw[vW4 hk hb (Mj hl) (by omega) h k 1 (yn _ _) h1.1 h1.2 (by omega) (by omega) (by omega)];grind
theorem abx {k}{C:BT}{l hs:List zJ}(hl:l.length<k)(dL:l.length≤9999)(hk:hs.length<k)(hh:hs.length≤9999):
  CR k k l 0 hs C.1 C.2.1 C.2.2.1 C.2.2.2=some (pE l hs,hs,C.1,C.2.1,C.2.2.1,C.2.2.2):=by
 obtain ⟨s', h1, h2⟩ := vA (L := fun n i (s : List zJ) => CR k n s i hs C.1 C.2.1 C.2.2.1 C.2.2.2) (N := hs.length) (fun s => (s, hs, C.1, C.2.1, C.2.2.1, C.2.2.2)) (fun i s => s = pE l (hs.take i)) (fun n s _=>by
  show HY k _ s hs.length hs C.1 C.2.1 C.2.2.1 C.2.2.2=_;unfold HY;simp) (fun n i s hi hr=>by
  refine⟨_,?_,(yZj l hs i hi).symm⟩;show HY k _ s i hs C.1 C.2.1 C.2.2.1 C.2.2.2=_;unfold HY;have dP:=(Rn (hs.take i) l).1;rw[←hr] at dP⊢;simp[qB,aa hi,vn (show s.length<k by omega) (show yB s by show s.length≤9999;omega),qD hi (by grind)];rfl) (s:=l) hk rfl
 simp_all
theorem aby {k}(hk:100<k){B}(hb:qX B){l}(hl:∀q∈l,yR B.1.length q)(bU:l.length≤64) t {f n}(hn:n≤l.length)(h:ld B (vE l t) (hY (vE l t) B.1.length) f n)
  {r:List yG×EQ×AC×EQ×Int} (hr:Cb k B.1 B.2.1 B.2.2.1 B.2.2.2 (vM (vE l t) f)=some r):M7 k B.1 B.2.1 B.2.2.1 B.2.2.2 l t=some (GO B l (vM (vE l t) f) r):=by
 have sm:=yo l t;have Rp:=(ym (vE l t) f).length_le;unfold M7;rw[abw hk hb hl bU t hn h,Z0 (by omega) (by show l.length≤9999;omega)];simp;have e:HR k (l.filter (kp t)) f=_:=qUg (k:=k) (l:=vE l t) (by omega) (by show(vE l t).length≤9999;omega) f;rw[e];simp;rw[hr];simp;unfold GO;cases decide (r.2.2.2.2=0) with
 |false=>rfl
 |true=>
  have e2:CR k k l 0 (vM (vE l t) f) r.1 r.2.1 r.2.2.1 r.2.2.2.1=_:=abx (C:=(r.1,r.2.1,r.2.2.1,r.2.2.2.1)) (by omega) (by omega) (by omega) (by omega);simp_all
theorem g9.books {k}(hk:100<k){t B C l done m}(h:g9 k t B l done C m)(hb:qX B)(hd:qP l):qX C∧C.1.length=B.1.length∧List.Sublist m l:=by
 induction h with
 |stop _=>simp_all
 |step h _ ih=>
  obtain⟨hp,hg⟩:=Cq h;obtain⟨h1,h2⟩:=uW (GD hp);obtain⟨h3,h4⟩:=tf hk hb (by simp) hg;obtain⟨g1,g2,g3⟩:=ih h3 (List.Pairwise.sublist h2 hd);exact⟨g1,g2.trans h4,g3.trans h2⟩
theorem ek.books {k}(hk:100<k){t B C l done m}(h:ek k t B l done C m)(hb:qX B)(hd:qP l):qX C∧C.1.length=B.1.length∧List.Sublist m l:=by
 induction h with
 |stop _=>simp_all
 |step h _ ih=>
  obtain⟨hp,hq,pC,hg⟩:=GJ h;obtain⟨h1,h2⟩:=GK hd hp hq pC;obtain⟨h3,h4⟩:=tf hk hb (by simp) hg;obtain⟨g1,g2,g3⟩:=ih h3 (List.Pairwise.sublist h2 hd);exact⟨g1,g2.trans h4,g3.trans h2⟩
theorem abz {k}(hk:200≤k){t B C l m done}(h:mF k t B l done C m):∀n (r:List zJ),qX B→qP l→l.length≤100→l.length<n→r.length+l.length≤900→
  M8 k n l t B.1 B.2.1 B.2.2.1 B.2.2.2 r=some (m,C.1,C.2.1,C.2.2.1,C.2.2.2,r++done):=by
 induction h with
 |@stop B C l m d h1 h2=>
  intro n r hb hd hl hn hr;obtain⟨n,rfl⟩:∃x,n=x+1:=⟨n-1,by omega⟩;have p1:=h1.perm hd;have l1:=p1.length_eq;rw[ay] at l1;obtain⟨g1,g2,g3⟩:=h1.books (by omega) hb hd;have f1:=vL3 hk hb hl h1;have f2:=vF5 hk g1 (List.Pairwise.sublist g3 hd) (by omega) (ek.stop (t:=t) h2);have r1:zL (r.length+d.length) 56=true:=qF;show HZ k _ l t B.1 B.2.1 B.2.2.1 B.2.2.2 r=_;unfold HZ;grind
 |@step B C D E l m n' o d e f h1 h2 ne h' ih=>
  intro n r hb hd hl hn hr;obtain⟨n,rfl⟩:∃x,n=x+1:=⟨n-1,by omega⟩;have p1:=h1.perm hd;have l1:=p1.length_eq;rw[ay] at l1;obtain⟨g1,g2,g3⟩:=h1.books (by omega) hb hd;have hm:qP m:=List.Pairwise.sublist g3 hd;have p2:=h2.perm hm;have l2:=p2.length_eq;rw[ay] at l2;obtain⟨k1,k2,k3⟩:=h2.books (by omega) g1 hm;have f1:=vL3 hk hb hl h1;have f2:=vF5 hk g1 hm (by omega) h2;have mg:=List.length_pos_iff.2 ne;have r1:zL (r.length+d.length) 56=true:=qF;have r2:zL ((r++d).length+e.length) 56=true:=qF (by rw[ay];omega) (by rw[ay];omega);have:=ih n (r++d++e) k1 (List.Pairwise.sublist k3 hm) (by omega) (by omega) (by simp;omega);show HZ k _ l t B.1 B.2.1 B.2.2.1 B.2.2.2 r=_;unfold HZ;grind
theorem ySd {k}(hk:200≤k){t B C l m done}(hb:qX B)(hd:qP l)(hl:l.length≤100)(h:mF k t B l done C m):
  M9 k B.1 B.2.1 B.2.2.1 B.2.2.2 l t=some (C.1,C.2.1,C.2.2.1,C.2.2.2,m,done):=by
 unfold M9;rw[abz hk h k [] hb hd hl (by omega) (by grind)];rfl
theorem vUa {k}(hk:200≤k){B}(hb:qX B){l:List zJ}(hl:∀q∈l,yR B.1.length q)(bU:l.length≤64) t:
  ∃r,Cv k B.1 B.2.1 B.2.2.1 B.2.2.2 l t=some r∧M7 k B.1 B.2.1 B.2.2.1 B.2.2.2 l t=some r:=by
 obtain⟨f,n,h,hn⟩:=qT9 hb hl bU t;have sm:=yo l t;have Rp:=(ym (vE l t) f).length_le;obtain⟨r,h1,h2,h3⟩:=GC (k:=k) (by omega) hb (l:=vM (vE l t) f) (by omega);exact⟨_,qO7 (k:=k) (by omega) hb hl bU t (by omega) h h1,aby (k:=k) (by omega) hb hl bU t (by omega) h h2⟩
theorem abA {k}(hk:200≤k){B}(hb:qX B){l}(hd:qP l)(hl:∀q∈l,yR B.1.length q)(bU:l.length≤64) t all:
  ∃(C:BT) (m done:List zJ),yp k B.1 B.2.1 B.2.2.1 B.2.2.2 l t all=some (C.1,C.2.1,C.2.2.1,C.2.2.2,m,done)∧R8 k B.1 B.2.1 B.2.2.1 B.2.2.2 l t all=some (C.1,C.2.1,C.2.2.1,C.2.2.2,m,done)∧
   qX C∧C.1.length=B.1.length∧List.Sublist m l∧List.Perm (done++m) l∧fZ k C (wM m t)=none∧fR k C m t=none:=by
 obtain⟨C,m,d,f1,f2,f3,f4,f5⟩:=GZ hk hb hd (by omega) t;have fr:=ySd hk hb hd (by omega) f2;have p1:=f2.perm hd;have l1:=p1.length_eq;rw[ay] at l1;unfold yp R8;rw[f1,fr];simp only[ae];cases all with
 |false=>exact⟨C,m,d,rfl,rfl,f3,f4,f5,p1,f2.final⟩
 |true=>
  have hm:qP m:=List.Pairwise.sublist f5 hd;have hmm:∀q∈m,yR C.1.length q:=by grind
  obtain⟨D,n,x,g1,g2,g3,g4,g5,g6⟩:=qVs hk f3 hm hmm (by omega) t;obtain⟨R,r1,r2⟩:=vUa hk f3 hmm (by omega) t;have hR:R=(D.1,D.2.1,D.2.2.1,D.2.2.2,n,x):=by rw[g1] at r1;exact(Option.some.inj r1).symm
  subst hR;have l2:=g5.length_eq;rw[ay] at l2;rw[g1,r2];simp only[ae];cases x with
  |nil=>
   obtain⟨rfl,rfl⟩:=g6 rfl;exact⟨D,n,d,rfl,rfl,f3,f4,f5,p1,f2.final⟩
  |cons p x=>
   have e1:decide ((((p::x).length:Nat):Int)=0)=false:=ab (by simp;omega);rw[e1];have hn:qP n:=List.Pairwise.sublist g4 hm;obtain⟨E,o,y,k1,k2,k3,k4,k5⟩:=GZ hk g2 hn (by omega) t;have kr:=ySd hk g2 hn (by omega) k2;have p3:=k2.perm hn;have l3:=p3.length_eq;rw[ay] at l3;have e2:zL (d.length+(p::x).length) 56=true:=qF (by simp at l2⊢;omega) (by simp at l2⊢;omega);have e3:zL ((d++(p::x)).length+y.length) 56=true:=qF (by simp at l2⊢;omega) (by simp at l2⊢;omega);rw[k1,kr];simp only[ae,e2,e3,ag];refine⟨E,o,d++(p::x)++y,rfl,rfl,k3,k4.trans (g3.trans f4),k5.trans (g4.trans f5),?_,k2.final⟩;have e4:d++(p::x)++y++o=d++((p::x)++(y++o)):=by simp
   rw[e4];exact by grind
theorem yMc {B:BT}(hb:qX B){m:List zJ}(hd:qP m)(hm:∀q∈m,yR B.1.length q)(bU:m.length≤64)(t:Int)(pr:AC)(ho:EQ)(ids:AC)(to:Int)(ov all:Bool):
  ∃(C:BT) (m' d:List zJ),u9 9999 t B.1 B.2.1 B.2.2.1 B.2.2.2 pr ho m ids to ov all=some (t,C.1,C.2.1,C.2.2.1,C.2.2.2,pr,ho,m',ids,to,ov,vT d)∧
   oG 9999 t B.1 B.2.1 B.2.2.1 B.2.2.2 pr ho m ids to ov all=some (t,C.1,C.2.1,C.2.2.1,C.2.2.2,pr,ho,m',ids,to,ov,vT d)∧qX C∧gb B C∧List.Sublist m' m∧List.Perm (d++m') m∧fZ 9999 C (wM m' t)=none:=by
 obtain⟨C,m',d,f1,fr,f2,f3,f4,f5,f6,f7⟩:=abA (k:=9999) (by decide) hb hd hm bU t all;have hlen:=f5.length_eq;rw[ay] at hlen;refine⟨C,m',d,?_,?_,f2,vCp (by decide) hb hd hm bU t all f1,f4,f5,f6⟩
 ·unfold u9;rw[f1];simp only[ae];rw[yTn (by omega) (by omega)];rfl
 ·unfold oG;rw[fr];simp only[ae];rw[aaD (by omega) (by omega)];rfl
theorem CT kd a:fK 9999 kd [a]=some (kd,a,0,0,0,0,0):=by rfl
theorem Of0 kd:fK 9999 kd []=some (kd,0,0,0,0,0,0):=by rfl
theorem Of5 kd a b c d e:fK 9999 kd [a,b,c,d,e]=some (kd,a,b,c,d,e,0):=by rfl
theorem vO7 (s:qI)(hm:s.m.length≤100)(b:Int×Int×Bool):zq 9999 9999 s.m 0 s.st b []=some (s.st,b,s.m.map (wX 22)):=by
 obtain ⟨s', h1, h2⟩ := vA (L := fun n i (o : List yD) => zq 9999 n s.m i s.st b o) (N := s.m.length) (fun o => (s.st, b, o)) (fun i o => o = (s.m.take i).map (wX 22)) (fun n o _=>by
  show H0 9999 (zq 9999 n) s.m s.m.length s.st b o=_;unfold H0;simp) (fun n i o hi ho=>by
  refine⟨_,?_,(vJj (wX 22) s.m i pd hi).symm⟩;show H0 9999 (zq 9999 n) s.m i s.st b o=_;unfold H0;have dP:o.length≤900:=by grind
  rw[aa (by grind),qB,aa hi,ao,CT,qD hi (by omega)];simp only[yq (show o.length≤9999 by omega)];rw[ho];rfl) (s:=[]) (show s.m.length<9999 by omega) rfl
 simp_all
theorem abB (s:qI)(hB:s.B.1.length≤6)(b:Int×Int×Bool)(l:List yD)(hl:l.length≤100):zr 9999 9999 0 s.st b l=some (s.st,b,l++je s.B s.B.1.length):=by
 have ea:s.st.2.1=s.B.1:=rfl;obtain ⟨s', h1, h2⟩ := vA (L := fun n i (o : List yD) => zr 9999 n i s.st b o) (N := s.B.1.length) (fun o => (s.st, b, o)) (fun i o => o = l ++ je s.B i) (fun n o _=>by
  show H2 9999 (zr 9999 n) s.B.1.length s.st b o=_;unfold H2;simp_all) (fun n i o hi ho=>by
  refine⟨_,?_,(show l++je s.B i++[yu s.B i]=l++je s.B (i+1) by rw[vHf,List.append_assoc])⟩;show H2 9999 (zr 9999 n) i s.st b o=_;unfold H2;have dP:o.length≤900:=by
   rw[ho,ay];unfold je;grind
  rw[ea,aa (by grind),qB,aa hi,ao,CT,qD hi (by omega)];simp only[yq (show o.length≤9999 by omega)];rw[ho];rfl) (s:=l) (show s.B.1.length<9999 by omega) (by show _=_++[];simp)
 simp_all
theorem vZf {a b p}(hd:qP (a++p::b)):iG (a++p::b) p.1=(a++b,p.1,p.2.1,p.2.2.1,p.2.2.2.1,p.2.2.2.2.1,p.2.2.2.2.2.1,p.2.2.2.2.2.2,0):=by
 have hl:a.length<(a++p::b).length:=by simp
 have hg:(a++p::b).getD a.length pd=p:=by simp
 have hp:=abq hd hl;rw[hg] at hp;unfold fi at hp;unfold iG;cases hx:vX (a++p::b) p.1 with
 |none=>simp_all
 |some x=>
  rw[hx] at hp;simp only at hp;obtain rfl:x=a.length:=by omega
  unfold yN;simp
theorem abC (r:qQ)(s:qI)(hd:qP s.m)(hm:s.m.length≤100)(b:Int×Int×Bool):
  vw 9999 9999 s.m 0 r s.st b []=some (r,qI.st {s with m:=s.m.filter (fun p=> !vG s.t p)},b,(s.m.filter (vG s.t)).map (wX 21)):=by
 obtain ⟨s', h1, h2, h3⟩ := vA (L := fun n i (x : List zJ × List yD) => vw 9999 n s.m i r (qI.st { s with m := x.1 }) b x.2) (N := s.m.length) (fun x => (r, qI.st { s with m := x.1 }, b, x.2)) (fun i x => x.1 = (s.m.take i).filter (fun p => !vG s.t p) ++ s.m.drop i ∧ x.2 = ((s.m.take i).filter (vG s.t)).map (wX 21)) (fun n x _=>by
  show H3 9999 (vw 9999 n) s.m s.m.length r _ b _=_;unfold H3;rw [ab (Int.lt_irrefl _)]; rfl) (fun n i x hi hx=>by
  have f1:=Ch (vG s.t) s.m i pd hi;have f2:=Ch (fun p=> !vG s.t p) s.m i pd hi;have hdr:s.m.drop i=s.m.getD i pd::s.m.drop (i+1):=by rw[List.drop_eq_getElem_cons hi,CF _ hi]
  have nT:x.2.length≤900:=by
   rw[hx.2,List.length_map];have:=List.length_filter_le (vG s.t) (s.m.take i);rw[bZ] at this;omega
  have ua:x.1.length≤s.m.length:=by
   rw[hx.1,ay,List.length_drop];have:=List.length_filter_le (fun p=> !vG s.t p) (s.m.take i);rw[bZ] at this;omega
  have cP:List.Sublist x.1 s.m:=by
   have h:=List.Sublist.append (List.filter_sublist (p:=fun p=> !vG s.t p) (l:=s.m.take i)) (List.Sublist.refl (s.m.drop i));rw[List.take_append_drop] at h;rw[hx.1];exact h
  have hdx:qP x.1:=List.Pairwise.sublist cP hd;have e0:∀p:zJ,qU5 9999 p.1 p.2.1 p.2.2.1 p.2.2.2.1 p.2.2.2.2.1 p.2.2.2.2.2.1 p.2.2.2.2.2.2 s.t=some (vG s.t p):=fun p=>rfl
  have ed:s.m.getD i (0,0,0,0,0,0,0)=s.m.getD i pd:=rfl;have et:(qI.st {s with m:=x.1}).1=s.t:=rfl;have em:(qI.st {s with m:=x.1}).2.2.2.2.2.2.2.1=x.1:=rfl;show∃s',H3 9999 (vw 9999 n) s.m i r (qI.st {s with m:=x.1}) b x.2=_∧_;unfold H3;rw[aa (show(i:Int)<s.m.length by omega),qB,aa hi,ao,ed,et,em,e0,CT,qD hi (by omega),vn (by omega) (by unfold yB;omega)];simp only[ag,ae,yq (show x.2.length≤9999 by omega)];cases hb:vG s.t (s.m.getD i pd) with
  |true=>
   have du:=hx.1;rw[hdr] at du;have e1:=vZf (a:=(s.m.take i).filter (fun p=> !vG s.t p)) (b:=s.m.drop (i+1)) (p:=s.m.getD i pd) (by rw[←du];exact hdx);rw[←du] at e1;rw[e1];refine⟨((s.m.take i).filter (fun p=> !vG s.t p)++s.m.drop (i+1),x.2++[wX 21 (s.m.getD i pd)]),rfl,?_,?_⟩
   ·show _=_;rw[f2,hb];simp
   ·show x.2++_=_;rw[f1,hb,hx.2];simp
  |false=>
   refine⟨x,rfl,?_,?_⟩
   ·rw[f2,hb,hx.1,hdr];simp
   ·rw[f1,hb,hx.2];simp) (s:=(s.m,[])) (show s.m.length<9999 by omega) ⟨by simp,rfl⟩
 rw[List.take_length,List.drop_length,List.append_nil] at h2;rw[List.take_length] at h3;have fa:vw 9999 9999 s.m 0 r s.st b []=_:=h1;rw[fa,h2,h3]
theorem abD (r:qQ){s:qI}(hb:qX s.B)(hd:qP s.m)(hm:∀q∈s.m,yR s.B.1.length q)(bU:s.m.length≤64)(ht:0≤s.t∧s.t<1099511627776)(Mv:r.2.2.2.2≠0)(ho:s.ov=false):
  ∃x:Int×List yG×jM×AC×jM×AC×jM×List zJ×AC×Int×Bool×List yD,yv 9999 r.1 r.2.1 r.2.2.1 r.2.2.2.1 r.2.2.2.2 s.t s.B.1 s.B.2.1 s.B.2.2.1 s.B.2.2.2 s.pr s.ho s.m s.ids s.to s.ov=some x∧H4 9999 r s.st=some (qO x,x.2.2.2.2.2.2.2.2.2.2.2):=by
 have hZ:=hb.n6;have w:zA (s.t+1)=s.t+1:=zP;have eR:H4 9999 r s.st=bif s.ov then some (s.st,[])
  else(R9 9999 r (zA (s.t+1))).bind fun x0=>
  bif x0 then ((zq 9999 9999 s.m 0 ((zA (s.t+1)),s.st.2) (0,0,false) []).bind fun z=>
   (zr 9999 9999 0 z.1 z.2.1 z.2.2).bind fun z1=>
   some ((ku z1.1 ([],z1.1.2.2.2.2.2.2.2.2.1,z1.1.2.2.2.2.2.2.2.2.2.1,true)),z1.2.2))
  else(vw 9999 9999 s.m 0 r ((zA (s.t+1)),s.st.2) (0,0,false) []).bind fun z2=>
  (Na 9999 z2.1 z2.2.1.1).bind fun x6=>
  (oG 9999 z2.2.1.1 z2.2.1.2.1 z2.2.1.2.2.1 z2.2.1.2.2.2.1 z2.2.1.2.2.2.2.1 z2.2.1.2.2.2.2.2.1 z2.2.1.2.2.2.2.2.2.1 z2.2.1.2.2.2.2.2.2.2.1 z2.2.1.2.2.2.2.2.2.2.2.1 z2.2.1.2.2.2.2.2.2.2.2.2.1 z2.2.1.2.2.2.2.2.2.2.2.2.2 x6).bind fun x7=>
  bif zL (z2.2.2.2.length+x7.2.2.2.2.2.2.2.2.2.2.2.length) 64 then some ((qO x7),(z2.2.2.2++x7.2.2.2.2.2.2.2.2.2.2.2))
  else none:=rfl
 have eT:((s.t+1,s.st.2):tn)=qI.st {s with t:=s.t+1}:=rfl;rw[eR,w,eT,ho];unfold yv Cy R9;simp only[w,ak,ae];cases hc:decide (s.t+1=r.2.2.2.1) with
 |true=>
  simp only[ag];rw[vCd hZ (by decide) (by omega)];have c0:=vO7 {s with t:=s.t+1,ov:=false} (by show s.m.length≤100;omega) (0,0,false);have c1:=abB {s with t:=s.t+1,ov:=false} (by show s.B.1.length≤6;exact hZ) (0,0,false) (s.m.map (wX 22)) (by rw[List.length_map];omega);refine⟨_,rfl,?_⟩;refine(congrArg (fun z=>Option.bind z _) c0).trans ?_;refine(congrArg (fun z=>Option.bind z _) c1).trans ?_;rfl
 |false=>
  simp only[ak];rw[vHa (by decide) (by omega)];have c2:=abC r {s with t:=s.t+1,ov:=false} hd (by show s.m.length≤100;omega) (0,0,false);have hs:∃x,Hb 9999 r.1 r.2.1 r.2.2.1 r.2.2.2.1 r.2.2.2.2 (s.t+1)=some x∧Na 9999 r (s.t+1)=some x:=by
   unfold Hb Na;cases decide (s.t+1>0) with
   |false=>exact⟨_,rfl,rfl⟩
   |true=>
    cases decide (s.t+1<r.2.2.2.1) with
    |false=>exact⟨_,rfl,rfl⟩
    |true=>
     have:decide (r.2.2.2.2=0)=false:=ab Mv;rw[this];exact⟨_,rfl,rfl⟩
  obtain⟨x,hx,pW⟩:=hs;simp only[ae];rw[hx];have cP:List.Sublist (s.m.filter (fun p=> !vG (s.t+1) p)) s.m:=List.filter_sublist;have dP:=cP.length_le;have tm:qP (s.m.filter (fun p=> !vG (s.t+1) p)):=List.Pairwise.sublist cP hd;obtain⟨C,m',d,f1,f1',f2,f3,f4,f5,f6⟩:=yMc hb tm (by grind) (by omega) (s.t+1) s.pr s.ho s.ids s.to false x;have hlen:=f5.length_eq;rw[ay] at hlen;have hla:(s.m.filter (vG (s.t+1))).length≤s.m.length:=by grind
  have Ev:=G0 d;have hr:zL (((s.m.filter (vG (s.t+1))).map (wX 21)).length+(vT d).length) 64=true:=qF (by rw[List.length_map];omega) (by rw[List.length_map];omega);simp only[ae];rw[f1];simp only[ae,hr,ag];refine⟨_,rfl,?_⟩;refine(congrArg (fun z=>Option.bind z _) c2).trans ?_;simp only[ae];refine(congrArg (fun z=>Option.bind z _) pW).trans ?_;have abE:oG 9999 (s.t+1) s.B.1 s.B.2.1 s.B.2.2.1 s.B.2.2.2 s.pr s.ho (s.m.filter (fun p=> !vG (s.t+1) p)) s.ids s.to false x=_:=f1';refine(congrArg (fun z=>Option.bind z _) abE).trans ?_;grind
theorem yJ.settled {r s}(h:yJ r s)(ho:s.ov=false){C}(hc:qX C)(kc:gb s.B C){m}(hm:List.Sublist m s.m):yJ r {s with B:=C,m:=m}:=by
  have hl:=kc.len;exact{
    tk:=h.tk
    bk:=hc
    n:=by rw[hl];exact h.n
    hol:=by rw[hl];exact h.hol
    laid:=by rw[hl];exact h.laid
    cred:=by rw[hl];intro i hi;rw[kc.cred i hi];exact h.cred i hi
    most:=by rw[hl];intro i hi;rw[kc.cred i hi];exact h.most i hi
    waits:=by rw[hl];exact h.waits.sub hm
    sum:=by rw[hl,kc.sum];exact h.sum
    tot:=h.tot
    over:=h.over
    none:=by grind}
theorem abF {k}(hk:9999≤k){r}(hr:jC r){s}(h:yJ r s)(ho:s.ov=false):
    ∃(C:BT) (m':List zJ) (ov:Bool) (o:List yD),yv k r.1 r.2.1 r.2.2.1 r.2.2.2.1 r.2.2.2.2 s.t s.B.1 s.B.2.1 s.B.2.2.1 s.B.2.2.2 s.pr s.ho s.m s.ids s.to s.ov=some (s.t+1,C.1,C.2.1,C.2.2.1,C.2.2.2,s.pr,s.ho,m',s.ids,s.to,ov,o)∧
      yJ r {s with t:=s.t+1,B:=C,m:=m',ov:=ov}∧gb s.B C∧(ov=false→fZ k C (wM m' (s.t+1))=none)∧o.length≤100∧
      ((ov=true∧m'=[]∧o=s.m.map (wX 22)++je s.B s.B.1.length∧C=s.B)∨∃l d n,o=l.map (wX 21)++vT d∧List.Perm (l++n) s.m∧List.Perm (d++m') n∧ov=false):=by
  have JQ:=hr.cl;have Mv:=hr.pe;have htk:=h.tk;have hn:=h.n;have aS:s.t≠r.2.2.2.1:=by
    have:=h.over;simp_all
  have vx:=h.bk;have hm:=h.waits.len;rw[ho];obtain⟨C,m',ov,o,e1,e2,e3,e4,e5⟩:=vTr (k:=k) (by omega) vx h.waits.dist h.waits.may (by omega) r.1 r.2.1 r.2.2.1 r.2.2.2.1 r.2.2.2.2 s.t (by omega) (by omega) s.pr s.ho s.ids s.to;have hl:=e3.len;refine⟨C,m',ov,o,e1,?_,e3,e4,?_,e5⟩
  · exact{
      tk:=by grind
      bk:=e2.bk
      n:=by simp_all
      hol:=by rw[hl];exact h.hol
      laid:=by rw[hl];exact h.laid
      cred:=by rw[hl];intro i hi;rw[e3.cred i hi];exact h.cred i hi
      most:=by rw[hl];intro i hi;rw[e3.cred i hi];exact h.most i hi
      waits:=by rw[hl];exact h.waits.sub e2.sub
      sum:=by rw[hl,e3.sum];exact h.sum
      tot:=h.tot
      over:=e2.over
      none:=e2.none}
  · have:=e2.room;split at this<;>omega
theorem abG r s who f:(lk r s who f).2.t=s.t∧(lk r s who f).2.ov=s.ov∧(lk r s who f).2.to=s.to:=by
 unfold lk;cases decide (f.1=5) with
 |true=>
  cases !((decide (f.2.1≥0)&&decide (f.2.1≤r.1-1))&& !decide (f.2.1=who))<;>cases !(decide (f.2.2.1≥-1)&&decide (f.2.2.1≤1152921504606846976))<;>exact⟨rfl,rfl,rfl⟩
 |false=>
  cases decide (f.1=6) with
  |true=>cases !(decide (f.2.1≥-1)&&decide (f.2.1≤1152921504606846976))<;>exact⟨rfl,rfl,rfl⟩
  |false=>cases !(decide (f.2.1≥0)&&decide (f.2.1≤1152921504606846976))<;>exact⟨rfl,rfl,rfl⟩
theorem abH r s who a n:(ll r s who a n).2.t=s.t∧(ll r s who a n).2.ov=s.ov∧(ll r s who a n).2.to=s.to:=by
 unfold ll;cases !(decide (a≥0)&&decide (a≤(r.2.1.length:Int)-1)) with
 |true=>simp
 |false=>
 cases !(decide (n≥0)&&decide (n≤1099511627776)) with
 |true=>simp
 |false=>
 unfold Hd;grind
theorem abI r s a p:(lr r s a p).2.t=s.t∧(lr r s a p).2.ov=s.ov∧(lr r s a p).2.to=s.to:=by
 unfold lr;cases !(decide (a≥0)&&decide (a≤(r.2.1.length:Int)-1)) with
 |true=>simp
 |false=>
 cases !(decide (p≥0)&&decide (p≤1048576)) with
 |true=>simp
 |false=>
 unfold HF;grind
theorem vZ5 {r s kd to n}:(lq r s kd to n).2.ov=s.ov:=by
 unfold lq;cases !(decide (to≥0)&&decide (to≤r.1-1)) with
 |true=>rfl
 |false=>
 cases !(decide (n≥1)&&decide (n≤1099511627776)) with
 |true=>rfl
 |false=>
 cases decide (kd=11) with
 |true=>
  unfold MQ;cases decide ((s.B.1.getD to.toNat ad).1+(s.B.1.getD to.toNat ad).2.1-(s.B.1.getD to.toNat ad).2.2<n)<;>cases decide (s.to-n<0)<;>cases decide ((jX (s.B.1.getD to.toNat ad) (-n)).2=0)<;>cases decide (s.to-n>1152921504606846976)<;>rfl
 |false=>
  unfold MR;cases decide ((jX (s.B.1.getD to.toNat ad) n).2=0)<;>cases decide (s.to+n>1152921504606846976)<;>rfl
theorem vXz {r s who f}:(lj r s who f).2.2.length≤1:=by
 unfold lj;grind
def Kd (o:List yD):Prop:=∀x∈o,x.2.1≠16∧x.2.1≠23
theorem zt:Kd []:=fun x h=>by grind
theorem qW3 {x}(h:x.2.1≠16∧x.2.1≠23):Kd [x]:=fun y hy=>by simp_all
theorem Kd.append {a b}(h:Kd a)(g:Kd b):Kd (a++b):=fun x hx=>(List.mem_append.1 hx).elim (h x) (g x)
theorem yEg:∀d:List zJ,Kd (vT d)
 |[]=>zt
 | p :: d => (show Kd [fI p.2.1 p,fI p.2.2.1 p] from fun x hx=>by
   rcases List.mem_cons.1 hx with rfl|hx
   ·exact⟨by nofun,by nofun⟩
   ·rw[List.mem_singleton.1 hx];exact⟨by nofun,by nofun⟩).append (yEg d)
theorem vDr {kd}(hk:kd=21∨kd=22)(l:List zJ):Kd (l.map (wX kd)):=fun x hx=>by
 obtain⟨p,_,rfl⟩:=List.mem_map.1 hx;show kd≠16∧kd≠23;omega
theorem abJ {r s who f}:Kd (lj r s who f).2.2:=by
 unfold lj;cases vX s.m f.2.1 with
 |none=>exact zt
 |some x=>
  simp only[];cases !decide ((s.m.getD x pd).2.1=who) with
  |true=>exact zt
  |false=>
  cases decide (f.1=2) with
  |true=>exact qW3 ⟨by nofun,by nofun⟩
  |false=>
  cases decide (f.1=4) with
  |true=>
   cases !(decide (f.2.2.1≥1)&&decide (f.2.2.1≤3))<;>cases !decide (ru r.2.2.1 r.2.2.2.1 s.t f.2.2.1=0)<;>exact zt
  |false=>
  cases decide (f.2.2.1=0)<;>cases decide (f.2.2.1=1)<;>exact zt
def oH (o:List yD):Prop:=∀x∈o,x.2.1≠16
theorem Kd.ne {o}(h:Kd o):oH o:=fun x hx=>(h x hx).1
theorem oH.append {a b}(h:oH a)(g:oH b):oH (a++b):=fun x hx=>(List.mem_append.1 hx).elim (h x) (g x)
theorem abK B n:oH (je B n):=fun x hx=>by
 obtain⟨i,_,rfl⟩:=List.mem_map.1 hx
 nofun
theorem vUi {r:qQ}{s:qI}{who:Int}{f:jN}(h:(jg r s who f).1=0):∀x∈(jg r s who f).2.2,x∈s.ids∨x=f.2.1:=by
 unfold jg at h⊢;cases h1:decide (f.2.2.1≥0)&&decide (f.2.2.1≤r.1-1) with
 |false=>exact fun _ h=>.inl h
 |true=>
 cases h2:decide (f.2.2.2.2.1≥1)&&decide (f.2.2.2.2.1≤3) with
 |false=>exact fun _ h=>.inl h
 |true=>
 cases decide (nC r s.t (gd who f)=0) with
 |false=>exact fun _ h=>.inl h
 |true=>
 cases decide (f.2.1∈s.ids) with
 |true=>exact fun _ h=>.inl h
 |false=>
 cases decide (200≤s.ids.length) with
 |true=>exact fun _ h=>.inl h
 |false=>
 cases(vX s.m f.2.1).isSome with
 |true=>exact fun _ h=>.inl h
 |false=>
 cases decide (40≤s.m.length) with
 |true=>exact fun _ h=>.inl h
 |false=>
  intro x hx;have hx:x∈qz s.ids f.2.1:=hx;unfold qz at hx;have e:=List.takeWhile_append_dropWhile (p:=fun x=>decide (x<f.2.1)) (l:=s.ids);rcases List.mem_append.1 hx with hx|hx
  ·exact .inl (e▸List.mem_append_left _ hx)
  ·rcases List.mem_cons.1 hx with hx|hx
   ·exact .inr hx
   ·exact .inl (e▸List.mem_append_right _ hx)
theorem abL (r:qQ)(s:qI)(who:Int)(f:jN):(lk r s who f).2.ids=s.ids:=by
 unfold lk;cases decide (f.1=5) with
 |true=>cases !((decide (f.2.1≥0)&&decide (f.2.1≤r.1-1))&& !decide (f.2.1=who))<;>cases !(decide (f.2.2.1≥-1)&&decide (f.2.2.1≤1152921504606846976))<;>rfl
 |false=>
  cases decide (f.1=6) with
  |true=>cases !(decide (f.2.1≥-1)&&decide (f.2.1≤1152921504606846976))<;>rfl
  |false=>cases !(decide (f.2.1≥0)&&decide (f.2.1≤1152921504606846976))<;>rfl
theorem abM (r:qQ)(s:qI)(who a n:Int):(ll r s who a n).2.ids=s.ids:=by
 unfold ll;cases !(decide (a≥0)&&decide (a≤(r.2.1.length:Int)-1)) with
 |true=>rfl
 |false=>
 cases !(decide (n≥0)&&decide (n≤1099511627776)) with
 |true=>rfl
 |false=>
 simp only[ak];unfold Hd;generalize (s.ho.getD who.toNat []).set a.toNat n=h;cases decide (gH r.2.1 s.pr h>1152921504606846976) with
 |true=>rfl
 |false=>cases decide (gH r.2.1 s.pr h<(s.B.1.getD who.toNat ad).2.1)&&decide ((s.B.1.getD who.toNat ad).1+gH r.2.1 s.pr h<0)<;>rfl
theorem vSj (r:qQ)(s:qI)(a p:Int):(lr r s a p).2.ids=s.ids:=by
 unfold lr;cases !(decide (a≥0)&&decide (a≤(r.2.1.length:Int)-1)) with
 |true=>rfl
 |false=>
 cases !(decide (p≥0)&&decide (p≤1048576)) with
 |true=>rfl
 |false=>
 simp only[ak];unfold HF;cases zY (fun j=> !decide (gK r.2.1 (s.pr.set a.toNat p) s.ho j>1152921504606846976)) s.B.1.length 0<;>rfl
def fld (m:jN)(i:Nat):Int:=[m.2.1,m.2.2.1,m.2.2.2.1,m.2.2.2.2.1,m.2.2.2.2.2.1,m.2.2.2.2.2.2].getD i 0
theorem vZy (x:Int)(m:jN){n:Nat}(hn:n≤6):zd 9999 9999 x n m=some (bif zY (fun j=>decide (fld m j=0)) (6-n) n then .inl x else .inr false):=
 YN (L := fun n i => zd 9999 n x i m) (N := 6) (fun j => decide (fld m j = 0)) (.inl x) (.inr false) (fun n => rfl) (fun n i hi=>by
  show yDu 9999 (zd 9999 n) x i m=_;have:i=0∨i=1∨i=2∨i=3∨i=4∨i=5:=by omega
  rcases this with rfl|rfl|rfl|rfl|rfl|rfl
  ·show(bif !(decide (m.2.1=0)) then _ else _)=bif decide (m.2.1=0) then _ else _
   cases decide (m.2.1=0)<;>rfl
  ·show(bif !(decide (m.2.2.1=0)) then _ else _)=bif decide (m.2.2.1=0) then _ else _
   cases decide (m.2.2.1=0)<;>rfl
  ·show(bif !(decide (m.2.2.2.1=0)) then _ else _)=bif decide (m.2.2.2.1=0) then _ else _
   cases decide (m.2.2.2.1=0)<;>rfl
  ·show(bif !(decide (m.2.2.2.2.1=0)) then _ else _)=bif decide (m.2.2.2.2.1=0) then _ else _
   cases decide (m.2.2.2.2.1=0)<;>rfl
  ·show(bif !(decide (m.2.2.2.2.2.1=0)) then _ else _)=bif decide (m.2.2.2.2.2.1=0) then _ else _
   cases decide (m.2.2.2.2.2.1=0)<;>rfl
  ·show(bif !(decide (m.2.2.2.2.2.2=0)) then _ else _)=bif decide (m.2.2.2.2.2.2=0) then _ else _
   cases decide (m.2.2.2.2.2.2=0)<;>rfl) (6-n) n 9999 (by omega) (by omega)
theorem mI (m:jN)(n:Nat)(hn:n≤6)(h1:uJ 9999 m.1=some (n:Int))(h2:B4 9999 m.1=some (n:Int)):tq 9999 m=lN 9999 m:=by
 unfold tq lN;rw[h1,h2];have e1:yI false (n:Int) 0=(n:Int):=by
  rfl
 simp only[ae];rw[e1,vZy _ m hn,ab (by simp),aa (by simp),aa (by grind),ao];have hl:(qS [m.2.1,m.2.2.1,m.2.2.2.1,m.2.2.2.2.1,m.2.2.2.2.2.1,m.2.2.2.2.2.2] n (6-n)).length=6-n:=by
  unfold qS;simp
 have := eQ (L := fun k i => mH 9999 k (qS [m.2.1, m.2.2.1, m.2.2.2.1, m.2.2.2.2.1, m.2.2.2.2.2.1, m.2.2.2.2.2.2] n (6 - n)) ((6 - n : Nat) : Int) i) (N := 6 - n) (fun j => decide ((qS [m.2.1, m.2.2.1, m.2.2.2.1, m.2.2.2.2.1, m.2.2.2.2.2.1, m.2.2.2.2.2.2] n (6 - n)).getD j 0 = 0)) (.inl ()) (.inr false) (fun k=>by
  show lM 9999 (mH 9999 k) _ _ _=_;unfold lM;simp) (fun k i hi=>by
  show lM 9999 (mH 9999 k) _ _ _=_;unfold lM;rw[aa (by grind),qB,hl,aa hi,ao,qD hi (by omega)];simp) (n:=9999) (by omega)
 have h':mH 9999 9999 (qS [m.2.1,m.2.2.1,m.2.2.2.1,m.2.2.2.2.1,m.2.2.2.2.2.1,m.2.2.2.2.2.2] n (6-n)) ((6-n:Nat):Int) 0=_:=this;have ea:zY (fun j=>decide (fld m j=0)) (6-n) n=zY (fun j=>decide ((qS [m.2.1,m.2.2.1,m.2.2.2.1,m.2.2.2.2.1,m.2.2.2.2.2.1,m.2.2.2.2.2.2] n (6-n)).getD j 0=0)) (6-n) 0:=by
  have:n=0∨n=1∨n=2∨n=3∨n=4∨n=5∨n=6:=by omega
  rcases this with rfl|rfl|rfl|rfl|rfl|rfl|rfl<;>rfl
 grind
theorem abN (kd a b c d e f:Int)(h:1≤kd∧kd≤14):tq 9999 (kd,a,b,c,d,e,f)=lN 9999 (kd,a,b,c,d,e,f):=by
 have:kd=1∨kd=2∨kd=3∨kd=4∨kd=5∨kd=6∨kd=7∨kd=8∨kd=9∨kd=10∨kd=11∨kd=12∨kd=13∨kd=14:=by omega
 rcases this with rfl|rfl|rfl|rfl|rfl|rfl|rfl|rfl|rfl|rfl|rfl|rfl|rfl|rfl
 ·exact mI _ 6 (by decide) rfl rfl
 ·exact mI _ 1 (by decide) rfl rfl
 ·exact mI _ 2 (by decide) rfl rfl
 ·exact mI _ 2 (by decide) rfl rfl
 ·exact mI _ 2 (by decide) rfl rfl
 ·exact mI _ 1 (by decide) rfl rfl
 ·exact mI _ 1 (by decide) rfl rfl
 ·exact mI _ 2 (by decide) rfl rfl
 ·exact mI _ 0 (by decide) rfl rfl
 ·exact mI _ 2 (by decide) rfl rfl
 ·exact mI _ 2 (by decide) rfl rfl
 ·exact mI _ 2 (by decide) rfl rfl
 ·exact mI _ 0 (by decide) rfl rfl
 ·exact mI _ 0 (by decide) rfl rfl
theorem vV5 (r:qQ)(s:qI)(c:vg){X:Type}(bad:Int→X)(Q:X):∃e,yy 9999 r s.st c=some e∧
  (e=0→((10≤c.2.1∧c.2.1≤14∧c.1= -1)∨(1≤c.2.1∧c.2.1≤9∧0≤c.1∧c.1<r.1))∧(s.ov=true→c.2.1=9))∧
  ((CU 9999 r c).bind fun x0=>some (bif !x0 then bad 5 else bif s.ov then(bif !(decide (c.2.1=9)) then bad 7 else Q) else Q))=some (bif decide (e=0) then Q else bad e):=by
 obtain⟨e,he,hm⟩:=aaO (k:=9999) (by decide) r s c;refine⟨e,he,hm,?_⟩;have hA:Sa 9999 c.2.1=some (decide (c.2.1≥1)&&decide (c.2.1≤14)):=by
  unfold Sa;cases decide (c.2.1≥1)<;>rfl
 have hH:Sb 9999 c.2.1=some (decide (c.2.1≥10)&&decide (c.2.1≤14)):=by
  unfold Sb;cases decide (c.2.1≥10)<;>rfl
 by_cases hk:1≤c.2.1∧c.2.1≤14
 ·obtain⟨b,hb⟩:=qTe (k:=9999) (by decide) c.2;have bg:tq 9999 c.2=some b:=(abN _ _ _ _ _ _ _ hk).trans hb;have eo:s.st.2.2.2.2.2.2.2.2.2.2=s.ov:=rfl;unfold yy at he;rw[yCa,yCw,hb,eo] at he;simp only[ae] at he;unfold CU;rw[hA,hH,bg];simp only[ae];clear hm hA hH hb bg;generalize decide (c.1≥0)=A at he⊢;generalize decide (c.2.1≥10)=B at he⊢;generalize decide (c.2.1≤14)=C at he⊢;generalize decide (c.2.1≥1)=D at he⊢;generalize decide (c.1= -1)=E at he⊢;generalize decide (c.1<r.1)=F at he⊢;generalize decide (c.2.1=9)=G at he⊢;generalize s.ov=o at he⊢;cases A<;>cases B<;>cases C<;>cases D<;>cases E<;>cases F<;>cases G<;>cases b<;>cases o<;>(cases he;rfl)
 ·have g:(decide (c.2.1≥1)&&decide (c.2.1≤14))=false:=by
   by_cases a:c.2.1≥1
   ·rw[aa a,ab (fun b=>hk ⟨a,b⟩)];rfl
   ·rw[ab a];rfl
  have e5:e=5:=by
   unfold yy at he;rw[yCa,yCw,g] at he;simp only[ae] at he;cases hd:decide (c.1≥0)<;>rw[hd] at he<;>(cases he;rfl)
  subst e5;unfold CU;rw[hA,g];rfl
structure Dlt (r:qQ) (s:qI) (f:jN) (t:qI) (l:List yD):Prop where
 inv:yJ r t
 ov:t.ov=s.ov
 few:l.length≤2
 kd:Kd l
 ids:∀x∈t.ids,x∈s.ids∨x=f.2.1
structure CV (r:qQ) (s:qI) (f:jN) (t:qI) (o:List yD) (e:Int):Prop where
 inv:yJ r t
 bad:e≠0→t=s∧o=[]
 ne:oH o
 few:o.length≤200
 ids:∀x∈t.ids,x∈s.ids∨x=f.2.1
theorem CV.none {r:qQ}{s:qI}{f:jN}(h:yJ r s)(e:Int):CV r s f s [] e:=⟨h,fun _=>⟨rfl,rfl⟩,fun x hx=>absurd hx List.not_mem_nil,Nat.zero_le _,fun _ h=>.inl h⟩
theorem kn (who a:Int)(kd:Int)(h:kd≠16∧kd≠23):Kd [nD who kd a]:=qW3 h
structure H5 (r:qQ) (s:qI) (who:Int) (f:jN) (t:qI) (l l':List yD) (paid:Int):Prop where
 dealt:Dlt r s f t l
 told:l=(if who= -1 then l' else nD who 15 0::l')
 paid:paid=if f.1=1 then f.2.1 else 0
 pos:f.1=1→0<f.2.1
theorem abO {r:qQ}{s:qI}{who:Int}{f:jN}(h:(jg r s who f).1=0):0<f.2.1:=by
 unfold jg at h;cases h1:decide (f.2.2.1≥0)&&decide (f.2.2.1≤r.1-1) with
 |false=>rw[h1] at h;cases h
 |true=>
 cases h2:decide (f.2.2.2.2.1≥1)&&decide (f.2.2.2.2.1≤3) with
 |false=>rw[h1,h2] at h;cases h
 |true=>
 rw[h1,h2] at h;simp only[aA,ak] at h;by_cases hc:nC r s.t (gd who f)=0
 ·unfold nC at hc;cases hb:lh r.1 s.t (gd who f) with
  |false=>rw[hb] at hc;cases hc
  |true=>
   unfold lh at hb;simp only[aR,ba] at hb;have:(gd who f).1≥1:=hb.2.2.1;have e:(gd who f).1=f.2.1:=rfl;omega
 ·rw[ab hc] at h;exact absurd h hc
theorem abP {r:qQ}(hr:jC r){s:qI}(h:yJ r s)(ho:s.ov=false){who:Int}(hw:0≤who∧who<r.1){f:jN}(hf:1≤f.1∧f.1≤8):
  ∃e d d',Sc 9999 (dk r s who [nD who 15 0]) f=some (e,d)∧zu 9999 (rk r s who) f=some (e,d')∧(e=0→∃t l l' paid,d=dk r t who l∧d'=qR r t who l' paid∧H5 r s who f t l l' paid):=by
 unfold Sc zu;have sJ:¬who= -1:=by omega
 have kn:=kn who 0 15 (by decide);by_cases h1:f.1=1
 ·rw[aa h1];obtain⟨d,e1,e2⟩:=aaK (k:=9999) (by decide) hr h.waits who [nD who 15 0] f;obtain⟨d',q1,q2⟩:=abk (k:=9999) (by decide) hr h.waits who f;simp only[ag];rw[e1,q1];exact⟨_,d,d',rfl,rfl,fun e=>⟨_,_,_,_,e2 e,q2 e,⟨h.queue ho (abf hr h e),rfl,by simp,kn,vUi e⟩,(if_neg sJ).symm,(if_pos h1).symm,fun _=>abO e⟩⟩
 rw[ab h1];by_cases hq:f.1=2∨f.1=3∨f.1=4
 ·obtain⟨d,e1,e2⟩:=vZo (k:=9999) (by decide) h.waits who (l:=[nD who 15 0]) (by simp) f;obtain⟨d',q1,q2⟩:=abl (k:=9999) (by decide) (r:=r) h.waits who f hq;have g:∃e d d',(CA 9999 (dk r s who [nD who 15 0]) f).bind (fun x=>some (x.1,x.2))=some (e,d)∧(CO 9999 (rk r s who) f.1 f.2).bind (fun x=>some (x.1,x.2))=some (e,d')∧(e=0→∃t l l' paid,d=dk r t who l∧d'=qR r t who l' paid∧H5 r s who f t l l' paid):=by
   rw[e1,q1];refine⟨_,d,d',rfl,rfl,fun e=>⟨_,_,_,_,e2 e,q2 e,⟨h.queue ho (abg h e),rfl,?_,kn.append abJ,fun _ h=>.inl h⟩,?_,(if_neg h1).symm,fun e'=>absurd e' h1⟩⟩
   ·have:=vXz (r:=r) (s:=s) (who:=who) (f:=f);rw[ay];simp;omega
   ·rw[if_neg sJ];rfl
  rcases hq with e|e|e
  ·rw[aa e];exact g
  ·rw[ab (show¬f.1=2 by omega),aa e];exact g
  ·rw[ab (show¬f.1=2 by omega),ab (show¬f.1=3 by omega),aa e];exact g
 rw[ab (show¬f.1=2 by omega),ab (show¬f.1=3 by omega),ab (show¬f.1=4 by omega)];by_cases hq:f.1=5∨f.1=6∨f.1=7
 ·obtain⟨d,e1,e2⟩:=aaL (k:=9999) (by decide) hr h.bk h.n hw [nD who 15 0] f;obtain⟨d',q1,q2⟩:=abm (k:=9999) (by decide) hr h.bk h.n hw f;have g:∃e d d',(CB 9999 (dk r s who [nD who 15 0]) f).bind (fun x=>some (x.1,x.2))=some (e,d)∧(CP 9999 (rk r s who) f.1 f.2).bind (fun x=>some (x.1,x.2))=some (e,d')∧(e=0→∃t l l' paid,d=dk r t who l∧d'=qR r t who l' paid∧H5 r s who f t l l' paid):=by
   rw[e1,q1];have cf:=abG r s who f;exact⟨_,d,d',rfl,rfl,fun e=>⟨_,_,_,_,e2 e,q2 e,⟨vQp h hw e,cf.2.1,by simp,kn,by rw[abL];exact fun _ h=>.inl h⟩,(if_neg sJ).symm,(if_neg h1).symm,fun e'=>absurd e' h1⟩⟩
  rcases hq with e|e|e
  ·rw[aa e];exact g
  ·rw[ab (show¬f.1=5 by omega),aa e];exact g
  ·rw[ab (show¬f.1=5 by omega),ab (show¬f.1=6 by omega),aa e];exact g
 rw[ab (show¬f.1=5 by omega),ab (show¬f.1=6 by omega),ab (show¬f.1=7 by omega),aa (show f.1=8 by omega)];obtain⟨d,e1,e2⟩:=aaM (k:=9999) (by decide) hr h hw [nD who 15 0] f.2.1 f.2.2.1;obtain⟨d',q1,q2⟩:=vVo hr h hw f.2.1 f.2.2.1;simp only[ag,ak];rw[e1,q1];have cf:=abH r s who f.2.1 f.2.2.1;exact⟨_,d,d',rfl,rfl,fun e=>⟨_,_,_,_,e2 e,q2 e,⟨abh hr h hw e,cf.2.1,by simp,kn,by rw[abM];exact fun _ h=>.inl h⟩,(if_neg sJ).symm,(if_neg h1).symm,fun e'=>absurd e' h1⟩⟩
theorem abQ {r:qQ}(hr:jC r){s:qI}(h:yJ r s){f:jN}(hf:10≤f.1∧f.1≤13):
  ∃e d d',H6 9999 (gJ r s (-1)) f=some (e,d)∧zu 9999 (rk r s (-1)) f=some (e,d')∧(e=0→∃t l l' paid,d=dk r t (-1) l∧d'=qR r t (-1) l' paid∧H5 r s (-1) f t l l' paid):=by
 unfold H6 zu;have h1:¬f.1=1:=by omega
 rw[ab h1,ab (show¬f.1=2 by omega),ab (show¬f.1=3 by omega),ab (show¬f.1=4 by omega),ab (show¬f.1=5 by omega),ab (show¬f.1=6 by omega),ab (show¬f.1=7 by omega),ab (show¬f.1=8 by omega)];by_cases hq:f.1=10∨f.1=11
 ·obtain⟨d,e1,e2⟩:=abb (k:=9999) (by decide) hr h (-1) f.1 f.2.1 f.2.2.1;obtain⟨d',q1,q2⟩:=abn hr h (-1) f.1 f.2.1 f.2.2.1 hq;have g:∃e d d',(HB 9999 (gJ r s (-1)) f.1 f.2.1 f.2.2.1).bind (fun x=>some (x.1,x.2))=some (e,d)∧(HK 9999 (rk r s (-1)) (decide (f.1=10)) f.2.1 f.2.2.1).bind (fun x=>some (x.1,x.2))=some (e,d')∧(e=0→∃t l l' paid,d=dk r t (-1) l∧d'=qR r t (-1) l' paid∧H5 r s (-1) f t l l' paid):=by
   rw[e1,q1];refine⟨_,d,d',rfl,rfl,fun e=>?_⟩;obtain⟨g1,g2,g3,g4,g5⟩:=abi h e;exact⟨_,_,_,_,e2 e,q2 e,⟨g1,vZ5,by simp,zt,by rw[g4];exact fun _ h=>.inl h⟩,rfl,(if_neg h1).symm,fun e'=>absurd e' h1⟩
  rcases hq with e|e
  ·have e1:decide (f.1=10)=true:=aa e;rw[e1] at g⊢;exact g
  ·have e1:decide (f.1=10)=false:=ab;rw[e1] at g⊢;rw[aa e];exact g
 rw[ab (show¬f.1=10 by omega),ab (show¬f.1=11 by omega)];by_cases hp:f.1=12
 ·rw[aa hp];obtain⟨d,e1,e2⟩:=vYe (k:=9999) (by decide) hr h (-1) f.2.1 f.2.2.1;obtain⟨d',q1,q2⟩:=abp hr h (-1) f.2.1 f.2.2.1;simp only[ag,ak];rw[e1,q1];have cf:=abI r s f.2.1 f.2.2.1;exact⟨_,d,d',rfl,rfl,fun e=>⟨_,_,_,_,e2 e,q2 e,⟨abj h e,cf.2.1,by simp,zt,by rw[vSj];exact fun _ h=>.inl h⟩,rfl,(if_neg h1).symm,fun e'=>absurd e' h1⟩⟩
 ·rw[ab hp];exact⟨_,_,_,rfl,rfl,fun _=>⟨s,[],[],0,rfl,rfl,⟨h,rfl,by simp,zt,fun _ h=>.inl h⟩,rfl,(if_neg h1).symm,fun e'=>absurd e' h1⟩⟩
def Se (who kd:Int)(x4:Int×MOT):Option (tn×List yD×Int):=
  bif !(decide (who = (-1))) then ((fK 9999 15 []).bind fun x5=>
   (oG 9999 x4.2.2.2.2.2.2.1 x4.2.2.2.2.2.2.2.1 x4.2.2.2.2.2.2.2.2.1 x4.2.2.2.2.2.2.2.2.2.1 x4.2.2.2.2.2.2.2.2.2.2.1 x4.2.2.2.2.2.2.2.2.2.2.2.1 x4.2.2.2.2.2.2.2.2.2.2.2.2.1 x4.2.2.2.2.2.2.2.2.2.2.2.2.2.1 x4.2.2.2.2.2.2.2.2.2.2.2.2.2.2.1 x4.2.2.2.2.2.2.2.2.2.2.2.2.2.2.2.1 x4.2.2.2.2.2.2.2.2.2.2.2.2.2.2.2.2.1 (decide (kd=13))).bind fun x6=>
   bif zL (1 + x4.2.2.2.2.2.2.2.2.2.2.2.2.2.2.2.2.2.2.1.length) 64 then (let y0:List yD:=([(who,x5)]++x4.2.2.2.2.2.2.2.2.2.2.2.2.2.2.2.2.2.2.1)
    bif zL (y0.length + x6.2.2.2.2.2.2.2.2.2.2.2.length) 64 then (bif decide (x4.2.2.2.2.2.2.2.2.2.2.2.2.2.2.2.2.2.2.2 > 0) then ((mE 9999 x6.2.2.2.2.2.2.2.1 x4.2.2.2.2.2.2.2.2.2.2.2.2.2.2.2.2.2.2.2).bind fun x7=>
      bif decide (x7 ≥ 0) then ((fK 9999 19 [x4.2.2.2.2.2.2.2.2.2.2.2.2.2.2.2.2.2.2.2]).bind fun x8=>
       bif zL ((y0 ++ x6.2.2.2.2.2.2.2.2.2.2.2).length + 1) 64 then (let y1:List yD:=((y0++x6.2.2.2.2.2.2.2.2.2.2.2)++[(who,x8)])
        some ((qO x6),y1,0))
       else none)
      else some ((qO x6),(y0++x6.2.2.2.2.2.2.2.2.2.2.2),0))
     else some ((qO x6),(y0++x6.2.2.2.2.2.2.2.2.2.2.2),0))
    else none)
   else none)
  else(oG 9999 x4.2.2.2.2.2.2.1 x4.2.2.2.2.2.2.2.1 x4.2.2.2.2.2.2.2.2.1 x4.2.2.2.2.2.2.2.2.2.1 x4.2.2.2.2.2.2.2.2.2.2.1 x4.2.2.2.2.2.2.2.2.2.2.2.1 x4.2.2.2.2.2.2.2.2.2.2.2.2.1 x4.2.2.2.2.2.2.2.2.2.2.2.2.2.1 x4.2.2.2.2.2.2.2.2.2.2.2.2.2.2.1 x4.2.2.2.2.2.2.2.2.2.2.2.2.2.2.2.1 x4.2.2.2.2.2.2.2.2.2.2.2.2.2.2.2.2.1 (decide (kd=13))).bind fun x9=>
  bif zL x4.2.2.2.2.2.2.2.2.2.2.2.2.2.2.2.2.2.2.1.length 64 then (let y2:List yD:=x4.2.2.2.2.2.2.2.2.2.2.2.2.2.2.2.2.2.2.1
   bif zL (y2.length + x9.2.2.2.2.2.2.2.2.2.2.2.length) 64 then (bif decide (x4.2.2.2.2.2.2.2.2.2.2.2.2.2.2.2.2.2.2.2 > 0) then ((mE 9999 x9.2.2.2.2.2.2.2.1 x4.2.2.2.2.2.2.2.2.2.2.2.2.2.2.2.2.2.2.2).bind fun bV=>
     bif decide (bV ≥ 0) then ((fK 9999 19 [x4.2.2.2.2.2.2.2.2.2.2.2.2.2.2.2.2.2.2.2]).bind fun cw=>
      bif zL ((y2 ++ x9.2.2.2.2.2.2.2.2.2.2.2).length + 1) 64 then (let y3:List yD:=((y2++x9.2.2.2.2.2.2.2.2.2.2.2)++[(who,cw)])
       some ((qO x9),y3,0))
      else none)
     else some ((qO x9),(y2++x9.2.2.2.2.2.2.2.2.2.2.2),0))
    else some ((qO x9),(y2++x9.2.2.2.2.2.2.2.2.2.2.2),0))
   else none)
  else none
def CW (r:qQ)(s:tn)(c:vg):Option (tn×List yD×Int):=
  bif decide (c.2.1 = 9) then (bif zB c.1 s.2.1.length then ((uS 9999 s.2.2.2.2.2.2.2.1 c.1).bind fun x1=>
    (fK 9999 17 [(s.2.1.getD c.1.toNat (0,0,0)).1,(s.2.1.getD c.1.toNat (0,0,0)).2.1,(s.2.1.getD c.1.toNat (0,0,0)).2.2,(x1.length:Int),s.1]).bind fun x2=>
    some (s,[(c.1,x2)],0))
   else none)
  else bif decide (c.2.1 = 14) then ((H4 9999 r s).bind fun x3=>
   some (x3.1,x3.2,0))
  else(zu 9999 (vI r (vD s (c.1,0))) c.2).bind fun x4=>
  bif !(decide (x4.1=0)) then some (s,[],x4.1)
  else Se c.1 c.2.1 x4
theorem abR (r:qQ)(s:tn)(c:vg):H7 9999 r s c=(CU 9999 r c).bind fun x0=>
  bif !x0 then some (s,[],5) else bif s.2.2.2.2.2.2.2.2.2.2 then(bif !(decide (c.2.1=9)) then some (s,[],7) else CW r s c) else CW r s c:=rfl
theorem vBr {r:qQ}(hr:jC r){s t:qI}(ho:s.ov=false){who:Int}{l l':List yD}{f:jN}{paid:Int}(hB:H5 r s who f t l l' paid):
    ∃ u o, ((u9 9999 t.t t.B.1 t.B.2.1 t.B.2.2.1 t.B.2.2.2 t.pr t.ho t.m t.ids t.to t.ov (decide (f.1=13))).bind fun x5=>
      bif zL (l.length + x5.2.2.2.2.2.2.2.2.2.2.2.length) 64 then (let y0:List yD:=(l++x5.2.2.2.2.2.2.2.2.2.2.2)
       bif decide (f.1 = 1) then ((py 9999 x5.2.2.2.2.2.2.2.1 f.2.1).bind fun x6=>
        bif decide (x6 ≥ 0) then ((yx 9999 (Sf ((0:Int),dk r t who l) y0) 19 [f.2.1]).bind fun x7=>
         some ((qO x5),x7.2.2.2.2.2.2.2.2.2.2.2.2.2.2.2.2.2,(0:Int)))
        else some ((qO x5),y0,0))
       else some ((qO x5),y0,0))
      else none)=some (u.st,o,(0:Int))∧Se who f.1 (0,qR r t who l' paid)=some (u.st,o,(0:Int))∧yJ r u∧oH o∧o.length≤200∧u.ids=t.ids:=by
  have h:=hB.dealt.inv;have vy:=hB.dealt.ov.trans ho;have hl:=hB.dealt.few;have hm:=h.waits.len;obtain⟨C,m',d,e1,MZ,e3,e4,e5,e6,e7⟩:=yMc h.bk h.waits.dist h.waits.may (by omega) t.t t.pr t.ho t.ids t.to t.ov (decide (f.1=13));have hd:d.length≤40:=by
    have:=e6.length_eq;rw[ay] at this;omega
  have my:=e5.length_le;have Ev:=G0 d;have hu:=h.settled vy e3 e4 e5;have dL:l'.length≤2:=by
    have:=hB.told;by_cases hw:who= -1
    · rw[if_pos hw] at this;rw[←this];exact hl
    · rw[if_neg hw] at this;rw[this,List.length_cons] at hl;omega
  have key:Se who f.1 (0,qR r t who l' paid)=bif decide (paid>0) then(bif decide (fi m' paid≥0) then some ((t.t,C.1,C.2.1,C.2.2.1,C.2.2.2,t.pr,t.ho,m',t.ids,t.to,t.ov),(l++vT d)++[nD who 19 paid],(0:Int)) else some ((t.t,C.1,C.2.1,C.2.2.1,C.2.2.2,t.pr,t.ho,m',t.ids,t.to,t.ov),l++vT d,0)) else some ((t.t,C.1,C.2.1,C.2.2.1,C.2.2.2,t.pr,t.ho,m',t.ids,t.to,t.ov),l++vT d,0):=by
    have es:oG 9999 (qR r t who l' paid).2.2.2.2.2.1 (qR r t who l' paid).2.2.2.2.2.2.1 (qR r t who l' paid).2.2.2.2.2.2.2.1 (qR r t who l' paid).2.2.2.2.2.2.2.2.1 (qR r t who l' paid).2.2.2.2.2.2.2.2.2.1 (qR r t who l' paid).2.2.2.2.2.2.2.2.2.2.1 (qR r t who l' paid).2.2.2.2.2.2.2.2.2.2.2.1 (qR r t who l' paid).2.2.2.2.2.2.2.2.2.2.2.2.1 (qR r t who l' paid).2.2.2.2.2.2.2.2.2.2.2.2.2.1 (qR r t who l' paid).2.2.2.2.2.2.2.2.2.2.2.2.2.2.1 (qR r t who l' paid).2.2.2.2.2.2.2.2.2.2.2.2.2.2.2.1 (decide (f.1=13))=_:=MZ;have eo:(qR r t who l' paid).2.2.2.2.2.2.2.2.2.2.2.2.2.2.2.2.2.1=l':=rfl;have ep:(qR r t who l' paid).2.2.2.2.2.2.2.2.2.2.2.2.2.2.2.2.2.2=paid:=rfl;have ef:mE 9999 m' paid=some (fi m' paid):=LP (by omega) (by omega) paid;unfold Se;simp only[es,eo,ep,Of0,CT,ae];have ht:=hB.told;by_cases hw:who= -1
    · rw[if_pos hw] at ht;rw[aa hw,qF (n:=l'.length),qF (n:=l'.length+(vT d).length) (by omega) (by omega),qF (n:=(l'++vT d).length+1) (by rw[ay];omega) (by rw[ay];omega),ht];simp only[aA,ak,ag];rw[ef];rfl
    · rw[if_neg hw] at ht;have er:[((who,(15,0,0,0,0,0,0)):yD)]++l'=l:=ht.symm;rw[ab hw,er,qF (n:=1+l'.length),qF (n:=l.length+(vT d).length) (by omega) (by omega),qF (n:=(l++vT d).length+1) (by rw[ay];omega) (by rw[ay];omega)];simp only[bO,ag];rw[ef];rfl
  rw[e1,key];simp only[ae];rw[qF (n:=l.length+(vT d).length) (by omega) (by omega)];simp only[ag];have fin:∀(o:List yD) {x:Option (tn×List yD×Int)},o.length≤200→oH o→x=some (({t with B:=C,m:=m'}:qI).st,o,(0:Int))→∃u o',some (({t with B:=C,m:=m'}:qI).st,o,(0:Int))=some (u.st,o',(0:Int))∧x=some (u.st,o',(0:Int))∧yJ r u∧oH o'∧o'.length≤200∧u.ids=t.ids:=fun o _ hl hk hx=>⟨{t with B:=C,m:=m'},o,rfl,hx,hu,hk,hl,rfl⟩
  have k1:Kd (l++vT d):=hB.dealt.kd.append (yEg _);have b1:(l++vT d).length≤199:=by rw[ay];omega
  have b2:∀x:yD,(l++vT d++[x]).length≤200:=fun x=>by rw[ay];simp;rw[ay] at b1;omega
  have hp:=hB.paid;by_cases h1:f.1=1
  · rw[if_pos h1] at hp;subst hp;rw[aa h1,aa (show f.2.1>0 from hB.pos h1)];simp only[ag];rw[Gg (by omega) (by omega)];simp only[ae];cases decide (fi m' f.2.1≥0) with
    |false=>exact fin _ (by omega) k1.ne rfl
    |true=>
      simp only[ag];have ej:Sf ((0:Int),dk r t who l) (l++vT d)=dk r t who (l++vT d):=rfl;rw[ej,yP2 (by rw[ay];omega)];exact fin _ (b2 _) (k1.append (kn _ _ _ (by decide))).ne rfl
  · rw[if_neg h1] at hp;subst hp;rw[ab h1,ab (show¬(0:Int)>0 by decide)];exact fin _ (by omega) k1.ne rfl
theorem abS {r:qQ}{s:qI}(h:yJ r s){who:Int}(hw:0≤who∧who<r.1)(c:vg)(hc:c.1=who)(h9:c.2.1=9):
  ∃o,Sg 9999 s.st who=some o∧CW r s.st c=some (s.st,o,0)∧o.length≤200∧oH o:=by
 have hm:=h.waits.len;have hn:=h.n;have hb:zB who s.B.1.length=true:=wT hw.1 (by omega);have e1:s.st.2.1=s.B.1:=rfl;have e2:s.st.2.2.2.2.2.2.2.1=s.m:=rfl;unfold Sg CW;rw[aa h9,hc,e1,e2,hb,yN0 (by omega) (by unfold yB;omega),QU (by omega) (by unfold yB;omega)];simp only[ag,ae,Of5];exact⟨_,rfl,rfl,by simp,(qW3 ⟨by simp,by simp⟩).ne⟩
theorem yG9 {r:qQ}(hr:jC r){s:qI}(h:yJ r s)(c:vg):
  ∃t o e,H8 9999 r s.st c=some (t.st,o,e)∧H7 9999 r s.st c=some (t.st,o,e)∧CV r s c.2 t o e:=by
 obtain⟨e,he,hm,hb⟩:=vV5 r s c (fun e=>(some (s.st,[],e):Option (tn×List yD×Int))) (CW r s.st c);have hR:H7 9999 r s.st c=bif decide (e=0) then CW r s.st c else some (s.st,[],e):=by
  rw[abR];have eo:s.st.2.2.2.2.2.2.2.2.2.2=s.ov:=rfl;rw[eo];cases hx:CU 9999 r c with
  |none=>rw[hx] at hb;cases hb
  |some x=>
   rw[hx] at hb;simp only[ae,Option.some.injEq] at hb;exact hb
 unfold H8;rw[he,hR];simp only[ae];by_cases h0:e=0
 ·obtain⟨hw,vy⟩:=hm h0;rw[aa h0];simp only[aA,ak,ag];by_cases h9:c.2.1=9
  ·have xE:0≤c.1∧c.1<r.1:=by omega
   obtain⟨o,ho,lZ,hol,fT⟩:=abS h xE c rfl h9;rw[aa h9,lZ];simp only[ag];rw[ho];exact⟨s,o,0,rfl,rfl,h,fun e=>absurd rfl e,fT,hol,fun _ h=>.inl h⟩
  ·have ho:s.ov=false:=by
    cases g:s.ov with
    |false=>rfl
    |true=>exact absurd (vy g) h9
   have fin:∀{t:qI} {x y:Option (tn×List yD×Int)},(∀x∈t.ids,x∈s.ids∨x=c.2.2.1)→(∃u o,x=some (u.st,o,(0:Int))∧y=some (u.st,o,(0:Int))∧yJ r u∧oH o∧o.length≤200∧u.ids=t.ids)→∃t o e,x=some (t.st,o,e)∧y=some (t.st,o,e)∧CV r s c.2 t o e:=by
    intro t x y hi ⟨u,o,g1,Co,g2,g3,g4,g5⟩;exact⟨u,o,0,g1,Co,g2,fun e=>absurd rfl e,g3,g4,by rw[g5];exact hi⟩
   unfold CW;rw[ab h9];simp only[ak];by_cases hp:c.1= -1
   ·rw[aa hp];have hf:10≤c.2.1∧c.2.1≤14:=by omega
    have ed:vI r (vD s.st c.1)=gJ r s (-1):=by rw[hp];rfl
    have er:vI r (vD s.st (c.1,0))=rk r s (-1):=by rw[hp];rfl
    simp only[aA,ak];rw[ed,er];by_cases h14:c.2.1=14
    ·have g0:H6 9999 (gJ r s (-1)) c.2=some (0,dk r s (-1) []):=by
      unfold H6;rw[h14];rfl
     rw[g0];simp only[ae];rw[aa h14];have aS:=h.tk;have JQ:=hr.cl;have Mv:=hr.pe;obtain⟨x,x1,x2⟩:=abD r h.bk h.waits.dist h.waits.may (by have:=h.waits.len;omega) ⟨by omega,by omega⟩ (by omega) ho;obtain⟨C,m',ov,o,y1,y2,_,_,y3,y4⟩:=abF (k:=9999) (by decide) hr h ho;rw[x1] at y1;have y1:=Option.some.inj y1;subst y1;refine⟨_,o,0,(congrArg (fun z=>Option.bind z _) x1).trans rfl,(congrArg (fun z=>Option.bind z _) x2).trans rfl,y2,fun e=>absurd rfl e,?_,by omega,fun _ h=>.inl h⟩;rcases y4 with⟨_,_,rfl,_⟩|⟨l,d,n,rfl,_,_,_⟩
     ·exact(vDr (.inr rfl) _).ne.append (abK _ _)
     ·exact((vDr (.inl rfl) _).append (yEg _)).ne
    ·obtain⟨e,d,d',g1,Co,g2⟩:=abQ hr h (f:=c.2) (by omega);rw[g1,ab h14,Co];simp only[ae,ak];by_cases hz:e=0
     ·obtain⟨t,l,l',paid,rfl,rfl,hd⟩:=g2 hz;rw[aa hz,hp];simp only[aA,ak];subst hz;exact fin hd.dealt.ids (vBr hr ho hd)
     ·rw[ab hz];exact⟨s,[],e,rfl,rfl,CV.none h e⟩
   ·rw[ab hp,ab (show¬c.2.1=14 by omega)];have hf:1≤c.2.1∧c.2.1≤8:=by omega
    have xE:0≤c.1∧c.1<r.1:=by omega
    have ed:Sh 9999 (vI r (vD s.st c.1)) 15 []=some (dk r s c.1 [nD c.1 15 0]):=rfl;have er:vI r (vD s.st (c.1,0))=rk r s c.1:=rfl;obtain⟨e,d,d',g1,Co,g2⟩:=abP hr h ho xE (f:=c.2) hf;simp only[bO,ag,ak];rw[ed,er,Co];simp only[ae];rw[g1];simp only[ae];by_cases hz:e=0
    ·obtain⟨t,l,l',paid,rfl,rfl,hd⟩:=g2 hz;rw[aa hz];simp only[aA,ak];subst hz;exact fin hd.dealt.ids (vBr hr ho hd)
    ·rw[ab hz];exact⟨s,[],e,rfl,rfl,CV.none h e⟩
 ·rw[ab h0];exact⟨s,[],e,rfl,rfl,CV.none h e⟩
theorem vPv (m:jN):tq 9999 m=lN 9999 m:=by
 have hm:=E1 m.1;by_cases h:yO m.1<0
 ·obtain⟨b,h1,h2⟩:=vWt (k:=9999) (by decide) m;obtain⟨c,h3⟩:=qTe (k:=9999) (by decide) m;have hb:b=false:=by
   grind
  have hc:c=false:=by
   cases c with
   |false=>rfl
   |true=>have:=(vKb h3).1;omega
  simp_all
 ·obtain⟨n,hn⟩:∃n:Nat,yO m.1=n:=⟨(yO m.1).toNat,by omega⟩;exact mI m n (by omega) (by rw[KR,hn]) (by rw[P8,hn])
def vz (s t:qI):Prop:=∀i,i<s.B.1.length→(t.B.1.getD i ad).1<(s.B.1.getD i ad).1→0≤(t.B.1.getD i ad).1+(t.B.1.getD i ad).2.1
theorem vz.same {s t}(h:∀i,i<s.B.1.length→(t.B.1.getD i ad).1=(s.B.1.getD i ad).1):vz s t:=fun i hi aS=>by simp_all
theorem vz.refl s:vz s s:=vz.same (by simp)
theorem vz.set {s t:qI}{j:Nat}{a:yG}(h:t.B.1=s.B.1.set j a)(ha:a.1<(s.B.1.getD j ad).1→0≤a.1+a.2.1):vz s t:=fun i hi=>by
 rw[h,fF];split
 ·next h=>rw[←h.1];exact ha
 ·omega
structure ajQ (r:qQ) (s:qI) (f:jN) (t:qI) (l:List yD):Prop where
 inv:yJ r t
 tk:t.t=s.t
 ov:t.ov=s.ov
 few:l.length≤2
 to:t.to=s.to+(if f.1=10 then f.2.2.1 else if f.1=11 then-f.2.2.1 else 0)
 fell:vz s t
 kd:Kd l
 ids:∀x∈t.ids,x∈s.ids∨x=f.2.1
structure Did (k:Nat) (r:qQ) (s:qI) (c:vg) (t:qI) (o:List yD) (e:Int):Prop where
 inv:yJ r t
 bad:e≠0→t=s∧o=[]
 to:e=0→t.to=s.to+(if c.2.1=10 then c.2.2.2.1 else if c.2.1=11 then-c.2.2.2.1 else 0)
 still:t=s∨(t.ov=false→fZ k t.B (wM t.m t.t)=none)
 fell:vz s t
 ne:oH o
 few:o.length≤100
 ids:∀x∈t.ids,x∈s.ids∨x=c.2.2.1
instance CX:DecidableEq zJ:=fun a b=>inferInstanceAs (Decidable (a=b))
theorem vSp {k}{a b:List zJ}(hk:a.length<k)(hl:a.length<9223372036854775808):Nb k a b=some (decide (a=b)):=by
 unfold Nb;by_cases hlen:a.length=b.length
 case neg=>
  have e:decide (((a.length:Nat):Int)=((b.length:Nat):Int))=false:=by grind
  have:a≠b:=by grind
  simp_all
 have e:decide (((a.length:Nat):Int)=((b.length:Nat):Int))=true:=by grind
 have := eQ (L := fun n i => Nc k n a b i) (N := a.length) (fun i => decide (a.getD i pd = b.getD i pd)) (.inl ()) (.inr false) (fun n=>by
  show H9 k _ a b a.length=_;unfold H9;simp) (fun n i hi=>by
  show H9 k _ a b i=_;unfold H9;have e7:=eq7 (a.getD i pd) (b.getD i pd);simp only[qB,qD hi hl];simp_all) hk
 rw[this,Lf pd hlen];grind
theorem yZ5 {r s}(hr:jC r)(h:yJ r s):v9 9999 s.st s.st=some true:=by
 have hb:jA s.B.1 s.B.2.1 s.B.2.2.1 s.B.2.2.2:=h.bk;have hZ:=h.bk.n6;have pj:=h.bk.n1;have hm:=h.waits.len;have hi:=h.waits.idl;have h3:=hr.n3;have hL:=h.laid 0 (by omega);have e1:Li 9999 s.B.1 s.B.2.1 s.B.2.2.1 s.B.2.2.2 s.B.1 s.B.2.1 s.B.2.2.1 s.B.2.2.2=some true:=by
  rw[Zl (by decide) hb.toSized];simp
 have e2:uL 9999 s.pr s.pr=some true:=by rw[Qs (by rw[hL.pl];omega) (by rw[hL.pl];omega),aa rfl]
 have e3:B8 9999 s.ho s.ho=some true:=by
  have hol:=h.hol;rw [Zk (by omega) (by omega) (fun i hi=>by
   have:=(h.laid i (by omega)).hl;omega),aa rfl]
 have e4:Nb 9999 s.m s.m=some true:=by rw[vSp (by omega) (by omega),aa rfl]
 have e5:uL 9999 s.ids s.ids=some true:=by rw[Qs (by omega) (by omega),aa rfl]
 unfold v9;have f0:s.st.1=s.t:=rfl;have f9:s.st.2.2.2.2.2.2.2.2.2.1=s.to:=rfl;have f10:s.st.2.2.2.2.2.2.2.2.2.2=s.ov:=rfl;have q:iR s.ov s.ov=true:=by cases s.ov<;>rfl
 rw[f0,f9,f10,aa rfl,aa rfl,q];refine(congrArg (fun z=>Option.bind z _) e1).trans ?_;refine(congrArg (fun z=>Option.bind z _) e2).trans ?_;refine(congrArg (fun z=>Option.bind z _) e3).trans ?_;refine(congrArg (fun z=>Option.bind z _) e4).trans ?_;refine(congrArg (fun z=>Option.bind z _) e5).trans ?_;rfl
def oI (r:qQ):qI where
 t:=0
 B:=(List.replicate r.1.toNat (0,0,0),List.replicate r.1.toNat (List.replicate r.1.toNat (-1)),List.replicate r.1.toNat (-1),List.replicate r.1.toNat (List.replicate r.1.toNat 0))
 pr:=r.2.1.map Prod.fst
 ho:=List.replicate r.1.toNat (List.replicate r.2.1.length 0)
 m:=[]
 ids:=[]
 to:=0
 ov:=false
structure Ia (r:qQ):Prop where
 ok:jC r
 inv:yJ r (oI r)
 new:rz 9999 r=some (oI r).st
 cl:r.2.2.2.1≤20
 ajD:rz 20000 r=some (oI r).st
theorem Si n:lg n [] [] where
 dist:=List.Pairwise.nil
 len:=by decide
 sort:=List.Pairwise.nil
 may:=by simp
 time:=by simp
 were:=by simp
 asc:=List.Pairwise.nil
 pos:=by simp
 idl:=by decide
def r0:qQ:=(3,[(100,1000),(7,0)],12,20,4)
def r1:qQ:=(4,[(100,1000),(7,0)],12,20,100)
def r2:qQ:=(3,[],20,20,4)
def r3:qQ:=(3,[(100,1000),(7,0)],0,6,1)
theorem yAy {pr h}(h1:pr=[100,7])(h2:h=[0,0]):kq [(100,1000),(7,0)] pr h:=by
 subst h1;subst h2;exact⟨by decide,rfl,rfl,by decide,by decide,by decide⟩
theorem Sj {B}(h:kY B.1 B.2.1 B.2.2.1 B.2.2.2=true):qX B:=Ft.1 h
theorem abT:Ia r0:=⟨⟨by decide,by decide,by decide,by decide,by decide,by decide,by decide⟩,
  { tk:=by decide,bk:=Sj (by rfl),n:=rfl,hol:=rfl,
    laid:=fun i hi=>by
      have e:∀i,i<(oI r0).B.1.length→(oI r0).ho.getD i []=[0,0]:=by decide
      exact yAy rfl (e i hi)
    cred:=by decide,most:=by decide,waits:=Si _,sum:=by decide,tot:=by decide,over:=by decide,none:=nofun},by rfl,by decide,by rfl⟩
theorem abU:Ia r1:=⟨⟨by decide,by decide,by decide,by decide,by decide,by decide,by decide⟩,
  { tk:=by decide,bk:=Sj (by rfl),n:=rfl,hol:=rfl,
    laid:=fun i hi=>by
      have e:∀i,i<(oI r1).B.1.length→(oI r1).ho.getD i []=[0,0]:=by decide
      exact yAy rfl (e i hi)
    cred:=by decide,most:=by decide,waits:=Si _,sum:=by decide,tot:=by decide,over:=by decide,none:=nofun},by rfl,by decide,by rfl⟩
theorem abV:Ia r2:=⟨⟨by decide,by decide,by decide,by decide,by decide,by decide,by decide⟩,
  { tk:=by decide,bk:=Sj (by rfl),n:=rfl,hol:=rfl,
    laid:=fun i hi=>by
      have e:∀i,i<(oI r2).B.1.length→(oI r2).ho.getD i []=[]:=by decide
      rw[e i hi];exact⟨by decide,rfl,rfl,by decide,by decide,by decide⟩
    cred:=by decide,most:=by decide,waits:=Si _,sum:=by decide,tot:=by decide,over:=by decide,none:=nofun},by rfl,by decide,by rfl⟩
theorem vP6:Ia r3:=⟨⟨by decide,by decide,by decide,by decide,by decide,by decide,by decide⟩,
  { tk:=by decide,bk:=Sj (by rfl),n:=rfl,hol:=rfl,
    laid:=fun i hi=>by
      have e:∀i,i<(oI r3).B.1.length→(oI r3).ho.getD i []=[0,0]:=by decide
      exact yAy rfl (e i hi)
    cred:=by decide,most:=by decide,waits:=Si _,sum:=by decide,tot:=by decide,over:=by decide,none:=nofun},by rfl,by decide,by rfl⟩
structure Tk (L:wA) (N:Nat):Prop where
 side:L.1=0∨L.1=1
 gen:1≤L.2.1∧L.2.1≤(N:Int)+1
 rows:0≤L.2.2.1∧L.2.2.1≤(N:Int)
 stale:L.2.2.2=false
theorem Tk.more {L N M}(h:Tk L N)(hN:N≤M):Tk L M:=⟨h.side,⟨h.gen.1,by have:=h.gen.2;omega⟩,⟨h.rows.1,by have:=h.rows.2;omega⟩,h.stale⟩
structure ajR (k:Nat) (s:xS) (b:AC):Prop where
 is:kl k s=some b
 len:b.length≤50000
end Go.Ab.Gi
